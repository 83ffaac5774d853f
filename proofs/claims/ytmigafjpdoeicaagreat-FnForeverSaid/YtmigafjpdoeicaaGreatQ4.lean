/-
  The functions that a law reaches, each as a pure function, with the proof that the program computes it, and the step from a pure law to the given statement. Conditions: none.
-/
import Derived.Test.YtmigafjpdoeicaaGreatQ3
set_option linter.unusedVariables false
set_option maxRecDepth 100000
set_option maxHeartbeats 4000000
namespace Go.Proofs.YtmigafjpdoeicaaGreat
open Go Sl
noncomputable def impl_MTen_snapAt_1 (s : MSnap) (c0_ : Int) : Option Bool :=
  some (decide (s.Seq = c0_))
theorem impl_MTen_snapAt_1_c {s : MSnap} {c0_ : Int} {U0 : Value} {U1 : Nat} : Cn Tryz.prog 132 [.agg #[iv s.Seq, U0], pt U1] [.box U1 3 [iv c0_]] [(U0, lc s.Map)] (impl_MTen_snapAt_1 s c0_) (fun r (_ : Unit) => .bool r) fun _ _ => [.box U1 3 [iv c0_]] := by
  unfold impl_MTen_snapAt_1
  refine Ci Tryz.func132 r r ?_
  rintro w S ⟨Z0,-⟩
  exact Sr<|Fo (Bx r (Ca ⟨Op',Ob Z0,⟨⟩⟩)) fun B1=>Qs 1 r<|Nx<|Sr<|Yo (Fb kf121_0 r)<|Yo (Lb 0 kk3 r)<|Yo (Lb 1 kk3 r)<|Qs 2 r<|Nx<|Wr<|Re () [1]
noncomputable def slices_IndexFunc_19507_at_impl_MTen_snapAt_1 (s : List MSnap) (f_c0 : Int) : Option Int :=
  bindC (loopO (fun (S1 : Int) => if (decide (S1 < ((s.length : Nat) : Int))) = true then ((idx s S1).bind fun E6 =>
  (impl_MTen_snapAt_1 E6 f_c0).bind fun R9 =>
  if R9 = true then (some (.done (.done S1)))
  else (some (.go (IntKind.i64.wrap (S1 + (1 : Int))))))
  else (some (.done (.go ()))))
  (0 : Int))
  (fun (T3 : Unit) => some (-1 : Int))
theorem slices_IndexFunc_19507_at_impl_MTen_snapAt_1_c {s : List MSnap} {f_c0 : Int} {U0 : Value} {U1 : Nat} : Cn Tryz.prog 131 [U0, .func (.func 132) #[] #[pt U1]] [.box U1 3 [iv f_c0]] [(U0, lc s)] (slices_IndexFunc_19507_at_impl_MTen_snapAt_1 s f_c0) (fun r (_ : Unit) => iv r) fun _ _ => [.box U1 3 [iv f_c0]] := by
  unfold slices_IndexFunc_19507_at_impl_MTen_snapAt_1
  refine Ci Tryz.func131 r r ?_
  rintro w S ⟨Z0,-⟩
  refine Sr<|Qs 1 r<|Nx<|Sq<|Sr<|Qs 1 r<|Yo (Ln ke88 (Bc Z0) r)<|Qs 1 r<|Nx<|Ju [] (fun _=>[]) r1 (?_) fun T3=>?_
  ·refine Wb<|Lu [0,1,7] (fun T=>[(8, iv T)]) r1 fun S1=>Sr<|Qs 1 r<|Nx<|Sq<|Wc r (fun H5=>?_) fun H5=>?_
   ·refine Sn<|Sq<|Wb<|Sr<|Qs 2 r<|Nx<|Sr<|Qs 3 r<|Bi fun E6 H7=>Yo (Ix ke88 (Bc Z0) H7 r)<|?_
    have Q8 : Base w S (elv w U0 (S1.toNat * 2 + 1)) (lc E6.Map):=Base.el Z0 (idx_get H7).2.2 r r
    exact Yo (Lz kk121 Z0 H7 r)<|Bi fun R9 H10=>Fo (Cw [0] impl_MTen_snapAt_1_c H10 r r r1 ⟨(Bc Q8),⟨⟩⟩) fun _=>Nx<|Wc r (fun H12=>Sr<|Qs 2 r<|Nx<|Wr<|Br<|Tr<|Er<|Br<|Jd<|Tr<|Re () [0]) fun H12=>Sk<|Bn<|Ne<|Rg<|Qs 2 r<|Nl<|Lg () [0]
   exact Wx<|Tx<|Ex<|Be<|Jg () [0]
  exact Ne<|Sr<|Qs 1 r<|Nx<|Wr<|Re () [0]
noncomputable def slices_Delete_19507 (s : List MSnap) (i : Int) (j : Int) : Option (List MSnap) :=
  (piece s i j).bind fun E1 =>
  if (decide (i = j)) = true then (some s)
  else ((piece s (0 : Int) i).bind fun E5 =>
  (piece s j ((s.length : Nat) : Int)).bind fun E7 =>
  some (E5 ++ E7))
theorem slices_Delete_19507_c {s : List MSnap} {i : Int} {j : Int} {U0 : Value} : Cn Tryz.prog 84 [U0, iv i, iv j] [.own U0 (lc s)] [] (slices_Delete_19507 s i j) (fun _ (X : Value) => X) fun r X => [.own X (lc r)] := by
  unfold slices_Delete_19507
  refine Ci Tryz.func84 r r ?_
  rintro w S -
  refine Sr<|Qs 1 r<|Nx<|Sr<|Qs 4 r<|Yo (Ln ke88 (Oc 0 r) r)<|Bi fun E1 H2=>TO.fact (Can.cap (Can.own 0 r)) fun H3=>Yo (Y.subs3 H2 ke88 (Oc 0 r) r r r r)<|Nx<|Sq<|Sr<|Qs 3 r<|Nx<|Wc r (fun H4=>Sr<|Qs 2 r<|Nx<|Wr<|Tr<|Re U0 [0]) fun H4=>Sn<|Sr<|Qs 1 r<|Yo (Ln ke88 (Oc 0 r) r)<|Qs 1 r<|Nx<|Sq<|Wi fun E5 H6=>Wi fun E7 H8=>Jw Unit [7] [] (fun _=>[(0, delV U0 (E5 ++ E7).length)]) (fun _=>[.own (delV U0 (E5 ++ E7).length) (lc (E5 ++ E7))]) r1 r1 (?_) fun X10=>?_
  ·exact Dr [] r hMix<|Aq [0,1,3,4] [] r<|A2 2 5 (Xy [] r (Y.subs H6 ke88 (Oc 0 r) r r ⟨_, r⟩)<|A1 5<|Xy [] r (Y.subs H8 ke88 (Oc 0 r) r ⟨_, r⟩ r)<|A1 6<|Xe [] r (Ef.del (α := MSnap) (is' := []) [0] H2 H6 H8 ke88 r r r r) fun _=>Aq [7] [] r<|Az<|Bg () [0])<|Xy [] r (Y.subs H8 ke88 (Oc 0 r) r ⟨_, r⟩ r)<|A1 2<|Xy [] r (Y.subs H6 ke88 (Oc 0 r) r r ⟨_, r⟩)<|A1 6<|Xe [] r (Ef.del (α := MSnap) (is' := []) [0] H2 H6 H8 ke88 r r r r) fun _=>Aq [7] [] r<|Az<|Bg () [0]
  exact Ne<|Sr<|Qs 2 r<|Yo (Ln ke88 (Oc 0 r) r)<|Qs 1 r<|Yo (Y.tail (hi := s.length) H3 (del_le H2 H6 H8) ke88 r r r)<|Fu (Ef.clearTail (k := 0) H3 (del_le H2 H6 H8) ke88 kz121 r r r r)<|Nx<|Sr<|Qs 2 r<|Nx<|Wr<|Re (delV U0 (E5 ++ E7).length) [0]
noncomputable def impl_Model_write_el0_MTen_of (m : Model) (t : Int) (c : Call) : Option (Reply × Model) :=
  (idx m.Tens t).bind fun E1 =>
  (impl_BatchOk c.Ops).bind fun R6 =>
  if (!R6) = true then ((impl_no (1 : Int)).bind fun R10 =>
  some (R10, m))
  else ((impl_applied E1.Map c.Ops).bind fun R17 =>
  (impl_bytesOf R17).bind fun R20 =>
  (impl_quotaOf m.Shares E1.Id).bind fun R23 =>
  if (decide (R20 > R23)) = true then ((impl_no (3 : Int)).bind fun R27 =>
  some (R27, m))
  else (bindC (loopO (fun (S30 : Int × Int) => if (decide (S30.2 < ((m.Rows.length : Nat) : Int))) = true then ((idx m.Rows S30.2).bind fun E35 =>
  bindC (if (decide (E35.Tenant = E1.Id)) = true then (some (.go (IntKind.i64.wrap (S30.1 + (1 : Int)))))
  else (some (.go S30.1)))
  (fun (T40 : Int) => some (.go (T40, IntKind.i64.wrap (S30.2 + (1 : Int))))))
  else (some (.done (.go S30.1))))
  ((0 : Int), (0 : Int)))
  (fun (T32 : Int) => bindC (if (decide (T32 ≥ (6 : Int))) = true then ((impl_Model_flush m E1.Id).bind fun R46 =>
  some (.go (R46.2.Secret, R46.2.Shares.Size, R46.2.Base, R46.2.Rows)))
  else (some (.go (m.Secret, m.Shares.Size, m.Base, m.Rows))))
  (fun (T43 : List UInt8 × Int × List MTen × List MRow) => (slices_Clone_6733 c.Ops).bind fun R50 =>
  (app 40 T43.2.2.2 ([{ Tenant := E1.Id, Ops := R50, Synced := false : MRow }])).bind fun E56 =>
  (idx (m.Tens.set t.toNat ({ Id := E1.Id, Epoch := E1.Epoch, Seq := IntKind.i64.wrap (E1.Seq + (1 : Int)), Map := R17, Snaps := E1.Snaps : MTen })) t).bind fun E61 =>
  some ({ Code := (0 : Int), N := E61.Seq, Text := [], List := ([] : List KV) : Reply }, { Secret := T43.1, Shares := { Size := T43.2.1, List := m.Shares.List : Shares }, Tens := m.Tens.set t.toNat ({ Id := E1.Id, Epoch := E1.Epoch, Seq := IntKind.i64.wrap (E1.Seq + (1 : Int)), Map := R17, Snaps := E1.Snaps : MTen }), Base := T43.2.2.1, Rows := E56 : Model })))))
theorem impl_Model_write_el0_MTen_of_c {m : Model} {t : Int} {c : Call} {U0 U1 U2 U3 U5 : Value} {U4 : Nat} : Cn Tryz.prog 78 [pt U4, elP U1 (t.toNat * 5 + 0), .agg #[iv c.Kind, strV c.Token, iv c.Tenant, iv c.N, strV c.Key, strV c.To, U5]] [.box U4 36 [strV m.Secret, iv m.Shares.Size, U0, U1, U2, U3], .own U1 (lc m.Tens), .own U2 (lc m.Base), .own U3 (lc m.Rows)] [(U0, lc m.Shares.List), (U5, lc c.Ops)] (impl_Model_write_el0_MTen_of m t c) (fun r (X : Value × Value) => .agg #[iv r.1.Code, iv r.1.N, strV r.1.Text, X.1]) fun r X => [.box U4 36 [strV r.2.Secret, iv r.2.Shares.Size, U0, U1, U2, X.2], .own U1 (lc r.2.Tens), .own U2 (lc r.2.Base), .own X.2 (lc r.2.Rows), .own X.1 (lc r.1.List)] := by
  unfold impl_Model_write_el0_MTen_of
  refine Ci Tryz.func78 r r ?_
  rintro w S ⟨Z0,Z1,-⟩
  refine Wi fun E1 H2=>TW.fact (ptr_of (Can.own 1 r) H2) fun H3=>Sr<|Fo (Bx r (Ca ⟨Op',Op',Op',Op',Op',Op',Ob Z1,⟨⟩⟩)) fun B4=>Fo (Al kz41 r) fun B5=>Nx<|Sq<|Sr<|Yo (Fb kf46_6 r)<|Yo (Lb 1 kk44 r)<|Bi fun R6 H7=>Fo (Cl [] impl_BatchOk_c H7 r r1 ⟨(Bc Z1),⟨⟩⟩) fun _=>Qs 1 r<|Nx<|Wc r (fun H9=>?_) fun H9=>?_
  ·exact Sr<|Bi fun R10 H11=>Fo (Cl [] impl_no_c H11 r r1) fun Y12=>Fu (Sb 1 kk41 r (Ca ⟨Op',Op',Op',Ow' 0,⟨⟩⟩) r)<|Nx<|Wr<|Tr<|TE.leaf fun _ _ hf_ hs_ => ret_any (rs := [.cell 6 41]) (vs := [.agg #[iv R10.Code, iv R10.N, strV R10.Text, Y12]]) (.inl r) r (RV.cell 1 r r kk41 r ⟨⟩) hf_ hs_ ⟨(Y12, U3), r, hs_.pulls [3, 3, 3, 3, 0] r⟩
  refine Sn<|Sq<|Dr [0,0,0,1,1] r hMix<|Aq [0] [0,0,0,1,1] r<|Ay 1 [0,0,0,1,1] r (Np H3 r)<|Ay 2 [0,0,0,1,1] r (Fp kf90_3 H3 r)<|Ay 4 [0,0,0,1,1] r (Fb kf46_6 r)<|Ay 5 [0,0,0,1,1] r (Lb 1 kk44 r)<|Ga (X := Value × Value) (Ho 2 [3] H2 r r1) fun X16=>A1 3<|Xy [3,3,3,3,3] r (Lh 0 kk39 H2 r)<|Ai fun R17 H18=>A1 6<|Xe [4,4,4,4,4] r (Cl [] impl_applied_c H18 r r1 ⟨(Oc 1 r),(Bc Z1),⟨⟩⟩) fun Y19=>Aq [7] [4,4,4,4,4] r<|Az<|Ne<|Sq<|Sq<|Dr [0,0,0,0,0,0,0,0,0] r hMix<|Aq [0,2,3] [0,0,0,0,0,0,0,0,0] r<|Ay 4 [0,0,0,0,0,0,0,0,0] r (Fb kf36_1 r)<|Ay 5 [0,0,0,0,0,0,0,0,0] r (Lb 6 kk32 r)<|Aq [6] [0,0,0,0,0,0,0,0,0] r<|Ay 7 [0,0,0,0,0,0,0,0,0] r (Np H3 r)<|Ay 8 [0,0,0,0,0,0,0,0,0] r (Fp kf90_0 H3 r)<|Ay 9 [0,0,0,0,0,0,0,0,0] r (Lh 1 kk3 H2 r)<|Ai fun R20 H21=>?_
  refine A1 1<|Xe [0,0,0,0,0,0,0,0,0] r (Cl [] impl_bytesOf_c H21 r r1 ⟨(Oc 0 r),⟨⟩⟩) fun _=>Ai fun R23 H24=>A1 10<|Xe [0,0,0,0,0,0,0,0,0] r (Cl [] impl_quotaOf_c H24 r r1 ⟨(Bc Z0),⟨⟩⟩) fun _=>Aq [11] [0,0,0,0,0,0,0,0,0] r<|Az<|Ne<|Wc r (fun H26=>?_) fun H26=>?_
  ·exact Sr<|Bi fun R27 H28=>Fo (Cl [] impl_no_c H28 r r1) fun Y29=>Fu (Sb 5 kk41 r (Ca ⟨Op',Op',Op',Ow' 0,⟨⟩⟩) r)<|Nx<|Wr<|Tr<|Ke (Hs [2, 2, 2] H2 r (Ck (Ck (Ck (Cf (Cf Cz))))))<|TE.leaf fun _ _ hf_ hs_ => ret_any (rs := [.cell 6 41]) (vs := [.agg #[iv R27.Code, iv R27.N, strV R27.Text, Y29]]) (.inl r) r (RV.cell 3 r r kk41 r ⟨⟩) hf_ hs_ ⟨(Y29, U3), r, hs_.pulls [5, 0, 4, 4, 0] r⟩
  refine Sn<|Sr<|Qs 1 r<|Nx<|Sq<|Sr<|Qs 2 r<|Yo (Fb kf36_4 r)<|Yo (Lb 6 kk34 r)<|Yo (Ln ke34 (Oc 8 r) r)<|Qs 1 r<|Nx<|Jn Unit [0,1,5,6,7] [6,5,4,4,4,0] (fun T _=>[(8, iv T)]) (fun _ _=>[.own U1 (lc m.Tens)]) r2 r2 (?_) fun T32 X33=>?_
  ·refine Wb<|Kw (Hs [1, 1, 1] H2 r (Ck (Ck (Ck (Cf (Cf Cz))))))<|Lu [0,1,5,6,7,39,40] (fun T=>[(8, iv T.1), (41, iv T.2)]) r1 fun S30=>Sr<|Qs 1 r<|Nx<|Sq<|Wc r (fun H34=>?_) fun H34=>?_
   ·refine Sn<|Sq<|Wb<|Sr<|Bi fun E35 H36=>Yo (Ix ke34 (Oc 6 r) H36 r)<|TO.fact (ptr_of (Can.own 6 r) H36) fun H37=>Gt (X := Value) (Ho 1 [6] H36 r r1) fun X38=>Yo (Lh 0 kk95 H36 r)<|Fo (Al kz95 r) fun B39=>Fu (Sb 0 kk95 r (Ca ⟨Op',Ow' 2,Op',⟨⟩⟩) r)<|Nx<|Sq<|Dr [0,0,0,0,0,0,0,0,0] r hMix<|Ay 0 [0,0,0,0,0,0,0,0,0] r (Fb kf95_0 r)<|Ay 1 [0,0,0,0,0,0,0,0,0] r (Lb 0 kk3 r)<|Aq [2] [0,0,0,0,0,0,0,0,0] r<|Ay 3 [0,0,0,0,0,0,0,0,0] r (Np H3 r)<|Ay 4 [0,0,0,0,0,0,0,0,0] r (Fp kf90_0 H3 r)<|Ay 5 [0,0,0,0,0,0,0,0,0] r (Le kk3 (Oc 3 r) H2 r)<|Aq [6] [0,0,0,0,0,0,0,0,0] r<|Az<|Ne<|Jn Unit [0,1,5,6,7,39,40,41] [7,6,5,3,4,3] (fun T _=>[(8, iv T)]) (fun _ _=>[.own U3 (lc m.Rows)]) r2 r2 (Wc r (fun H42=>Rg<|Qs 3 r<|Nl<|Ke (Hs [1, 1] H36 r (Ck (Cf (Ck Cz))))<|Jg () [6,5,4,2,3,2,0]) fun H42=>Sk<|Ke (Hs [1, 1] H36 r (Ck (Cf (Ck Cz))))<|Jg () [6,5,4,2,3,2,0]) fun T40 X41=>?_
    exact Bn<|Ne<|Rg<|Qs 2 r<|Nl<|Lg () [3,4,2,1,0,0,0]
   exact Wx<|Tx<|Ex<|Be<|Jg () [4,3,2,2,2,1,0]
  refine Ne<|Sq<|Sr<|Qs 2 r<|Nx<|Jn Value [0,1,5,6,7] [1,1,4,3] (fun _ _=>[]) (fun T X=>[.box U4 36 [strV T.1, iv T.2.1, U0, U1, U2, X], .own U2 (lc T.2.2.1), .own X (lc T.2.2.2)]) r2 r2 (Wc r (fun H45=>Rg<|Qs 2 r<|Yo (Np H3 r)<|Yo (Fp kf90_0 H3 r)<|Yo (Le kk3 (Oc 6 r) H2 r)<|Bi fun R46 H47=>Fo (Cl [0, 2, 2] impl_Model_flush_c H47 r r1 ⟨(Bc Z0),(Oc 3 r),⟨⟩⟩) fun Y48=>Nl<|Jg Y48.2 [4,4,5,4,0,0,0]) fun H45=>Sk<|Jg U3 [1,1,4,3,0,0,0]) fun T43 X44=>Ne<|Sr<|Qs 2 r<|Yo (Np H3 r)<|Yo (Fp kf90_3 H3 r)<|Gt (X := Value × Value) (Ho 2 [2] H2 r r1) fun X49=>?_
  refine Fu (Sh 0 [.raw Y19] kk39 H2 r (Co 5) r)<|Nx<|Sr<|Qs 1 r<|Yo (Np H3 r)<|Yo (Fp kf90_2 H3 r)<|Yo (Lh 0 kk3 H2 r)<|Qs 1 r<|Yo (Np H3 r)<|Yo (Fp kf90_2 H3 r)<|Fu (Sh 0 [ic (IntKind.i64.wrap (E1.Seq + (1 : Int)))] kk3 H2 r (Cp r) r)<|Nx<|Sq<|Wi fun R50 H51=>Wi fun E56 H57=>Jw Value [1,6] [4,6] (fun _=>[]) (fun X=>[.box U4 36 [strV T43.1, iv T43.2.1, U0, U1, U2, X], .own U1 (lc (m.Tens.set t.toNat ({ Id := E1.Id, Epoch := E1.Epoch, Seq := IntKind.i64.wrap (E1.Seq + (1 : Int)), Map := R17, Snaps := E1.Snaps : MTen }))), .own X (lc E56)]) r1 r1 (?_) fun X59=>?_
  ·refine Dr [0,0,0,0,0,0,1] r hMix<|Aq [0,1,2] [0,0,0,0,0,0,1] r<|Ay 3 [0,0,0,0,0,0,1] r (Fb kf36_4 r)<|Aq [5] [0,0,0,0,0,0,1] r<|Ay 6 [0,0,0,0,0,0,1] r (Np H3 r)<|Ay 7 [0,0,0,0,0,0,1] r (Fp kf90_0 H3 r)<|Ay 8 [0,0,0,0,0,0,1] r (Lh 0 kk3 H2 r)<|Ay 9 [0,0,0,0,0,0,1] r (Fb kf46_6 r)<|Ay 10 [0,0,0,0,0,0,1] r (Lb 3 kk44 r)<|A2 4 11 (?_)<|?_
   ·exact Xy [0,0,0,0,0,0,1] r (Lb 6 kk34 r)<|A1 11<|Xe [1,1,1,1,1,1,2] r (Cl [] slices_Clone_6733_c H51 r r1 ⟨(Bc Z1),⟨⟩⟩) fun Y61=>A1 12<|Xy [1,1,1,1,1,1,2] r (Bd kp95 kz95 (Pc r (Cp r)<|Pc r (Co 0)<|Pz) r)<|A1 13<|Xe [2,2,2,2,2,2,3] r (Bk [ic E1.Id, .raw Y61, .bool false] ke34 kz95 r (Qc (Ca ⟨Op',Ow' 0,Op',⟨⟩⟩)<|Qz)) fun B62=>Ka (Ha [0, 0] ([{ Tenant := E1.Id, Ops := R50, Synced := false : MRow }] : List MRow) r (Ck (Cf (Ck Cz))))<|A1 14<|Xe [1,1,1,1,1,1,2] r (Aw [9, 0] H57 ke34 kz95 r) fun V63=>Aq [15] [1,1,1,1,1,1,2] r<|Ay 16 [1,1,1,1,1,1,2] r (Fb kf36_4 r)<|A1 17<|Xu [1,1,1,1,1,1,2] r (Sb 7 kk34 r (Co 0) r)<|Az<|Ke (Hc [1, 5, 2] ({ Id := E1.Id, Epoch := E1.Epoch, Seq := IntKind.i64.wrap (E1.Seq + (1 : Int)), Map := R17, Snaps := E1.Snaps : MTen }) H2 r (Ck (Ck (Ck (Cf (Cf Cz))))))<|Bg V63 [4,5,4,0,0]
   refine Xe [1,1,1,1,1,1,2] r (Cl [] slices_Clone_6733_c H51 r r1 ⟨(Bc Z1),⟨⟩⟩) fun Y60=>A2 4 12 (?_)<|?_
   ·exact Xy [1,1,1,1,1,1,2] r (Lb 7 kk34 r)<|A1 12<|Xy [1,1,1,1,1,1,2] r (Bd kp95 kz95 (Pc r (Cp r)<|Pc r (Co 0)<|Pz) r)<|A1 13<|Xe [2,2,2,2,2,2,3] r (Bk [ic E1.Id, .raw Y60, .bool false] ke34 kz95 r (Qc (Ca ⟨Op',Ow' 0,Op',⟨⟩⟩)<|Qz)) fun B61=>Ka (Ha [0, 0] ([{ Tenant := E1.Id, Ops := R50, Synced := false : MRow }] : List MRow) r (Ck (Cf (Ck Cz))))<|A1 14<|Xe [1,1,1,1,1,1,2] r (Aw [9, 0] H57 ke34 kz95 r) fun V62=>Aq [15] [1,1,1,1,1,1,2] r<|Ay 16 [1,1,1,1,1,1,2] r (Fb kf36_4 r)<|A1 17<|Xu [1,1,1,1,1,1,2] r (Sb 7 kk34 r (Co 0) r)<|Az<|Ke (Hc [1, 5, 2] ({ Id := E1.Id, Epoch := E1.Epoch, Seq := IntKind.i64.wrap (E1.Seq + (1 : Int)), Map := R17, Snaps := E1.Snaps : MTen }) H2 r (Ck (Ck (Ck (Cf (Cf Cz))))))<|Bg V62 [4,5,4,0,0]
   refine Xy [1,1,1,1,1,1,2] r (Bd kp95 kz95 (Pc r (Cp r)<|Pc r (Co 0)<|Pz) r)<|A2 4 13 (?_)<|?_
   ·exact Xy [1,1,1,1,1,1,2] r (Lb 7 kk34 r)<|A1 13<|Xe [2,2,2,2,2,2,3] r (Bk [ic E1.Id, .raw Y60, .bool false] ke34 kz95 r (Qc (Ca ⟨Op',Ow' 0,Op',⟨⟩⟩)<|Qz)) fun B62=>Ka (Ha [0, 0] ([{ Tenant := E1.Id, Ops := R50, Synced := false : MRow }] : List MRow) r (Ck (Cf (Ck Cz))))<|A1 14<|Xe [1,1,1,1,1,1,2] r (Aw [9, 0] H57 ke34 kz95 r) fun V63=>Aq [15] [1,1,1,1,1,1,2] r<|Ay 16 [1,1,1,1,1,1,2] r (Fb kf36_4 r)<|A1 17<|Xu [1,1,1,1,1,1,2] r (Sb 7 kk34 r (Co 0) r)<|Az<|Ke (Hc [1, 5, 2] ({ Id := E1.Id, Epoch := E1.Epoch, Seq := IntKind.i64.wrap (E1.Seq + (1 : Int)), Map := R17, Snaps := E1.Snaps : MTen }) H2 r (Ck (Ck (Ck (Cf (Cf Cz))))))<|Bg V63 [4,5,4,0,0]
   exact Xe [2,2,2,2,2,2,3] r (Bk [ic E1.Id, .raw Y60, .bool false] ke34 kz95 r (Qc (Ca ⟨Op',Ow' 0,Op',⟨⟩⟩)<|Qz)) fun B61=>Ka (Ha [0, 0] ([{ Tenant := E1.Id, Ops := R50, Synced := false : MRow }] : List MRow) r (Ck (Cf (Ck Cz))))<|A1 4<|Xy [1,1,1,1,1,1,2] r (Lb 7 kk34 r)<|A1 14<|Xe [1,1,1,1,1,1,2] r (Aw [9, 0] H57 ke34 kz95 r) fun V62=>Aq [15] [1,1,1,1,1,1,2] r<|Ay 16 [1,1,1,1,1,1,2] r (Fb kf36_4 r)<|A1 17<|Xu [1,1,1,1,1,1,2] r (Sb 7 kk34 r (Co 0) r)<|Az<|Ke (Hc [1, 5, 2] ({ Id := E1.Id, Epoch := E1.Epoch, Seq := IntKind.i64.wrap (E1.Seq + (1 : Int)), Map := R17, Snaps := E1.Snaps : MTen }) H2 r (Ck (Ck (Ck (Cf (Cf Cz))))))<|Bg V62 [4,5,4,0,0]
  exact Ne<|Sr<|Qs 1 r<|Bi fun E61 H62=>Yo (Np H3 r)<|Yo (Fp kf90_2 H3 r)<|Yo (Le kk3 (Oc 3 r) H62 r)<|Yo (Bd kp41 kz41 (Pc r (Cp r)<|Pz) r)<|Fu (Sb 0 kk41 r (Cp r) r)<|Nx<|Wr<|TE.leaf fun _ _ hf_ hs_ => ret_any (rs := [.cell 6 41]) (vs := [.agg #[iv (0 : Int), iv E61.Seq, strV ([]), .slice none 0 0]]) (.inl r) r (RV.cell 0 r r kk41 r ⟨⟩) hf_ hs_ ⟨((.slice none 0 0), X59), r, (hs_.nilItem 2).pulls [3, 3, 2, 2, 0] r⟩
noncomputable def impl_MTen_snap_el0_MTen (tl_ : List MTen) (t : Int) : Option (Reply × List MTen) :=
  (idx tl_ t).bind fun E1 =>
  (if (decide (((E1.Snaps.length : Nat) : Int) > (0 : Int))) = true then ((idx E1.Snaps (IntKind.i64.wrap (((E1.Snaps.length : Nat) : Int) - (1 : Int)))).bind fun E9 =>
  some (decide (E9.Seq = E1.Seq)))
  else (some false)).bind (fun (T6 : Bool) =>
  if T6 = true then (some ({ Code := (0 : Int), N := E1.Seq, Text := [], List := ([] : List KV) : Reply }, tl_))
  else (if (decide (((E1.Snaps.length : Nat) : Int) ≥ (2 : Int))) = true then ((impl_no (4 : Int)).bind fun R14 =>
  some (R14, tl_))
  else ((slices_Clone_74624 E1.Map).bind fun R26 =>
  (app 32 E1.Snaps ([{ Seq := E1.Seq, Map := R26 : MSnap }])).bind fun E31 =>
  (idx (tl_.set t.toNat ({ Id := E1.Id, Epoch := E1.Epoch, Seq := E1.Seq, Map := E1.Map, Snaps := E31 : MTen })) t).bind fun E44 =>
  some ({ Code := (0 : Int), N := E44.Seq, Text := [], List := ([] : List KV) : Reply }, (tl_.set t.toNat ({ Id := E1.Id, Epoch := E1.Epoch, Seq := E1.Seq, Map := E1.Map, Snaps := E31 : MTen }))))))
theorem impl_MTen_snap_el0_MTen_c {tl_ : List MTen} {t : Int} {U0 : Value} : Cn Tryz.prog 81 [elP U0 (t.toNat * 5 + 0)] [.own U0 (lc tl_)] [] (impl_MTen_snap_el0_MTen tl_ t) (fun r (X : Value) => .agg #[iv r.1.Code, iv r.1.N, strV r.1.Text, X]) fun r X => [.own U0 (lc r.2), .own X (lc r.1.List)] := by
  unfold impl_MTen_snap_el0_MTen
  refine Ci Tryz.func81 r r ?_
  rintro w S -
  refine Wi fun E1 H2=>TW.fact (ptr_of (Can.own 0 r) H2) fun H3=>Sr<|Fo (Al kz41 r) fun B4=>Nx<|Sr<|Qs 1 r<|Yo (Np H3 r)<|Yo (Fp kf90_4 H3 r)<|Gt (X := Value × Value) (Ho 2 [1] H2 r r1) fun X5=>Yo (Lh 0 kk88 H2 r)<|Yo (Ln ke88 (Oc 2 r) r)<|Qs 1 r<|Nx<|Sq<|Sq<|Jb Unit [0,2,3] [3] (fun T _=>[(26, .bool T)]) (fun _ _=>[.own U0 (lc tl_)]) r2 r2 (?_) fun T6 X7=>?_
  ·refine Dr [0,0,0,0] r hMix<|Aq [0,1,2] [0,0,0,0] r<|Ia (fun H8=>?_) fun H8=>?_
   ·exact Ag 3 [0,0,0,0] (gdA (beq_tt H8)) r (Y.move r)<|Ag 4 [0,0,0,0] (gdA (beq_tt H8)) r (Np H3 r)<|Ag 5 [0,0,0,0] (gdA (beq_tt H8)) r (Fp kf90_4 H3 r)<|Ag 6 [0,0,0,0] (gdA (beq_tt H8)) r (Lh 0 kk88 H2 r)<|Ag 7 [0,0,0,0] (gdA (beq_tt H8)) r (Y.move r)<|Ag 8 [0,0,0,0] (gdA (beq_tt H8)) r (Y.sub r r)<|Ai fun E9 H10=>Ag 9 [0,0,0,0] (gdA (beq_tt H8)) r (Ix ke88 (Oc 2 r) H10 r)<|Ag 10 [0,0,0,0] (gdA (beq_tt H8)) r (Fe kf121_0 (Oc 2 r) H10 r)<|Ag 11 [0,0,0,0] (gdA (beq_tt H8)) r (Le kk3 (Oc 2 r) H10 r)<|Ag 12 [0,0,0,0] (gdA (beq_tt H8)) r (Y.move r)<|Ag 13 [0,0,0,0] (gdA (beq_tt H8)) r (Np H3 r)<|Ag 14 [0,0,0,0] (gdA (beq_tt H8)) r (Fp kf90_2 H3 r)<|Ag 15 [0,0,0,0] (gdA (beq_tt H8)) r (Lh 0 kk3 H2 r)<|Ag 16 [0,0,0,0] (gdA (beq_tt H8)) r (Y.eql r r)<|Ay 17 [0,0,0,0] r (Pt H8 r)<|Az<|Ke (Hs [0, 0, 0] H2 r (Ck (Ck (Ck (Cf (Cf Cz))))))<|Bg () [1,0]
   exact Ax [3,4,5,6,7,8,9,10,11,12,13,14,15,16] [0,0,0,0] (beq_ft H8) r r<|Ay 17 [0,0,0,0] r (Pf H8 r)<|Az<|Ke (Hs [0, 0, 0] H2 r (Ck (Ck (Ck (Cf (Cf Cz))))))<|Bg () [1,0]
  refine Ne<|Wc r (fun H11=>?_) fun H11=>?_
  ·exact Sr<|Qs 1 r<|Yo (Np H3 r)<|Yo (Fp kf90_2 H3 r)<|Yo (Le kk3 (Oc 1 r) H2 r)<|Yo (Bd kp41 kz41 (Pc r (Cp r)<|Pz) r)<|Fu (Sb 0 kk41 r (Cp r) r)<|Nx<|Wr<|Tr<|TE.leaf fun _ _ hf_ hs_ => ret_any (rs := [.cell 2 41]) (vs := [.agg #[iv (0 : Int), iv E1.Seq, strV ([]), .slice none 0 0]]) (.inl r) r (RV.cell 0 r r kk41 r ⟨⟩) hf_ hs_ ⟨(.slice none 0 0), r, (hs_.nilItem 2).pulls [2, 0] r⟩
  refine Sn<|Sq<|Sr<|Qs 2 r<|Nx<|Wc r (fun H13=>?_) fun H13=>?_
  ·exact Sr<|Bi fun R14 H15=>Fo (Cl [] impl_no_c H15 r r1) fun Y16=>Fu (Sb 1 kk41 r (Ca ⟨Op',Op',Op',Ow' 0,⟨⟩⟩) r)<|Nx<|Wr<|Tr<|TE.leaf fun _ _ hf_ hs_ => ret_any (rs := [.cell 2 41]) (vs := [.agg #[iv R14.Code, iv R14.N, strV R14.Text, Y16]]) (.inl r) r (RV.cell 1 r r kk41 r ⟨⟩) hf_ hs_ ⟨Y16, r, hs_.pulls [2, 0] r⟩
  refine Sn<|Sq<|Wi fun R26 H27=>Wi fun E31 H32=>Jw Unit [0,2] [0] (fun _=>[]) (fun _=>[.own U0 (lc (tl_.set t.toNat ({ Id := E1.Id, Epoch := E1.Epoch, Seq := E1.Seq, Map := E1.Map, Snaps := E31 : MTen })))]) r1 r1 (?_) fun X34=>?_
  ·refine Dr [0] r hMix<|Aq [0,1] [0] r<|Ay 2 [0] r (Np H3 r)<|Ay 3 [0] r (Fp kf90_4 H3 r)<|Aq [5] [0] r<|Ay 6 [0] r (Np H3 r)<|Ay 7 [0] r (Fp kf90_2 H3 r)<|Aq [9] [0] r<|Ay 10 [0] r (Np H3 r)<|Ay 11 [0] r (Fp kf90_3 H3 r)<|Ga (X := Value × Value) (Ho 2 [1] H2 r r1) fun X43=>A3 4 8 12 (?_) (?_)<|?_
   ·refine Xy [3] r (Lh 0 kk88 H2 r)<|A2 8 12 (?_)<|?_
    ·exact Xy [3] r (Lh 0 kk3 H2 r)<|A1 12<|Xy [3] r (Lh 0 kk39 H2 r)<|A1 13<|Xe [4] r (Cl [] slices_Clone_74624_c H27 r r1 ⟨(Oc 1 r),⟨⟩⟩) fun Y44=>A1 14<|Xy [4] r (Bd kp121 kz121 (Pc r (Cp r)<|Pc r (Co 0)<|Pz) r)<|A1 15<|Xe [5] r (Bk [ic E1.Seq, .raw Y44] ke88 kz121 r (Qc (Ca ⟨Op',Ow' 0,⟨⟩⟩)<|Qz)) fun B45=>Ka (Ha [0, 0] ([{ Seq := E1.Seq, Map := R26 : MSnap }] : List MSnap) r (Ck (Cf Cz)))<|A1 16<|Xe [3] r (Aw [3, 0] H32 ke88 kz121 r) fun V46=>Ay 17 [3] r (Np H3 r)<|Ay 18 [3] r (Fp kf90_4 H3 r)<|A1 19<|Xu [3] r (Sh 1 [.raw V46] kk88 H2 r (Co 0) r)<|Az<|Ke (Hc [1, 1, 0] ({ Id := E1.Id, Epoch := E1.Epoch, Seq := E1.Seq, Map := E1.Map, Snaps := E31 : MTen }) H2 r (Ck (Ck (Ck (Cf (Cf Cz))))))<|Bg () [1,0]
    refine Xy [3] r (Lh 0 kk39 H2 r)<|A2 8 13 (?_)<|?_
    ·exact Xy [3] r (Lh 0 kk3 H2 r)<|A1 13<|Xe [4] r (Cl [] slices_Clone_74624_c H27 r r1 ⟨(Oc 1 r),⟨⟩⟩) fun Y45=>A1 14<|Xy [4] r (Bd kp121 kz121 (Pc r (Cp r)<|Pc r (Co 0)<|Pz) r)<|A1 15<|Xe [5] r (Bk [ic E1.Seq, .raw Y45] ke88 kz121 r (Qc (Ca ⟨Op',Ow' 0,⟨⟩⟩)<|Qz)) fun B46=>Ka (Ha [0, 0] ([{ Seq := E1.Seq, Map := R26 : MSnap }] : List MSnap) r (Ck (Cf Cz)))<|A1 16<|Xe [3] r (Aw [3, 0] H32 ke88 kz121 r) fun V47=>Ay 17 [3] r (Np H3 r)<|Ay 18 [3] r (Fp kf90_4 H3 r)<|A1 19<|Xu [3] r (Sh 1 [.raw V47] kk88 H2 r (Co 0) r)<|Az<|Ke (Hc [1, 1, 0] ({ Id := E1.Id, Epoch := E1.Epoch, Seq := E1.Seq, Map := E1.Map, Snaps := E31 : MTen }) H2 r (Ck (Ck (Ck (Cf (Cf Cz))))))<|Bg () [1,0]
    exact Xe [4] r (Cl [] slices_Clone_74624_c H27 r r1 ⟨(Oc 1 r),⟨⟩⟩) fun Y44=>A1 8<|Xy [4] r (Lh 1 kk3 H2 r)<|A1 14<|Xy [4] r (Bd kp121 kz121 (Pc r (Cp r)<|Pc r (Co 0)<|Pz) r)<|A1 15<|Xe [5] r (Bk [ic E1.Seq, .raw Y44] ke88 kz121 r (Qc (Ca ⟨Op',Ow' 0,⟨⟩⟩)<|Qz)) fun B45=>Ka (Ha [0, 0] ([{ Seq := E1.Seq, Map := R26 : MSnap }] : List MSnap) r (Ck (Cf Cz)))<|A1 16<|Xe [3] r (Aw [3, 0] H32 ke88 kz121 r) fun V46=>Ay 17 [3] r (Np H3 r)<|Ay 18 [3] r (Fp kf90_4 H3 r)<|A1 19<|Xu [3] r (Sh 1 [.raw V46] kk88 H2 r (Co 0) r)<|Az<|Ke (Hc [1, 1, 0] ({ Id := E1.Id, Epoch := E1.Epoch, Seq := E1.Seq, Map := E1.Map, Snaps := E31 : MTen }) H2 r (Ck (Ck (Ck (Cf (Cf Cz))))))<|Bg () [1,0]
   ·refine Xy [3] r (Lh 0 kk3 H2 r)<|A2 4 12 (?_)<|?_
    ·exact Xy [3] r (Lh 0 kk88 H2 r)<|A1 12<|Xy [3] r (Lh 0 kk39 H2 r)<|A1 13<|Xe [4] r (Cl [] slices_Clone_74624_c H27 r r1 ⟨(Oc 1 r),⟨⟩⟩) fun Y44=>A1 14<|Xy [4] r (Bd kp121 kz121 (Pc r (Cp r)<|Pc r (Co 0)<|Pz) r)<|A1 15<|Xe [5] r (Bk [ic E1.Seq, .raw Y44] ke88 kz121 r (Qc (Ca ⟨Op',Ow' 0,⟨⟩⟩)<|Qz)) fun B45=>Ka (Ha [0, 0] ([{ Seq := E1.Seq, Map := R26 : MSnap }] : List MSnap) r (Ck (Cf Cz)))<|A1 16<|Xe [3] r (Aw [3, 0] H32 ke88 kz121 r) fun V46=>Ay 17 [3] r (Np H3 r)<|Ay 18 [3] r (Fp kf90_4 H3 r)<|A1 19<|Xu [3] r (Sh 1 [.raw V46] kk88 H2 r (Co 0) r)<|Az<|Ke (Hc [1, 1, 0] ({ Id := E1.Id, Epoch := E1.Epoch, Seq := E1.Seq, Map := E1.Map, Snaps := E31 : MTen }) H2 r (Ck (Ck (Ck (Cf (Cf Cz))))))<|Bg () [1,0]
    refine Xy [3] r (Lh 0 kk39 H2 r)<|A2 4 13 (?_)<|?_
    ·exact Xy [3] r (Lh 0 kk88 H2 r)<|A1 13<|Xe [4] r (Cl [] slices_Clone_74624_c H27 r r1 ⟨(Oc 1 r),⟨⟩⟩) fun Y45=>A1 14<|Xy [4] r (Bd kp121 kz121 (Pc r (Cp r)<|Pc r (Co 0)<|Pz) r)<|A1 15<|Xe [5] r (Bk [ic E1.Seq, .raw Y45] ke88 kz121 r (Qc (Ca ⟨Op',Ow' 0,⟨⟩⟩)<|Qz)) fun B46=>Ka (Ha [0, 0] ([{ Seq := E1.Seq, Map := R26 : MSnap }] : List MSnap) r (Ck (Cf Cz)))<|A1 16<|Xe [3] r (Aw [3, 0] H32 ke88 kz121 r) fun V47=>Ay 17 [3] r (Np H3 r)<|Ay 18 [3] r (Fp kf90_4 H3 r)<|A1 19<|Xu [3] r (Sh 1 [.raw V47] kk88 H2 r (Co 0) r)<|Az<|Ke (Hc [1, 1, 0] ({ Id := E1.Id, Epoch := E1.Epoch, Seq := E1.Seq, Map := E1.Map, Snaps := E31 : MTen }) H2 r (Ck (Ck (Ck (Cf (Cf Cz))))))<|Bg () [1,0]
    refine Xe [4] r (Cl [] slices_Clone_74624_c H27 r r1 ⟨(Oc 1 r),⟨⟩⟩) fun Y44=>A2 4 14 (?_)<|?_
    ·exact Xy [4] r (Lh 1 kk88 H2 r)<|A1 14<|Xy [4] r (Bd kp121 kz121 (Pc r (Cp r)<|Pc r (Co 0)<|Pz) r)<|A1 15<|Xe [5] r (Bk [ic E1.Seq, .raw Y44] ke88 kz121 r (Qc (Ca ⟨Op',Ow' 0,⟨⟩⟩)<|Qz)) fun B45=>Ka (Ha [0, 0] ([{ Seq := E1.Seq, Map := R26 : MSnap }] : List MSnap) r (Ck (Cf Cz)))<|A1 16<|Xe [3] r (Aw [3, 0] H32 ke88 kz121 r) fun V46=>Ay 17 [3] r (Np H3 r)<|Ay 18 [3] r (Fp kf90_4 H3 r)<|A1 19<|Xu [3] r (Sh 1 [.raw V46] kk88 H2 r (Co 0) r)<|Az<|Ke (Hc [1, 1, 0] ({ Id := E1.Id, Epoch := E1.Epoch, Seq := E1.Seq, Map := E1.Map, Snaps := E31 : MTen }) H2 r (Ck (Ck (Ck (Cf (Cf Cz))))))<|Bg () [1,0]
    refine Xy [4] r (Bd kp121 kz121 (Pc r (Cp r)<|Pc r (Co 0)<|Pz) r)<|A2 4 15 (?_)<|?_
    ·exact Xy [4] r (Lh 1 kk88 H2 r)<|A1 15<|Xe [5] r (Bk [ic E1.Seq, .raw Y44] ke88 kz121 r (Qc (Ca ⟨Op',Ow' 0,⟨⟩⟩)<|Qz)) fun B46=>Ka (Ha [0, 0] ([{ Seq := E1.Seq, Map := R26 : MSnap }] : List MSnap) r (Ck (Cf Cz)))<|A1 16<|Xe [3] r (Aw [3, 0] H32 ke88 kz121 r) fun V47=>Ay 17 [3] r (Np H3 r)<|Ay 18 [3] r (Fp kf90_4 H3 r)<|A1 19<|Xu [3] r (Sh 1 [.raw V47] kk88 H2 r (Co 0) r)<|Az<|Ke (Hc [1, 1, 0] ({ Id := E1.Id, Epoch := E1.Epoch, Seq := E1.Seq, Map := E1.Map, Snaps := E31 : MTen }) H2 r (Ck (Ck (Ck (Cf (Cf Cz))))))<|Bg () [1,0]
    exact Xe [5] r (Bk [ic E1.Seq, .raw Y44] ke88 kz121 r (Qc (Ca ⟨Op',Ow' 0,⟨⟩⟩)<|Qz)) fun B45=>Ka (Ha [0, 0] ([{ Seq := E1.Seq, Map := R26 : MSnap }] : List MSnap) r (Ck (Cf Cz)))<|A1 4<|Xy [4] r (Lh 1 kk88 H2 r)<|A1 16<|Xe [3] r (Aw [3, 0] H32 ke88 kz121 r) fun V46=>Ay 17 [3] r (Np H3 r)<|Ay 18 [3] r (Fp kf90_4 H3 r)<|A1 19<|Xu [3] r (Sh 1 [.raw V46] kk88 H2 r (Co 0) r)<|Az<|Ke (Hc [1, 1, 0] ({ Id := E1.Id, Epoch := E1.Epoch, Seq := E1.Seq, Map := E1.Map, Snaps := E31 : MTen }) H2 r (Ck (Ck (Ck (Cf (Cf Cz))))))<|Bg () [1,0]
   refine Xy [3] r (Lh 0 kk39 H2 r)<|A3 4 8 13 (?_) (?_)<|?_
   ·refine Xy [3] r (Lh 0 kk88 H2 r)<|A2 8 13 (?_)<|?_
    ·exact Xy [3] r (Lh 0 kk3 H2 r)<|A1 13<|Xe [4] r (Cl [] slices_Clone_74624_c H27 r r1 ⟨(Oc 1 r),⟨⟩⟩) fun Y46=>A1 14<|Xy [4] r (Bd kp121 kz121 (Pc r (Cp r)<|Pc r (Co 0)<|Pz) r)<|A1 15<|Xe [5] r (Bk [ic E1.Seq, .raw Y46] ke88 kz121 r (Qc (Ca ⟨Op',Ow' 0,⟨⟩⟩)<|Qz)) fun B47=>Ka (Ha [0, 0] ([{ Seq := E1.Seq, Map := R26 : MSnap }] : List MSnap) r (Ck (Cf Cz)))<|A1 16<|Xe [3] r (Aw [3, 0] H32 ke88 kz121 r) fun V48=>Ay 17 [3] r (Np H3 r)<|Ay 18 [3] r (Fp kf90_4 H3 r)<|A1 19<|Xu [3] r (Sh 1 [.raw V48] kk88 H2 r (Co 0) r)<|Az<|Ke (Hc [1, 1, 0] ({ Id := E1.Id, Epoch := E1.Epoch, Seq := E1.Seq, Map := E1.Map, Snaps := E31 : MTen }) H2 r (Ck (Ck (Ck (Cf (Cf Cz))))))<|Bg () [1,0]
    exact Xe [4] r (Cl [] slices_Clone_74624_c H27 r r1 ⟨(Oc 1 r),⟨⟩⟩) fun Y45=>A1 8<|Xy [4] r (Lh 1 kk3 H2 r)<|A1 14<|Xy [4] r (Bd kp121 kz121 (Pc r (Cp r)<|Pc r (Co 0)<|Pz) r)<|A1 15<|Xe [5] r (Bk [ic E1.Seq, .raw Y45] ke88 kz121 r (Qc (Ca ⟨Op',Ow' 0,⟨⟩⟩)<|Qz)) fun B46=>Ka (Ha [0, 0] ([{ Seq := E1.Seq, Map := R26 : MSnap }] : List MSnap) r (Ck (Cf Cz)))<|A1 16<|Xe [3] r (Aw [3, 0] H32 ke88 kz121 r) fun V47=>Ay 17 [3] r (Np H3 r)<|Ay 18 [3] r (Fp kf90_4 H3 r)<|A1 19<|Xu [3] r (Sh 1 [.raw V47] kk88 H2 r (Co 0) r)<|Az<|Ke (Hc [1, 1, 0] ({ Id := E1.Id, Epoch := E1.Epoch, Seq := E1.Seq, Map := E1.Map, Snaps := E31 : MTen }) H2 r (Ck (Ck (Ck (Cf (Cf Cz))))))<|Bg () [1,0]
   ·refine Xy [3] r (Lh 0 kk3 H2 r)<|A2 4 13 (?_)<|?_
    ·exact Xy [3] r (Lh 0 kk88 H2 r)<|A1 13<|Xe [4] r (Cl [] slices_Clone_74624_c H27 r r1 ⟨(Oc 1 r),⟨⟩⟩) fun Y46=>A1 14<|Xy [4] r (Bd kp121 kz121 (Pc r (Cp r)<|Pc r (Co 0)<|Pz) r)<|A1 15<|Xe [5] r (Bk [ic E1.Seq, .raw Y46] ke88 kz121 r (Qc (Ca ⟨Op',Ow' 0,⟨⟩⟩)<|Qz)) fun B47=>Ka (Ha [0, 0] ([{ Seq := E1.Seq, Map := R26 : MSnap }] : List MSnap) r (Ck (Cf Cz)))<|A1 16<|Xe [3] r (Aw [3, 0] H32 ke88 kz121 r) fun V48=>Ay 17 [3] r (Np H3 r)<|Ay 18 [3] r (Fp kf90_4 H3 r)<|A1 19<|Xu [3] r (Sh 1 [.raw V48] kk88 H2 r (Co 0) r)<|Az<|Ke (Hc [1, 1, 0] ({ Id := E1.Id, Epoch := E1.Epoch, Seq := E1.Seq, Map := E1.Map, Snaps := E31 : MTen }) H2 r (Ck (Ck (Ck (Cf (Cf Cz))))))<|Bg () [1,0]
    refine Xe [4] r (Cl [] slices_Clone_74624_c H27 r r1 ⟨(Oc 1 r),⟨⟩⟩) fun Y45=>A2 4 14 (?_)<|?_
    ·exact Xy [4] r (Lh 1 kk88 H2 r)<|A1 14<|Xy [4] r (Bd kp121 kz121 (Pc r (Cp r)<|Pc r (Co 0)<|Pz) r)<|A1 15<|Xe [5] r (Bk [ic E1.Seq, .raw Y45] ke88 kz121 r (Qc (Ca ⟨Op',Ow' 0,⟨⟩⟩)<|Qz)) fun B46=>Ka (Ha [0, 0] ([{ Seq := E1.Seq, Map := R26 : MSnap }] : List MSnap) r (Ck (Cf Cz)))<|A1 16<|Xe [3] r (Aw [3, 0] H32 ke88 kz121 r) fun V47=>Ay 17 [3] r (Np H3 r)<|Ay 18 [3] r (Fp kf90_4 H3 r)<|A1 19<|Xu [3] r (Sh 1 [.raw V47] kk88 H2 r (Co 0) r)<|Az<|Ke (Hc [1, 1, 0] ({ Id := E1.Id, Epoch := E1.Epoch, Seq := E1.Seq, Map := E1.Map, Snaps := E31 : MTen }) H2 r (Ck (Ck (Ck (Cf (Cf Cz))))))<|Bg () [1,0]
    refine Xy [4] r (Bd kp121 kz121 (Pc r (Cp r)<|Pc r (Co 0)<|Pz) r)<|A2 4 15 (?_)<|?_
    ·exact Xy [4] r (Lh 1 kk88 H2 r)<|A1 15<|Xe [5] r (Bk [ic E1.Seq, .raw Y45] ke88 kz121 r (Qc (Ca ⟨Op',Ow' 0,⟨⟩⟩)<|Qz)) fun B47=>Ka (Ha [0, 0] ([{ Seq := E1.Seq, Map := R26 : MSnap }] : List MSnap) r (Ck (Cf Cz)))<|A1 16<|Xe [3] r (Aw [3, 0] H32 ke88 kz121 r) fun V48=>Ay 17 [3] r (Np H3 r)<|Ay 18 [3] r (Fp kf90_4 H3 r)<|A1 19<|Xu [3] r (Sh 1 [.raw V48] kk88 H2 r (Co 0) r)<|Az<|Ke (Hc [1, 1, 0] ({ Id := E1.Id, Epoch := E1.Epoch, Seq := E1.Seq, Map := E1.Map, Snaps := E31 : MTen }) H2 r (Ck (Ck (Ck (Cf (Cf Cz))))))<|Bg () [1,0]
    exact Xe [5] r (Bk [ic E1.Seq, .raw Y45] ke88 kz121 r (Qc (Ca ⟨Op',Ow' 0,⟨⟩⟩)<|Qz)) fun B46=>Ka (Ha [0, 0] ([{ Seq := E1.Seq, Map := R26 : MSnap }] : List MSnap) r (Ck (Cf Cz)))<|A1 4<|Xy [4] r (Lh 1 kk88 H2 r)<|A1 16<|Xe [3] r (Aw [3, 0] H32 ke88 kz121 r) fun V47=>Ay 17 [3] r (Np H3 r)<|Ay 18 [3] r (Fp kf90_4 H3 r)<|A1 19<|Xu [3] r (Sh 1 [.raw V47] kk88 H2 r (Co 0) r)<|Az<|Ke (Hc [1, 1, 0] ({ Id := E1.Id, Epoch := E1.Epoch, Seq := E1.Seq, Map := E1.Map, Snaps := E31 : MTen }) H2 r (Ck (Ck (Ck (Cf (Cf Cz))))))<|Bg () [1,0]
   refine Xe [4] r (Cl [] slices_Clone_74624_c H27 r r1 ⟨(Oc 1 r),⟨⟩⟩) fun Y44=>A2 4 8 (?_)<|?_
   ·exact Xy [4] r (Lh 1 kk88 H2 r)<|A1 8<|Xy [4] r (Lh 1 kk3 H2 r)<|A1 14<|Xy [4] r (Bd kp121 kz121 (Pc r (Cp r)<|Pc r (Co 0)<|Pz) r)<|A1 15<|Xe [5] r (Bk [ic E1.Seq, .raw Y44] ke88 kz121 r (Qc (Ca ⟨Op',Ow' 0,⟨⟩⟩)<|Qz)) fun B45=>Ka (Ha [0, 0] ([{ Seq := E1.Seq, Map := R26 : MSnap }] : List MSnap) r (Ck (Cf Cz)))<|A1 16<|Xe [3] r (Aw [3, 0] H32 ke88 kz121 r) fun V46=>Ay 17 [3] r (Np H3 r)<|Ay 18 [3] r (Fp kf90_4 H3 r)<|A1 19<|Xu [3] r (Sh 1 [.raw V46] kk88 H2 r (Co 0) r)<|Az<|Ke (Hc [1, 1, 0] ({ Id := E1.Id, Epoch := E1.Epoch, Seq := E1.Seq, Map := E1.Map, Snaps := E31 : MTen }) H2 r (Ck (Ck (Ck (Cf (Cf Cz))))))<|Bg () [1,0]
   refine Xy [4] r (Lh 1 kk3 H2 r)<|A2 4 14 (?_)<|?_
   ·exact Xy [4] r (Lh 1 kk88 H2 r)<|A1 14<|Xy [4] r (Bd kp121 kz121 (Pc r (Cp r)<|Pc r (Co 0)<|Pz) r)<|A1 15<|Xe [5] r (Bk [ic E1.Seq, .raw Y44] ke88 kz121 r (Qc (Ca ⟨Op',Ow' 0,⟨⟩⟩)<|Qz)) fun B45=>Ka (Ha [0, 0] ([{ Seq := E1.Seq, Map := R26 : MSnap }] : List MSnap) r (Ck (Cf Cz)))<|A1 16<|Xe [3] r (Aw [3, 0] H32 ke88 kz121 r) fun V46=>Ay 17 [3] r (Np H3 r)<|Ay 18 [3] r (Fp kf90_4 H3 r)<|A1 19<|Xu [3] r (Sh 1 [.raw V46] kk88 H2 r (Co 0) r)<|Az<|Ke (Hc [1, 1, 0] ({ Id := E1.Id, Epoch := E1.Epoch, Seq := E1.Seq, Map := E1.Map, Snaps := E31 : MTen }) H2 r (Ck (Ck (Ck (Cf (Cf Cz))))))<|Bg () [1,0]
   refine Xy [4] r (Bd kp121 kz121 (Pc r (Cp r)<|Pc r (Co 0)<|Pz) r)<|A2 4 15 (?_)<|?_
   ·exact Xy [4] r (Lh 1 kk88 H2 r)<|A1 15<|Xe [5] r (Bk [ic E1.Seq, .raw Y44] ke88 kz121 r (Qc (Ca ⟨Op',Ow' 0,⟨⟩⟩)<|Qz)) fun B46=>Ka (Ha [0, 0] ([{ Seq := E1.Seq, Map := R26 : MSnap }] : List MSnap) r (Ck (Cf Cz)))<|A1 16<|Xe [3] r (Aw [3, 0] H32 ke88 kz121 r) fun V47=>Ay 17 [3] r (Np H3 r)<|Ay 18 [3] r (Fp kf90_4 H3 r)<|A1 19<|Xu [3] r (Sh 1 [.raw V47] kk88 H2 r (Co 0) r)<|Az<|Ke (Hc [1, 1, 0] ({ Id := E1.Id, Epoch := E1.Epoch, Seq := E1.Seq, Map := E1.Map, Snaps := E31 : MTen }) H2 r (Ck (Ck (Ck (Cf (Cf Cz))))))<|Bg () [1,0]
   exact Xe [5] r (Bk [ic E1.Seq, .raw Y44] ke88 kz121 r (Qc (Ca ⟨Op',Ow' 0,⟨⟩⟩)<|Qz)) fun B45=>Ka (Ha [0, 0] ([{ Seq := E1.Seq, Map := R26 : MSnap }] : List MSnap) r (Ck (Cf Cz)))<|A1 4<|Xy [4] r (Lh 1 kk88 H2 r)<|A1 16<|Xe [3] r (Aw [3, 0] H32 ke88 kz121 r) fun V46=>Ay 17 [3] r (Np H3 r)<|Ay 18 [3] r (Fp kf90_4 H3 r)<|A1 19<|Xu [3] r (Sh 1 [.raw V46] kk88 H2 r (Co 0) r)<|Az<|Ke (Hc [1, 1, 0] ({ Id := E1.Id, Epoch := E1.Epoch, Seq := E1.Seq, Map := E1.Map, Snaps := E31 : MTen }) H2 r (Ck (Ck (Ck (Cf (Cf Cz))))))<|Bg () [1,0]
  exact Ne<|Sr<|Qs 1 r<|Bi fun E44 H45=>Yo (Np H3 r)<|Yo (Fp kf90_2 H3 r)<|Yo (Le kk3 (Oc 1 r) H45 r)<|Yo (Bd kp41 kz41 (Pc r (Cp r)<|Pz) r)<|Fu (Sb 0 kk41 r (Cp r) r)<|Nx<|Wr<|TE.leaf fun _ _ hf_ hs_ => ret_any (rs := [.cell 2 41]) (vs := [.agg #[iv (0 : Int), iv E44.Seq, strV ([]), .slice none 0 0]]) (.inl r) r (RV.cell 0 r r kk41 r ⟨⟩) hf_ hs_ ⟨(.slice none 0 0), r, (hs_.nilItem 2).pulls [2, 0] r⟩
noncomputable def impl_MTen_snapAt_el0_MTen (tl_ : List MTen) (t : Int) (seq : Int) : Option Int :=
  (idx tl_ t).bind fun E1 =>
  (slices_IndexFunc_19507_at_impl_MTen_snapAt_1 E1.Snaps seq).bind fun R6 =>
  some R6
theorem impl_MTen_snapAt_el0_MTen_c {tl_ : List MTen} {t : Int} {seq : Int} {U0 : Value} : Cn Tryz.prog 83 [elP U0 (t.toNat * 5 + 0), iv seq] [] [(U0, lc tl_)] (impl_MTen_snapAt_el0_MTen tl_ t seq) (fun r (_ : Unit) => iv r) fun _ _ => [] := by
  unfold impl_MTen_snapAt_el0_MTen
  refine Ci Tryz.func83 r r ?_
  rintro w S ⟨Z0,-⟩
  refine Wi fun E1 H2=>Sr<|Fo (Bx r (Cp r)) fun B3=>Qs 1 r<|Nx<|Sr<|Qs 1 r<|Yo (Nc (Bc Z0) H2 r)<|Yo (Fe kf90_4 (Bc Z0) H2 r)<|?_
  have Q5 : Base w S (elv w U0 (t.toNat * 5 + 4)) (lc E1.Snaps):=Base.el Z0 (idx_get H2).2.2 r r
  exact Yo (Lz kk88 Z0 H2 r)<|Yo (Y.makeFunc r)<|Bi fun R6 H7=>Fo (Cl [0] slices_IndexFunc_19507_at_impl_MTen_snapAt_1_c H7 r r1 ⟨(Bc Q5),⟨⟩⟩) fun _=>Qs 1 r<|Nx<|Wr<|Re () []
noncomputable def impl_Model_ofTenant (m : Model) (c : Call) : Option (Reply × Model) :=
  (impl_ReadToken m.Secret c.Token).bind fun R3 =>
  (impl_tenAt m.Tens R3.1).bind fun R6 =>
  (if (!R3.2.2) = true then (some true)
  else (if (decide (R6 < (0 : Int))) = true then (some true)
  else ((idx m.Tens R6).bind fun E13 =>
  some (!(decide (E13.Epoch = R3.2.1)))))).bind (fun (T9 : Bool) =>
  if T9 = true then ((impl_no (2 : Int)).bind fun R17 =>
  some (R17, m))
  else ((idx m.Tens R6).bind fun E20 =>
  if (decide (c.Kind = (5 : Int))) = true then ((impl_Model_write_el0_MTen_of m R6 c).bind fun R24 =>
  some (R24.1, { Secret := R24.2.Secret, Shares := { Size := R24.2.Shares.Size, List := m.Shares.List : Shares }, Tens := R24.2.Tens, Base := R24.2.Base, Rows := R24.2.Rows : Model }))
  else (if (decide (c.Kind = (6 : Int))) = true then ((impl_lookUp E20.Map c.Key).bind fun R32 =>
  some (R32, m))
  else (if (decide (c.Kind = (7 : Int))) = true then ((impl_between E20.Map c.Key c.To).bind fun R42 =>
  some ({ Code := (0 : Int), N := (0 : Int), Text := [], List := R42 : Reply }, m))
  else (if (decide (c.Kind = (8 : Int))) = true then ((impl_MTen_snap_el0_MTen m.Tens R6).bind fun R46 =>
  some (R46.1, { Secret := m.Secret, Shares := m.Shares, Tens := R46.2, Base := m.Base, Rows := m.Rows : Model }))
  else (if (decide (c.Kind = (11 : Int))) = true then ((impl_bytesOf E20.Map).bind fun R51 =>
  some ({ Code := (0 : Int), N := R51, Text := [], List := ([] : List KV) : Reply }, m))
  else ((impl_MTen_snapAt_el0_MTen m.Tens R6 c.N).bind fun R55 =>
  if (decide (R55 < (0 : Int))) = true then ((impl_no (5 : Int)).bind fun R59 =>
  some (R59, m))
  else (if (decide (c.Kind = (10 : Int))) = true then ((idx E20.Snaps R55).bind fun E68 =>
  (impl_lookUp E68.Map c.Key).bind fun R72 =>
  some (R72, m))
  else ((slices_Delete_19507 E20.Snaps R55 (IntKind.i64.wrap (R55 + (1 : Int)))).bind fun R76 =>
  some ({ Code := (0 : Int), N := (0 : Int), Text := [], List := ([] : List KV) : Reply }, { Secret := m.Secret, Shares := m.Shares, Tens := m.Tens.set R6.toNat ({ Id := E20.Id, Epoch := E20.Epoch, Seq := E20.Seq, Map := E20.Map, Snaps := R76 : MTen }), Base := m.Base, Rows := m.Rows : Model }))))))))))
theorem impl_Model_ofTenant_c {m : Model} {c : Call} {U0 U1 U2 U3 U5 : Value} {U4 : Nat} : Cn Tryz.prog 46 [pt U4, .agg #[iv c.Kind, strV c.Token, iv c.Tenant, iv c.N, strV c.Key, strV c.To, U5]] [.box U4 36 [strV m.Secret, iv m.Shares.Size, U0, U1, U2, U3], .own U1 (lc m.Tens), .own U2 (lc m.Base), .own U3 (lc m.Rows)] [(U0, lc m.Shares.List), (U5, lc c.Ops)] (impl_Model_ofTenant m c) (fun r (X : Value × Value) => .agg #[iv r.1.Code, iv r.1.N, strV r.1.Text, X.1]) fun r X => [.box U4 36 [strV r.2.Secret, iv r.2.Shares.Size, U0, U1, U2, X.2], .own U1 (lc r.2.Tens), .own U2 (lc r.2.Base), .own X.2 (lc r.2.Rows), .own X.1 (lc r.1.List)] := by
  unfold impl_Model_ofTenant
  refine Ci Tryz.func46 r r ?_
  rintro w S ⟨Z0,Z1,-⟩
  refine Sr<|Fo (Bx r (Ca ⟨Op',Op',Op',Op',Op',Op',Ob Z1,⟨⟩⟩)) fun B1=>Fo (Al kz41 r) fun B2=>Nx<|Sq<|Dr [0,0,0,0,0,0] r hMix<|Aq [0,1] [0,0,0,0,0,0] r<|Ay 2 [0,0,0,0,0,0] r (Fb kf36_0 r)<|Ay 3 [0,0,0,0,0,0] r (Lb 2 kk9 r)<|Ay 4 [0,0,0,0,0,0] r (Fb kf46_1 r)<|Ay 5 [0,0,0,0,0,0] r (Lb 1 kk9 r)<|Ai fun R3 H4=>A1 6<|Xe [0,0,0,0,0,0] r (Cl [] impl_ReadToken_c H4 r r1) fun _=>Aq [7,8,9,10,11,12,13] [0,0,0,0,0,0] r<|Az<|Ne<|Sr<|Qs 2 r<|Yo (Fb kf36_2 r)<|Yo (Lb 2 kk33 r)<|Qs 1 r<|Bi fun R6 H7=>Fo (Cl [] impl_tenAt_c H7 r r1 ⟨(Oc 3 r),⟨⟩⟩) fun _=>?_
  refine Qs 1 r<|Nx<|Sq<|Sq<|Jv [0,3,4,8] (fun T=>[(45, .bool T)]) r1 (?_) fun T9=>?_
  ·exact Rg<|Qs 3 r<|It (fun H11=>Of 2 (beq_tf H11) r r<|Yo (Pt H11 r)<|Qs 1 r<|Of 10 r r r<|Yo (Pt r r)<|Nl<|Bg () [0,0,0,0,0,0]) fun H11=>Qg 2 (beq_ff H11) r r<|Yo (Pf H11 r)<|Qs 1 r<|It (fun H12=>Of 10 (beq_tf H12) r r<|Yo (Pt H12 r)<|Nl<|Bg () [0,0,0,0,0,0]) fun H12=>Qg 2 (beq_ff H12) r r<|Yg (gdA (beq_ff H12)) (Fb kf36_2 r)<|Yg (gdA (beq_ff H12)) (Lb 2 kk33 r)<|Qg 1 (beq_ff H12) r r<|Bi fun E13 H14=>Yg (gdA (beq_ff H12)) (Ix ke33 (Oc 3 r) H14 r)<|TO.fact (ptr_of (Can.own 3 r) H14) fun H15=>Yg (gdA (beq_ff H12)) (Fp kf90_1 H15 r)<|Yg (gdA (beq_ff H12)) (Le kk3 (Oc 3 r) H14 r)<|Qg 2 (beq_ff H12) r r<|Yo (Pf H12 r)<|Nl<|Bg () [0,0,0,0,0,0]
  refine Ne<|Wc r (fun H16=>?_) fun H16=>?_
  ·exact Sr<|Bi fun R17 H18=>Fo (Cl [] impl_no_c H18 r r1) fun Y19=>Fu (Sb 1 kk41 r (Ca ⟨Op',Op',Op',Ow' 0,⟨⟩⟩) r)<|Nx<|Wr<|Tr<|TE.leaf fun _ _ hf_ hs_ => ret_any (rs := [.cell 4 41]) (vs := [.agg #[iv R17.Code, iv R17.N, strV R17.Text, Y19]]) (.inl r) r (RV.cell 1 r r kk41 r ⟨⟩) hf_ hs_ ⟨(Y19, U3), r, hs_.pulls [3, 3, 3, 3, 0] r⟩
  refine Sn<|Sr<|Qs 2 r<|Yo (Fb kf36_2 r)<|Yo (Lb 2 kk33 r)<|Qs 1 r<|Bi fun E20 H21=>Yo (Ix ke33 (Oc 3 r) H21 r)<|TO.fact (ptr_of (Can.own 3 r) H21) fun H22=>Qs 1 r<|Nx<|Sq<|Sr<|Yo (Fb kf46_0 r)<|Yo (Lb 1 kk3 r)<|Nx<|Wb<|Sr<|Qs 2 r<|Nx<|Wc r (fun H23=>?_) fun H23=>?_
  ·exact Sr<|Qs 2 r<|Yo (Lb 1 kk46 r)<|Bi fun R24 H25=>Fo (Cl [2, 2, 2, 2] impl_Model_write_el0_MTen_of_c H25 r r1 ⟨(Bc Z0),(Bc Z1),⟨⟩⟩) fun Y26=>Fu (Sb 5 kk41 r (Ca ⟨Op',Op',Op',Ow' 4,⟨⟩⟩) r)<|Nx<|Wr<|Br<|Tr<|TE.leaf fun _ _ hf_ hs_ => ret_any (rs := [.cell 4 41]) (vs := [.agg #[iv R24.1.Code, iv R24.1.N, strV R24.1.Text, Y26.1]]) (.inl r) r (RV.cell 5 r r kk41 r ⟨⟩) hf_ hs_ ⟨(Y26.1, Y26.2), r, hs_.pulls [0, 0, 0, 0, 0] r⟩
  refine Sr<|Qs 2 r<|Nx<|Wc r (fun H27=>?_) fun H27=>?_
  ·exact Sq<|Dr [1,1,2,2] r hMix<|Aq [0] [1,1,2,2] r<|Ay 1 [1,1,2,2] r (Np H22 r)<|Ay 2 [1,1,2,2] r (Fp kf90_3 H22 r)<|Ay 4 [1,1,2,2] r (Fb kf46_4 r)<|Ay 5 [1,1,2,2] r (Lb 0 kk9 r)<|Ga (X := Value × Value) (Ho 2 [3] H21 r r1) fun X31=>A1 3<|Xy [4,4,4,4] r (Lh 0 kk39 H21 r)<|Ai fun R32 H33=>A1 6<|Xe [5,5,5,5] r (Cl [] impl_lookUp_c H33 r r1 ⟨(Oc 1 r),⟨⟩⟩) fun Y34=>A1 7<|Xu [5,5,5,5] r (Sb 4 kk41 r (Ca ⟨Op',Op',Op',Ow' 0,⟨⟩⟩) r)<|Az<|Ne<|Wr<|Br<|Tr<|Ke (Hs [1, 1, 1] H21 r (Ck (Ck (Ck (Cf (Cf Cz))))))<|TE.leaf fun _ _ hf_ hs_ => ret_any (rs := [.cell 4 41]) (vs := [.agg #[iv R32.Code, iv R32.N, strV R32.Text, Y34]]) (.inl r) r (RV.cell 2 r r kk41 r ⟨⟩) hf_ hs_ ⟨(Y34, U3), r, hs_.pulls [4, 0, 3, 3, 0] r⟩
  refine Sr<|Qs 2 r<|Nx<|Wc r (fun H35=>?_) fun H35=>?_
  ·exact Sq<|Dr [1,1,2,2] r hMix<|Aq [0] [1,1,2,2] r<|Ay 1 [1,1,2,2] r (Np H22 r)<|Ay 2 [1,1,2,2] r (Fp kf90_3 H22 r)<|Ay 4 [1,1,2,2] r (Fb kf46_4 r)<|Ay 5 [1,1,2,2] r (Lb 0 kk9 r)<|Ay 6 [1,1,2,2] r (Fb kf46_5 r)<|Ay 7 [1,1,2,2] r (Lb 0 kk9 r)<|Ga (X := Value × Value) (Ho 2 [3] H21 r r1) fun X41=>A1 3<|Xy [4,4,4,4] r (Lh 0 kk39 H21 r)<|Ai fun R42 H43=>A1 8<|Xe [5,5,5,5] r (Cl [] impl_between_c H43 r r1 ⟨(Oc 1 r),⟨⟩⟩) fun Y44=>A1 9<|Xy [5,5,5,5] r (Bd kp41 kz41 (Pc r (Co 0)<|Pz) r)<|A1 10<|Xu [5,5,5,5] r (Sb 4 kk41 r (Ca ⟨Op',Op',Op',Ow' 0,⟨⟩⟩) r)<|Az<|Ne<|Wr<|Br<|Tr<|Ke (Hs [1, 1, 1] H21 r (Ck (Ck (Ck (Cf (Cf Cz))))))<|TE.leaf fun _ _ hf_ hs_ => ret_any (rs := [.cell 4 41]) (vs := [.agg #[iv (0 : Int), iv (0 : Int), strV ([]), Y44]]) (.inl r) r (RV.cell 2 r r kk41 r ⟨⟩) hf_ hs_ ⟨(Y44, U3), r, hs_.pulls [4, 0, 3, 3, 0] r⟩
  refine Sr<|Qs 2 r<|Nx<|Wc r (fun H45=>?_) fun H45=>?_
  ·exact Sr<|Qs 1 r<|Bi fun R46 H47=>Fo (Cl [3] impl_MTen_snap_el0_MTen_c H47 r r1) fun Y48=>Fu (Sb 2 kk41 r (Ca ⟨Op',Op',Op',Ow' 1,⟨⟩⟩) r)<|Nx<|Wr<|Br<|Tr<|TE.leaf fun _ _ hf_ hs_ => ret_any (rs := [.cell 4 41]) (vs := [.agg #[iv R46.1.Code, iv R46.1.N, strV R46.1.Text, Y48]]) (.inl r) r (RV.cell 2 r r kk41 r ⟨⟩) hf_ hs_ ⟨(Y48, U3), r, hs_.pulls [4, 0, 3, 3, 0] r⟩
  refine Sr<|Qs 2 r<|Nx<|Wc r (fun H49=>?_) fun H49=>?_
  ·exact Sr<|Qs 1 r<|Yo (Np H22 r)<|Yo (Fp kf90_3 H22 r)<|Gt (X := Value × Value) (Ho 2 [3] H21 r r1) fun X50=>Yo (Lh 0 kk39 H21 r)<|Bi fun R51 H52=>Fo (Cl [] impl_bytesOf_c H52 r r1 ⟨(Oc 1 r),⟨⟩⟩) fun _=>Yo (Bd kp41 kz41 (Pc r (Cp r)<|Pz) r)<|Fu (Sb 3 kk41 r (Cp r) r)<|Nx<|Wr<|Br<|Tr<|Ke (Hs [0, 0, 0] H21 r (Ck (Ck (Ck (Cf (Cf Cz))))))<|TE.leaf fun _ _ hf_ hs_ => ret_any (rs := [.cell 4 41]) (vs := [.agg #[iv (0 : Int), iv R51, strV ([]), .slice none 0 0]]) (.inl r) r (RV.cell 1 r r kk41 r ⟨⟩) hf_ hs_ ⟨((.slice none 0 0), U3), r, (hs_.nilItem 2).pulls [4, 1, 3, 3, 0] r⟩
  refine Sk<|Bn<|Ne<|Sr<|Qs 1 r<|Yo (Fb kf46_3 r)<|Yo (Lb 1 kk3 r)<|Bi fun R55 H56=>Fo (Cl [] impl_MTen_snapAt_el0_MTen_c H56 r r1 ⟨(Oc 3 r),⟨⟩⟩) fun _=>Qs 1 r<|Nx<|Sq<|Sr<|Qs 2 r<|Nx<|Wc r (fun H58=>?_) fun H58=>?_
  ·exact Sr<|Bi fun R59 H60=>Fo (Cl [] impl_no_c H60 r r1) fun Y61=>Fu (Sb 1 kk41 r (Ca ⟨Op',Op',Op',Ow' 0,⟨⟩⟩) r)<|Nx<|Wr<|Tr<|TE.leaf fun _ _ hf_ hs_ => ret_any (rs := [.cell 4 41]) (vs := [.agg #[iv R59.Code, iv R59.N, strV R59.Text, Y61]]) (.inl r) r (RV.cell 1 r r kk41 r ⟨⟩) hf_ hs_ ⟨(Y61, U3), r, hs_.pulls [3, 3, 3, 3, 0] r⟩
  refine Sn<|Sq<|Sr<|Yo (Fb kf46_0 r)<|Yo (Lb 1 kk3 r)<|Qs 1 r<|Nx<|Wc r (fun H62=>?_) fun H62=>?_
  ·refine Sq<|Dr [1,1,2,2] r hMix<|Aq [0] [1,1,2,2] r<|Ay 1 [1,1,2,2] r (Np H22 r)<|Ay 2 [1,1,2,2] r (Fp kf90_4 H22 r)<|Aq [4] [1,1,2,2] r<|Ay 8 [1,1,2,2] r (Fb kf46_4 r)<|Ay 9 [1,1,2,2] r (Lb 0 kk9 r)<|Ga (X := Value × Value) (Ho 2 [3] H21 r r1) fun X67=>A1 3<|Xy [4,4,4,4] r (Lh 0 kk88 H21 r)<|Ai fun E68 H69=>A1 5<|Xy [4,4,4,4] r (Ix ke88 (Oc 2 r) H69 r)<|A1 6<|Xy [4,4,4,4] r (Fe kf121_1 (Oc 2 r) H69 r)<|Ga (X := Value) (Ho 1 [2] H69 r r1) fun X71=>A1 7<|Xy [5,5,5,5] r (Lh 0 kk39 H69 r)<|Ai fun R72 H73=>A1 10<|Xe [6,6,6,6] r (Cl [] impl_lookUp_c H73 r r1 ⟨(Oc 1 r),⟨⟩⟩) fun Y74=>?_
   exact A1 11<|Xu [6,6,6,6] r (Sb 5 kk41 r (Ca ⟨Op',Op',Op',Ow' 0,⟨⟩⟩) r)<|Az<|Ne<|Wr<|Tr<|Ke (Hs [1, 1] H69 r (Ck (Cf Cz)))<|Ke (Hs [2, 2, 0] H21 r (Ck (Ck (Ck (Cf (Cf Cz))))))<|TE.leaf fun _ _ hf_ hs_ => ret_any (rs := [.cell 4 41]) (vs := [.agg #[iv R72.Code, iv R72.N, strV R72.Text, Y74]]) (.inl r) r (RV.cell 2 r r kk41 r ⟨⟩) hf_ hs_ ⟨(Y74, U3), r, hs_.pulls [4, 0, 3, 3, 0] r⟩
  exact Sn<|Sr<|Qs 2 r<|Yo (Np H22 r)<|Yo (Fp kf90_4 H22 r)<|Gt (X := Value × Value) (Ho 2 [3] H21 r r1) fun X75=>Yo (Lh 0 kk88 H21 r)<|Qs 3 r<|Bi fun R76 H77=>Fo (Cl [2] slices_Delete_19507_c H77 r r1) fun Y78=>Yo (Np H22 r)<|Yo (Fp kf90_4 H22 r)<|Fu (Sh 1 [.raw Y78] kk88 H21 r (Co 0) r)<|Nx<|Sr<|Yo (Bd kp41 kz41 (Pz) r)<|Fu (Sb 3 kk41 r (Cp r) r)<|Nx<|Wr<|Ke (Hc [1, 1, 0] ({ Id := E20.Id, Epoch := E20.Epoch, Seq := E20.Seq, Map := E20.Map, Snaps := R76 : MTen }) H21 r (Ck (Ck (Ck (Cf (Cf Cz))))))<|TE.leaf fun _ _ hf_ hs_ => ret_any (rs := [.cell 4 41]) (vs := [.agg #[iv (0 : Int), iv (0 : Int), strV ([]), .slice none 0 0]]) (.inl r) r (RV.cell 1 r r kk41 r ⟨⟩) hf_ hs_ ⟨((.slice none 0 0), U3), r, (hs_.nilItem 2).pulls [4, 1, 3, 3, 0] r⟩
noncomputable def impl_Model_sync (m : Model) : Option (Reply × Model) :=
  bindC (loopO (fun (S2 : Int × List MRow) => if (decide (S2.1 < ((m.Rows.length : Nat) : Int))) = true then ((idx S2.2 S2.1).bind fun E7 =>
  some (.go (IntKind.i64.wrap (S2.1 + (1 : Int)), (S2.2.set S2.1.toNat ({ Tenant := E7.Tenant, Ops := E7.Ops, Synced := true : MRow })))))
  else (some (.done (.go S2.2))))
  ((0 : Int), m.Rows))
  (fun (T4 : List MRow) => some ({ Code := (0 : Int), N := (0 : Int), Text := [], List := ([] : List KV) : Reply }, { Secret := m.Secret, Shares := m.Shares, Tens := m.Tens, Base := m.Base, Rows := T4 : Model }))
theorem impl_Model_sync_c {m : Model} {U0 U1 U2 U3 : Value} {U4 : Nat} : Cn Tryz.prog 47 [pt U4] [.box U4 36 [strV m.Secret, iv m.Shares.Size, U0, U1, U2, U3], .own U3 (lc m.Rows)] [(U0, lc m.Shares.List), (U1, lc m.Tens), (U2, lc m.Base)] (impl_Model_sync m) (fun r (X : Value) => .agg #[iv r.1.Code, iv r.1.N, strV r.1.Text, X]) fun r X => [.box U4 36 [strV r.2.Secret, iv r.2.Shares.Size, U0, U1, U2, U3], .own U3 (lc r.2.Rows), .own X (lc r.1.List)] := by
  unfold impl_Model_sync
  refine Ci Tryz.func47 r r ?_
  rintro w S ⟨Z0,Z1,Z2,-⟩
  refine Sr<|Fo (Al kz41 r) fun B1=>Nx<|Sq<|Sr<|Qs 2 r<|Yo (Fb kf36_4 r)<|Yo (Lb 1 kk34 r)<|Yo (Ln ke34 (Oc 2 r) r)<|Qs 1 r<|Nx<|Jn Unit [2] [0,0] (fun _ _=>[]) (fun T _=>[.own U3 (lc T)]) r2 r2 (?_) fun T4 X5=>?_
  ·refine Wb<|Lp Unit [0,2,8] [1,0] (fun T _=>[(9, iv T.1)]) (fun T _=>[.own U3 (lc T.2)]) () [1,0,0] r2 r2 fun S2 X3=>Sr<|Qs 1 r<|Nx<|Sq<|Wc r (fun H6=>?_) fun H6=>?_
   ·exact Sn<|Sq<|Wb<|Sr<|Qs 2 r<|Nx<|Rg<|Qs 2 r<|Yo (Fb kf36_4 r)<|Yo (Lb 0 kk34 r)<|Qs 1 r<|Bi fun E7 H8=>Yo (Ix ke34 (Oc 2 r) H8 r)<|TO.fact (ptr_of (Can.own 2 r) H8) fun H9=>Yo (Fp kf95_2 H9 r)<|Gt (X := Value) (Ho 1 [2] H8 r r1) fun X10=>Fu (Sh 0 [.bool true] kk4 H8 r (Cp r) r)<|Nl<|Bn<|Ne<|Rg<|Qs 2 r<|Nl<|Ke (Hc [0, 0] ({ Tenant := E7.Tenant, Ops := E7.Ops, Synced := true : MRow }) H8 r (Ck (Cf (Ck Cz))))<|Lg () [1,1,0]
   exact Wx<|Tx<|Ex<|Be<|Jg () [1,0,0]
  exact Ne<|Sr<|Yo (Bd kp41 kz41 (Pz) r)<|Fu (Sb 0 kk41 r (Cp r) r)<|Nx<|Wr<|TE.leaf fun _ _ hf_ hs_ => ret_any (rs := [.cell 2 41]) (vs := [.agg #[iv (0 : Int), iv (0 : Int), strV ([]), .slice none 0 0]]) (.inl r) r (RV.cell 0 r r kk41 r ⟨⟩) hf_ hs_ ⟨(.slice none 0 0), r, (hs_.nilItem 2).pulls [2, 2, 0] r⟩
noncomputable def impl_copyTens (l : List MTen) : Option (List MTen) :=
  bindC (loopO (fun (S1 : Int × List MTen) => if (decide (S1.1 < ((l.length : Nat) : Int))) = true then ((idx l S1.1).bind fun E6 =>
  (impl_copyTen E6).bind fun R11 =>
  (app 72 S1.2 ([R11])).bind fun E16 =>
  some (.go (IntKind.i64.wrap (S1.1 + (1 : Int)), E16)))
  else (some (.done (.go S1.2))))
  ((0 : Int), ([] : List MTen)))
  (fun (T3 : List MTen) => some T3)
theorem impl_copyTens_c {l : List MTen} {U0 : Value} : Cn Tryz.prog 57 [U0] [] [(U0, lc l)] (impl_copyTens l) (fun _ (X : Value) => X) fun r X => [.own X (lc r)] := by
  unfold impl_copyTens
  refine Ci Tryz.func57 r r ?_
  rintro w S ⟨Z0,-⟩
  refine Sr<|Qs 1 r<|Nx<|Sr<|Qs 1 r<|Nx<|Sq<|Sr<|Qs 1 r<|Yo (Ln ke33 (Bc Z0) r)<|Qs 1 r<|Nx<|Jn Value [] [] (fun _ X=>[(3, X)]) (fun T X=>[.own X (lc T)]) r2 r2 (?_) fun T3 X4=>?_
  ·refine Wb<|Nw 5<|Lp Value [6,7] [] (fun T X=>[(3, X), (8, iv T.1)]) (fun T X=>[.own X (lc T.2)]) (.slice none 0 0) [0] r2 r2 fun S1 X2=>Sr<|Qs 1 r<|Nx<|Sq<|Wc r (fun H5=>?_) fun H5=>?_
   ·refine Sn<|Sq<|Wb<|Sr<|Bi fun E6 H7=>Yo (Ix ke33 (Bc Z0) H7 r)<|?_
    have Q8 : Base w S (elv w U0 (S1.1.toNat * 5 + 3)) (lc E6.Map):=Base.el Z0 (idx_get H7).2.2 r r
    have Q9 : Base w S (elv w U0 (S1.1.toNat * 5 + 4)) (lc E6.Snaps):=Base.el Z0 (idx_get H7).2.2 r r
    exact Yo (Lz kk90 Z0 H7 r)<|Fo (Al kz90 r) fun B10=>Fu (Sb 0 kk90 r (Ca ⟨Op',Op',Op',Ob Q8,Ob Q9,⟨⟩⟩) r)<|Nx<|Rg<|Qs 1 r<|Yo (Lb 0 kk90 r)<|Bi fun R11 H12=>Fo (Cl [] impl_copyTen_c H12 r r1 ⟨(Bc Q8),(Bc Q9),⟨⟩⟩) fun Y13=>Fo (Bk [ic R11.Id, ic R11.Epoch, ic R11.Seq, .raw Y13.1, .raw Y13.2] ke33 kz90 r (Qc (Ca ⟨Op',Op',Op',Ow' 0,Ow' 1,⟨⟩⟩)<|Qz)) fun B14=>Kt (Ha [0, 0, 0] ([R11] : List MTen) r (Ck (Ck (Ck (Cf (Cf Cz))))))<|Bi fun E16 H17=>Fo (Aw [2, 0] H17 ke33 kz90 r) fun V15=>Qs 1 r<|Nl<|Bn<|Ne<|Rg<|Qs 2 r<|Nl<|Lg V15 [0]
   exact Wx<|Tx<|Ex<|Be<|Jg X2 [0]
  exact Ne<|Sr<|Qs 2 r<|Nx<|Wr<|Re X4 [0]
noncomputable def impl_Model_crash (m : Model) (n : Int) : Option (Reply × Model) :=
  bindC (loopO (fun (S2 : Int × Int × List (Option MRow) × List MRow) => if (decide (S2.2.1 < ((m.Rows.length : Nat) : Int))) = true then ((idx S2.2.2.1 S2.2.1).bind fun E7 =>
  (E7).bind fun E10 =>
  bindC (if (!E10.Synced) = true then (some (.go (IntKind.i64.wrap (S2.1 - (1 : Int)))))
  else (some (.go S2.1)))
  (fun (T14 : Int) => (if E10.Synced = true then (some true)
  else (some (decide (T14 ≥ (0 : Int))))).bind (fun (T17 : Bool) =>
  bindC (if T17 = true then ((app 40 S2.2.2.2 ([{ Tenant := E10.Tenant, Ops := E10.Ops, Synced := true : MRow }])).bind fun E25 =>
  some (.go ((S2.2.2.1.set S2.2.1.toNat none), E25)))
  else (some (.go (S2.2.2.1, S2.2.2.2))))
  (fun (T20 : List (Option MRow) × List MRow) => some (.go (T14, IntKind.i64.wrap (S2.2.1 + (1 : Int)), T20.1, T20.2))))))
  else (some (.done (.go (S2.2.2.1, S2.2.2.2)))))
  (goMax n (0 : Int), (0 : Int), (m.Rows.map some), ([] : List MRow)))
  (fun (T4 : List (Option MRow) × List MRow) => (impl_copyTens m.Base).bind fun R27 =>
  bindC (loopO (fun (S30 : Int × List MTen) => if (decide (S30.1 < ((R27.length : Nat) : Int))) = true then ((idx S30.2 S30.1).bind fun E36 =>
  some (.go (IntKind.i64.wrap (S30.1 + (1 : Int)), (S30.2.set S30.1.toNat ({ Id := E36.Id, Epoch := E36.Epoch, Seq := E36.Seq, Map := E36.Map, Snaps := ([] : List MSnap) : MTen })))))
  else (some (.done (.go S30.2))))
  ((0 : Int), R27))
  (fun (T33 : List MTen) => bindC (loopO (fun (S41 : Int × List MTen) => if (decide (S41.1 < ((T4.2.length : Nat) : Int))) = true then ((idx T4.2 S41.1).bind fun E46 =>
  (impl_tenAt S41.2 E46.Tenant).bind fun R51 =>
  bindC (if (decide (R51 ≥ (0 : Int))) = true then ((idx S41.2 R51).bind fun E57 =>
  (impl_applied E57.Map E46.Ops).bind fun R61 =>
  some (.go (S41.2.set R51.toNat ({ Id := E57.Id, Epoch := E57.Epoch, Seq := IntKind.i64.wrap (E57.Seq + (1 : Int)), Map := R61, Snaps := E57.Snaps : MTen }))))
  else (some (.go S41.2)))
  (fun (T54 : List MTen) => some (.go (IntKind.i64.wrap (S41.1 + (1 : Int)), T54))))
  else (some (.done (.go S41.2))))
  ((0 : Int), T33))
  (fun (T43 : List MTen) => some ({ Code := (0 : Int), N := (0 : Int), Text := [], List := ([] : List KV) : Reply }, { Secret := m.Secret, Shares := m.Shares, Tens := T43, Base := m.Base, Rows := T4.2 : Model }))))
theorem impl_Model_crash_c {m : Model} {n : Int} {U0 U1 U2 U3 : Value} {U4 : Nat} : Cn Tryz.prog 48 [pt U4, iv n] [.box U4 36 [strV m.Secret, iv m.Shares.Size, U0, U1, U2, U3], .own U3 (lc m.Rows)] [(U0, lc m.Shares.List), (U1, lc m.Tens), (U2, lc m.Base)] (impl_Model_crash m n) (fun r (X : Value × Value × Value) => .agg #[iv r.1.Code, iv r.1.N, strV r.1.Text, X.1]) fun r X => [.box U4 36 [strV r.2.Secret, iv r.2.Shares.Size, U0, X.2.1, U2, X.2.2], .own X.2.1 (lc r.2.Tens), .own X.2.2 (lc r.2.Rows), .own X.1 (lc r.1.List)] := by
  unfold impl_Model_crash
  refine Ci Tryz.func48 r r ?_
  rintro w S ⟨Z0,Z1,Z2,-⟩
  refine Sr<|Fo (Al kz41 r) fun B1=>Nx<|Sr<|Qs 1 r<|Nx<|Sr<|Qs 1 r<|Yo (Y.max2 r r)<|Qs 1 r<|Nx<|Sq<|Sr<|Qs 2 r<|Yo (Fb kf36_4 r)<|Yo (Lb 1 kk34 r)<|Yo (Ln ke34 (Oc 2 r) r)<|Qs 1 r<|Nx<|Jn Value [0,4] [1,0] (fun _ X=>[(5, X)]) (fun T X=>[.own U3 (lc T.1), .own X (lc T.2)]) r2 r2 (?_) fun T4 X5=>?_
  ·refine Wb<|Kw (Hm [2] r)<|Nw 3<|Lp Value [0,4,18,19] [3,2] (fun T X=>[(1, iv T.1), (5, X), (20, iv T.2.1)]) (fun T X=>[.own U3 (lc T.2.2.1), .own X (lc T.2.2.2)]) (.slice none 0 0) [3,2,1,0] r2 r2 fun S2 X3=>Sr<|Qs 1 r<|Nx<|Sq<|Wc r (fun H6=>?_) fun H6=>?_
   ·refine Sn<|Sq<|Wb<|Sr<|Bi fun E7 H8=>Yo (Ix ke34 (Oc 2 r) H8 r)<|TO.fact (ptr_of (Can.own 2 r) H8) fun H9=>Bi fun E10 H11=>Gt (X := Value) (Ho 1 [2] (idx_opt H8 H11) r r1) fun X12=>Yo (Lh 0 kk95 (idx_opt H8 H11) r)<|Fo (Al kz95 r) fun B13=>Fu (Sb 0 kk95 r (Ca ⟨Op',Ow' 2,Op',⟨⟩⟩) r)<|Nx<|Sq<|Sr<|Yo (Fb kf95_2 r)<|Yo (Lb 0 kk4 r)<|Qs 1 r<|Nx<|Ju [0,4,5,7,18,19,20] (fun T=>[(1, iv T)]) r1 (Wc r (fun H16=>Rg<|Qs 3 r<|Nl<|Jg () [0,0,0,0,0,0]) fun H16=>Sk<|Jg () [0,0,0,0,0,0]) fun T14=>Ne<|Sq<|Jv [0,1,4,5,7,18,19,20] (fun T=>[(34, .bool T)]) r1 (Rg<|Yo (Fb kf95_2 r)<|Yo (Lb 0 kk4 r)<|Qs 1 r<|It (fun H19=>Of 2 (beq_tf H19) r r<|Yo (Pt H19 r)<|Nl<|Bg () [0,0,0,0,0,0]) fun H19=>Qg 2 (beq_ff H19) r r<|Yo (Pf H19 r)<|Nl<|Bg () [0,0,0,0,0,0]) fun T17=>?_
    refine Ne<|Jn Value [0,1,4,18,19,20] [3,3] (fun _ X=>[(5, X)]) (fun T X=>[.own U3 (lc T.1), .own X (lc T.2)]) r2 r2 (?_) fun T20 X21=>?_
    ·refine Wc r (fun H22=>?_) fun H22=>?_
     ·exact Sr<|Yo (Fb kf95_2 r)<|Fu (Sb 0 kk4 r (Cp r) r)<|Nx<|Rg<|Qs 1 r<|Yo (Lb 0 kk95 r)<|Fo (Bk [ic E10.Tenant, .raw X12, .bool true] ke34 kz95 r (Qc (Ca ⟨Op',Ow' 2,Op',⟨⟩⟩)<|Qz)) fun B23=>Kt (Ha [0, 2] ([{ Tenant := E10.Tenant, Ops := E10.Ops, Synced := true : MRow }] : List MRow) r (Ck (Cf (Ck Cz))))<|Bi fun E25 H26=>Fo (Aw [5, 0] H26 ke34 kz95 r) fun V24=>Qs 1 r<|Nl<|Ke (Hc (α := (Option MRow)) [2] none (idx_opt H8 H11) r (Cd (Cd (Cd Cz))))<|Jg V24 [3,3,0,0]
     exact Sk<|Ke (Hs [1, 1] (idx_opt H8 H11) r (Ck (Cf (Ck Cz))))<|Jg X3 [2,2,0,1]
    exact Bn<|Ne<|Rg<|Qs 2 r<|Nl<|Lg X21 [0,0,0,0]
   exact Wx<|Tx<|Ex<|Be<|Jg X3 [0,0,0,0]
  refine Ne<|Sr<|Qs 3 r<|Yo (Fb kf36_4 r)<|Fu (Sb 0 kk34 r (Co 3) r)<|Nx<|Sr<|Qs 3 r<|Yo (Fb kf36_3 r)<|Yo (Lb 0 kk33 r)<|Bi fun R27 H28=>Fo (Cl [] impl_copyTens_c H28 r r1 ⟨(Bc Z2),⟨⟩⟩) fun Y29=>Qs 1 r<|Yo (Fb kf36_2 r)<|Fu (Sb 1 kk33 r (Co 0) r)<|Nx<|Sq<|Sr<|Qs 2 r<|Yo (Fb kf36_2 r)<|Yo (Lb 1 kk33 r)<|Yo (Ln ke33 (Oc 0 r) r)<|Qs 1 r<|Nx<|Jn Unit [0,4,5] [1,1,2] (fun _ _=>[]) (fun T _=>[.own Y29 (lc T)]) r2 r2 (?_) fun T33 X34=>?_
  ·refine Wb<|Lp Unit [0,4,5,57] [1,1,2] (fun T _=>[(58, iv T.1)]) (fun T _=>[.own Y29 (lc T.2)]) () [1,1,2,0] r2 r2 fun S30 X31=>Sr<|Qs 1 r<|Nx<|Sq<|Wc r (fun H35=>?_) fun H35=>?_
   ·exact Sn<|Sq<|Wb<|Sr<|Qs 2 r<|Nx<|Rg<|Qs 2 r<|Yo (Fb kf36_2 r)<|Yo (Lb 0 kk33 r)<|Qs 1 r<|Bi fun E36 H37=>Yo (Ix ke33 (Oc 3 r) H37 r)<|TO.fact (ptr_of (Can.own 3 r) H37) fun H38=>Yo (Fp kf90_4 H38 r)<|Gt (X := Value × Value) (Ho 2 [3] H37 r r1) fun X39=>Fu (Sh 0 [.raw (.slice none 0 0)] kk88 H37 r (Cp r) r)<|Nl<|Bn<|Ne<|Rg<|Qs 2 r<|Nl<|Ni 2<|Ke (Hc [1, 1, 0] ({ Id := E36.Id, Epoch := E36.Epoch, Seq := E36.Seq, Map := E36.Map, Snaps := ([] : List MSnap) : MTen }) H37 r (Ck (Ck (Ck (Cf (Cf Cz))))))<|Lg () [2,2,2,0]
   exact Wx<|Tx<|Ex<|Be<|Jg () [0,0,0,0]
  refine Ne<|Sq<|Sr<|Qs 1 r<|Yo (Ln ke34 (Oc 2 r) r)<|Qs 1 r<|Nx<|Jn Unit [4] [1,0,0] (fun _ _=>[]) (fun T _=>[.own Y29 (lc T)]) r2 r2 (?_) fun T43 X44=>?_
  ·refine Wb<|Lp Unit [0,4,69,70] [0,0,0] (fun T _=>[(71, iv T.1)]) (fun T _=>[.own Y29 (lc T.2)]) () [0,0,0,0] r2 r2 fun S41 X42=>Sr<|Qs 1 r<|Nx<|Sq<|Wc r (fun H45=>?_) fun H45=>?_
   ·refine Sn<|Sq<|Wb<|Sr<|Bi fun E46 H47=>Yo (Ix ke34 (Oc 2 r) H47 r)<|TO.fact (ptr_of (Can.own 2 r) H47) fun H48=>Gt (X := Value) (Ho 1 [2] H47 r r1) fun X49=>Yo (Lh 0 kk95 H47 r)<|Fo (Al kz95 r) fun B50=>Fu (Sb 0 kk95 r (Ca ⟨Op',Ow' 2,Op',⟨⟩⟩) r)<|Nx<|Sq<|Dr [0,0,0,0,0,0] r hMix<|Aq [0,1] [0,0,0,0,0,0] r<|Ay 2 [0,0,0,0,0,0] r (Fb kf36_2 r)<|Ay 3 [0,0,0,0,0,0] r (Lb 3 kk33 r)<|Ay 4 [0,0,0,0,0,0] r (Fb kf95_0 r)<|Ay 5 [0,0,0,0,0,0] r (Lb 0 kk3 r)<|Ai fun R51 H52=>A1 6<|Xe [0,0,0,0,0,0] r (Cl [] impl_tenAt_c H52 r r1 ⟨(Oc 5 r),⟨⟩⟩) fun _=>?_
    refine Aq [7] [0,0,0,0,0,0] r<|Az<|Ne<|Sr<|Qs 2 r<|Nx<|Jn Unit [0,4,69,70,71] [3,3] (fun _ _=>[]) (fun T _=>[.own Y29 (lc T), .own X5 (lc T4.2)]) r2 r2 (?_) fun T54 X55=>?_
    ·refine Wc r (fun H56=>?_) fun H56=>?_
     ·refine Sr<|Qs 2 r<|Yo (Fb kf36_2 r)<|Yo (Lb 3 kk33 r)<|Qs 1 r<|Bi fun E57 H58=>Yo (Ix ke33 (Oc 5 r) H58 r)<|TO.fact (ptr_of (Can.own 5 r) H58) fun H59=>Qs 1 r<|Nx<|Sr<|Qs 1 r<|Yo (Np H59 r)<|Yo (Fp kf90_2 H59 r)<|Yo (Le kk3 (Oc 5 r) H58 r)<|Qs 1 r<|Yo (Np H59 r)<|Yo (Fp kf90_2 H59 r)<|Gt (X := Value × Value) (Ho 2 [5] H58 r r1) fun X60=>Fu (Sh 0 [ic (IntKind.i64.wrap (E57.Seq + (1 : Int)))] kk3 H58 r (Cp r) r)<|Nx<|Dr [1,1,1,1,1,1,1] r hMix<|Aq [0,1] [1,1,1,1,1,1,1] r<|Ay 2 [1,1,1,1,1,1,1] r (Np H59 r)<|Ay 3 [1,1,1,1,1,1,1] r (Fp kf90_3 H59 r)<|Ay 5 [1,1,1,1,1,1,1] r (Fb kf95_1 r)<|Ay 6 [1,1,1,1,1,1,1] r (Lb 2 kk44 r)<|A1 4<|Xy [1,1,1,1,1,1,1] r (Lh 0 kk39 H58 r)<|Ai fun R61 H62=>?_
      exact A1 7<|Xe [2,2,2,2,2,2,2] r (Cl [] impl_applied_c H62 r r1 ⟨(Oc 1 r),(Oc 5 r),⟨⟩⟩) fun Y63=>Ay 8 [2,2,2,2,2,2,2] r (Np H59 r)<|Ay 9 [2,2,2,2,2,2,2] r (Fp kf90_3 H59 r)<|A1 10<|Xu [2,2,2,2,2,2,2] r (Sh 1 [.raw Y63] kk39 H58 r (Co 0) r)<|Az<|Ke (Hc [1, 0, 1] ({ Id := E57.Id, Epoch := E57.Epoch, Seq := IntKind.i64.wrap (E57.Seq + (1 : Int)), Map := R61, Snaps := E57.Snaps : MTen }) H58 r (Ck (Ck (Ck (Cf (Cf Cz))))))<|Ke (Hs [3, 3] H47 r (Ck (Cf (Ck Cz))))<|Jg () [4,4,1,0]
     exact Sk<|Ke (Hs [1, 1] H47 r (Ck (Cf (Ck Cz))))<|Jg () [2,2,2,0]
    exact Bn<|Ne<|Rg<|Qs 2 r<|Nl<|Lg () [0,0,1,0]
   exact Wx<|Tx<|Ex<|Be<|Jg () [1,0,0,0]
  exact Ne<|Sr<|Yo (Bd kp41 kz41 (Pz) r)<|Fu (Sb 0 kk41 r (Cp r) r)<|Nx<|Wr<|TE.leaf fun _ _ hf_ hs_ => ret_any (rs := [.cell 4 41]) (vs := [.agg #[iv (0 : Int), iv (0 : Int), strV ([]), .slice none 0 0]]) (.inl r) r (RV.cell 0 r r kk41 r ⟨⟩) hf_ hs_ ⟨((.slice none 0 0), Y29, X5), r, (hs_.nilItem 2).pulls [2, 3, 2, 0] r⟩
noncomputable def impl_Model_perform (m : Model) (c : Call) : Option (Reply × Model) :=
  if (decide (c.Kind = (1 : Int))) = true then ((impl_Model_create m c).bind fun R4 =>
  some (R4.1, { Secret := R4.2.Secret, Shares := R4.2.Shares, Tens := R4.2.Tens, Base := R4.2.Base, Rows := m.Rows : Model }))
  else (((impl_inRange c.Kind (2 : Int) (4 : Int)).bind fun R9 =>
  if R9 = true then (some true)
  else (some (decide (c.Kind = (13 : Int))))).bind (fun (T7 : Bool) =>
  if T7 = true then ((impl_Model_ofOwner m c).bind fun R14 =>
  some (R14.1, R14.2))
  else ((impl_inRange c.Kind (5 : Int) (11 : Int)).bind fun R17 =>
  if R17 = true then ((impl_Model_ofTenant m c).bind fun R21 =>
  some (R21.1, { Secret := R21.2.Secret, Shares := { Size := R21.2.Shares.Size, List := m.Shares.List : Shares }, Tens := R21.2.Tens, Base := R21.2.Base, Rows := R21.2.Rows : Model }))
  else (if (decide (c.Kind = (12 : Int))) = true then ((impl_Model_sync m).bind fun R25 =>
  some (R25.1, { Secret := R25.2.Secret, Shares := { Size := R25.2.Shares.Size, List := m.Shares.List : Shares }, Tens := m.Tens, Base := m.Base, Rows := R25.2.Rows : Model }))
  else (if (decide (c.Kind = (14 : Int))) = true then ((impl_Model_crash m c.N).bind fun R29 =>
  some (R29.1, { Secret := R29.2.Secret, Shares := { Size := R29.2.Shares.Size, List := m.Shares.List : Shares }, Tens := R29.2.Tens, Base := m.Base, Rows := R29.2.Rows : Model }))
  else ((impl_no (1 : Int)).bind fun R32 =>
  some (R32, m)))))))
theorem impl_Model_perform_c {m : Model} {c : Call} {U0 U1 U2 U3 U5 : Value} {U4 : Nat} : Cn Tryz.prog 27 [pt U4, .agg #[iv c.Kind, strV c.Token, iv c.Tenant, iv c.N, strV c.Key, strV c.To, U5]] [.box U4 36 [strV m.Secret, iv m.Shares.Size, U0, U1, U2, U3], .own U0 (lc m.Shares.List), .own U1 (lc m.Tens), .own U2 (lc m.Base), .own U3 (lc m.Rows)] [(U5, lc c.Ops)] (impl_Model_perform m c) (fun r (X : Value × Value × Value × Value × Value) => .agg #[iv r.1.Code, iv r.1.N, strV r.1.Text, X.1]) fun r X => [.box U4 36 [strV r.2.Secret, iv r.2.Shares.Size, X.2.1, X.2.2.1, X.2.2.2.1, X.2.2.2.2], .own X.2.1 (lc r.2.Shares.List), .own X.2.2.1 (lc r.2.Tens), .own X.2.2.2.1 (lc r.2.Base), .own X.2.2.2.2 (lc r.2.Rows), .own X.1 (lc r.1.List)] := by
  unfold impl_Model_perform
  refine Ci Tryz.func27 r r ?_
  rintro w S ⟨Z0,-⟩
  refine Sr<|Fo (Bx r (Ca ⟨Op',Op',Op',Op',Op',Op',Ob Z0,⟨⟩⟩)) fun B1=>Fo (Al kz41 r) fun B2=>Nx<|Sq<|Wb<|Sr<|Yo (Fb kf46_0 r)<|Yo (Lb 1 kk3 r)<|Qs 2 r<|Nx<|Wc r (fun H3=>?_) fun H3=>?_
  ·exact Sr<|Qs 1 r<|Yo (Lb 1 kk46 r)<|Bi fun R4 H5=>Fo (Cl [2, 2, 2, 2] impl_Model_create_c H5 r r1 ⟨(Oc 2 r),(Bc Z0),⟨⟩⟩) fun Y6=>Fu (Sb 5 kk41 r (Ca ⟨Op',Op',Op',Ow' 4,⟨⟩⟩) r)<|Nx<|Wr<|Br<|Tr<|TE.leaf fun _ _ hf_ hs_ => ret_any (rs := [.cell 4 41]) (vs := [.agg #[iv R4.1.Code, iv R4.1.N, strV R4.1.Text, Y6.1]]) (.inl r) r (RV.cell 5 r r kk41 r ⟨⟩) hf_ hs_ ⟨(Y6.1, Y6.2.1, Y6.2.2.1, Y6.2.2.2, U3), r, hs_.pulls [0, 0, 0, 0, 3, 0] r⟩
  refine Sq<|Jv [0,3,4] (fun T=>[(12, .bool T)]) r1 (?_) fun T7=>?_
  ·exact Rg<|Yo (Fb kf46_0 r)<|Yo (Lb 1 kk3 r)<|Bi fun R9 H10=>Fo (Cl [] impl_inRange_c H10 r r1) fun _=>Qs 1 r<|It (fun H12=>Of 3 (beq_tf H12) r r<|Yo (Pt H12 r)<|Qs 1 r<|Nl<|Bg () [0,0,0,0,0,0,0]) fun H12=>Yg (gdA (beq_ff H12)) (Fb kf46_0 r)<|Yg (gdA (beq_ff H12)) (Lb 1 kk3 r)<|Qg 1 (beq_ff H12) r r<|Yo (Pf H12 r)<|Qs 1 r<|Nl<|Bg () [0,0,0,0,0,0,0]
  refine Ne<|Wc r (fun H13=>?_) fun H13=>?_
  ·exact Sr<|Qs 1 r<|Yo (Lb 1 kk46 r)<|Bi fun R14 H15=>Fo (Cl [2, 2, 2, 2, 2] impl_Model_ofOwner_c H15 r r1 ⟨(Bc Z0),⟨⟩⟩) fun Y16=>Fu (Sb 6 kk41 r (Ca ⟨Op',Op',Op',Ow' 5,⟨⟩⟩) r)<|Nx<|Wr<|Br<|Tr<|TE.leaf fun _ _ hf_ hs_ => ret_any (rs := [.cell 4 41]) (vs := [.agg #[iv R14.1.Code, iv R14.1.N, strV R14.1.Text, Y16.1]]) (.inl r) r (RV.cell 6 r r kk41 r ⟨⟩) hf_ hs_ ⟨(Y16.1, Y16.2.1, Y16.2.2.1, Y16.2.2.2.1, Y16.2.2.2.2), r, hs_.pulls [0, 0, 0, 0, 0, 0] r⟩
  refine Sr<|Yo (Fb kf46_0 r)<|Yo (Lb 1 kk3 r)<|Bi fun R17 H18=>Fo (Cl [] impl_inRange_c H18 r r1) fun _=>Qs 1 r<|Nx<|Wc r (fun H20=>?_) fun H20=>?_
  ·exact Sr<|Qs 1 r<|Yo (Lb 1 kk46 r)<|Bi fun R21 H22=>Fo (Cl [2, 3, 3, 3] impl_Model_ofTenant_c H22 r r1 ⟨(Oc 2 r),(Bc Z0),⟨⟩⟩) fun Y23=>Fu (Sb 5 kk41 r (Ca ⟨Op',Op',Op',Ow' 4,⟨⟩⟩) r)<|Nx<|Wr<|Br<|Tr<|TE.leaf fun _ _ hf_ hs_ => ret_any (rs := [.cell 4 41]) (vs := [.agg #[iv R21.1.Code, iv R21.1.N, strV R21.1.Text, Y23.1]]) (.inl r) r (RV.cell 5 r r kk41 r ⟨⟩) hf_ hs_ ⟨(Y23.1, U0, U1, U2, Y23.2), r, hs_.pulls [0, 6, 0, 0, 0, 0] r⟩
  refine Sr<|Yo (Fb kf46_0 r)<|Yo (Lb 1 kk3 r)<|Qs 2 r<|Nx<|Wc r (fun H24=>?_) fun H24=>?_
  ·exact Sr<|Qs 1 r<|Bi fun R25 H26=>Fo (Cl [2, 5] impl_Model_sync_c H26 r r1 ⟨(Oc 2 r),(Oc 3 r),(Oc 4 r),⟨⟩⟩) fun Y27=>Fu (Sb 3 kk41 r (Ca ⟨Op',Op',Op',Ow' 2,⟨⟩⟩) r)<|Nx<|Wr<|Br<|Tr<|TE.leaf fun _ _ hf_ hs_ => ret_any (rs := [.cell 4 41]) (vs := [.agg #[iv R25.1.Code, iv R25.1.N, strV R25.1.Text, Y27]]) (.inl r) r (RV.cell 3 r r kk41 r ⟨⟩) hf_ hs_ ⟨(Y27, U0, U1, U2, U3), r, hs_.pulls [0, 4, 4, 4, 0, 0] r⟩
  refine Sr<|Yo (Fb kf46_0 r)<|Yo (Lb 1 kk3 r)<|Qs 2 r<|Nx<|Wc r (fun H28=>?_) fun H28=>?_
  ·exact Sr<|Qs 1 r<|Yo (Fb kf46_3 r)<|Yo (Lb 1 kk3 r)<|Bi fun R29 H30=>Fo (Cl [2, 5] impl_Model_crash_c H30 r r1 ⟨(Oc 2 r),(Oc 3 r),(Oc 4 r),⟨⟩⟩) fun Y31=>Fu (Sb 4 kk41 r (Ca ⟨Op',Op',Op',Ow' 3,⟨⟩⟩) r)<|Nx<|Wr<|Br<|Tr<|TE.leaf fun _ _ hf_ hs_ => ret_any (rs := [.cell 4 41]) (vs := [.agg #[iv R29.1.Code, iv R29.1.N, strV R29.1.Text, Y31.1]]) (.inl r) r (RV.cell 4 r r kk41 r ⟨⟩) hf_ hs_ ⟨(Y31.1, U0, Y31.2.1, U2, Y31.2.2), r, hs_.pulls [0, 5, 0, 5, 0, 0] r⟩
  exact Sk<|Bn<|Ne<|Sr<|Bi fun R32 H33=>Fo (Cl [] impl_no_c H33 r r1) fun Y34=>Fu (Sb 1 kk41 r (Ca ⟨Op',Op',Op',Ow' 0,⟨⟩⟩) r)<|Nx<|Wr<|TE.leaf fun _ _ hf_ hs_ => ret_any (rs := [.cell 4 41]) (vs := [.agg #[iv R32.Code, iv R32.N, strV R32.Text, Y34]]) (.inl r) r (RV.cell 1 r r kk41 r ⟨⟩) hf_ hs_ ⟨(Y34, U0, U1, U2, U3), r, hs_.pulls [3, 3, 3, 3, 3, 0] r⟩
noncomputable def impl_ModelPlay (secret : List UInt8) (size : Int) (l : List Call) : Option (List Reply) :=
  (impl_ModelNew secret size).bind fun R1 =>
  (if (!R1.2) = true then (some true)
  else (some (decide (((l.length : Nat) : Int) > (120 : Int))))).bind (fun (T5 : Bool) =>
  if T5 = true then (some ([]))
  else (bindC (loopO (fun (S10 : List UInt8 × Int × Int × List Share × List MTen × List MTen × List MRow × List Reply) => if (decide (S10.2.2.1 < ((l.length : Nat) : Int))) = true then ((idx l S10.2.2.1).bind fun E15 =>
  (impl_Model_perform ({ Secret := S10.1, Shares := { Size := S10.2.1, List := S10.2.2.2.1 : Shares }, Tens := S10.2.2.2.2.1, Base := S10.2.2.2.2.2.1, Rows := S10.2.2.2.2.2.2.1 : Model }) E15).bind fun R19 =>
  (app 56 S10.2.2.2.2.2.2.2 ([R19.1])).bind fun E25 =>
  some (.go (R19.2.Secret, R19.2.Shares.Size, IntKind.i64.wrap (S10.2.2.1 + (1 : Int)), R19.2.Shares.List, R19.2.Tens, R19.2.Base, R19.2.Rows, E25)))
  else (some (.done (.go S10.2.2.2.2.2.2.2))))
  (R1.1.Secret, R1.1.Shares.Size, (0 : Int), R1.1.Shares.List, R1.1.Tens, R1.1.Base, R1.1.Rows, ([] : List Reply)))
  (fun (T12 : List Reply) => some T12)))
theorem impl_ModelPlay_c {secret : List UInt8} {size : Int} {l : List Call} {U0 : Value} : Cn Tryz.prog 8 [strV secret, iv size, U0] [] [(U0, lc l)] (impl_ModelPlay secret size l) (fun _ (X : Value) => X) fun r X => [.own X (lc r)] := by
  unfold impl_ModelPlay
  refine Ci Tryz.func8 r r ?_
  rintro w S ⟨Z0,-⟩
  refine Sr<|Qs 1 r<|Nx<|Sr<|Qs 2 r<|Bi fun R1 H2=>Fo (Cl [] impl_ModelNew_c H2 r r1) fun Y3=>Qs 3 r<|Fo (Al kz36 r) fun B4=>Fu (Sb 0 kk36 r (Ca ⟨Op',Op',Ow' 1,Ow' 2,Ow' 3,Ow' 4,⟨⟩⟩) r)<|Qs 1 r<|Nx<|Sq<|Sq<|Jv [2,7] (fun T=>[(25, .bool T)]) r1 (Rg<|Qs 3 r<|It (fun H7=>Of 3 (beq_tf H7) r r<|Yo (Pt H7 r)<|Nl<|Bg () [0,0,0,0,0]) fun H7=>Qg 1 (beq_ff H7) r r<|Yg (gdA (beq_ff H7)) (Ln ke24 (Bc Z0) r)<|Qg 1 (beq_ff H7) r r<|Yo (Pf H7 r)<|Nl<|Bg () [0,0,0,0,0]) fun T5=>Ne<|Wc r (fun H8=>Sr<|Qs 1 r<|Nx<|Wr<|Tr<|Ni 4<|Re (.slice none 0 0) [0]) fun H8=>?_
  refine Sn<|Sr<|Qs 1 r<|Nx<|Sq<|Sr<|Qs 1 r<|Yo (Ln ke24 (Bc Z0) r)<|Qs 1 r<|Nx<|Jn Value [] [] (fun _ X=>[(9, X)]) (fun T X=>[.own X (lc T)]) r2 r2 (?_) fun T12 X13=>?_
  ·refine Wb<|Nw 4<|Lp (Value × Value × Value × Value × Value) [7,26,27] [] (fun T X=>[(9, X.2.2.2.2), (28, iv T.2.2.1)]) (fun T X=>[.box B4 36 [strV T.1, iv T.2.1, X.1, X.2.1, X.2.2.1, X.2.2.2.1], .own X.1 (lc T.2.2.2.1), .own X.2.1 (lc T.2.2.2.2.1), .own X.2.2.1 (lc T.2.2.2.2.2.1), .own X.2.2.2.1 (lc T.2.2.2.2.2.2.1), .own X.2.2.2.2 (lc T.2.2.2.2.2.2.2)]) (Y3.1, Y3.2.1, Y3.2.2.1, Y3.2.2.2, .slice none 0 0) [1,1,1,1,1,0] r2 r2 fun S10 X11=>Sr<|Qs 1 r<|Nx<|Sq<|Wc r (fun H14=>?_) fun H14=>?_
   ·refine Sn<|Sq<|Wb<|Sr<|Bi fun E15 H16=>Yo (Ix ke24 (Bc Z0) H16 r)<|?_
    have Q17 : Base w S (elv w U0 (S10.2.2.1.toNat * 7 + 6)) (lc E15.Ops):=Base.el Z0 (idx_get H16).2.2 r r
    refine Yo (Lz kk46 Z0 H16 r)<|Fo (Al kz46 r) fun B18=>Fu (Sb 0 kk46 r (Ca ⟨Op',Op',Op',Op',Op',Op',Ob Q17,⟨⟩⟩) r)<|Nx<|Sr<|Yo (Lb 0 kk46 r)<|Bi fun R19 H20=>Fo (Cl [1, 1, 1, 1, 1] impl_Model_perform_c H20 r r1 ⟨(Bc Q17),⟨⟩⟩) fun Y21=>Fo (Al kz41 r) fun B22=>Fu (Sb 0 kk41 r (Ca ⟨Op',Op',Op',Ow' 6,⟨⟩⟩) r)<|Nx<|Rg<|Qs 1 r<|Yo (Lb 0 kk41 r)<|Fo (Bk [ic R19.1.Code, ic R19.1.N, .str R19.1.Text, .raw Y21.1] ke28 kz41 r (Qc (Ca ⟨Op',Op',Op',Ow' 6,⟨⟩⟩)<|Qz)) fun B23=>Kt (Ha [0, 6] ([R19.1] : List Reply) r (Ck (Ck (Ck (Cf Cz)))))<|Bi fun E25 H26=>?_
    exact Fo (Aw [8, 0] H26 ke28 kz41 r) fun V24=>Qs 1 r<|Nl<|Bn<|Ne<|Rg<|Qs 2 r<|Nl<|Lg (Y21.2.1, Y21.2.2.1, Y21.2.2.2.1, Y21.2.2.2.2, V24) [2,2,2,2,2,0]
   exact Wx<|Tx<|Ex<|Be<|Jg X11.2.2.2.2 [5]
  exact Ne<|Sr<|Qs 2 r<|Nx<|Wr<|Re X13 [0]
noncomputable def spec_ModelNew (secret : List UInt8) (size : Int) : Option (Model × Bool) :=
  (if (!(decide (((secret.length : Nat) : Int) = (32 : Int)))) = true then (some true)
  else ((spec_l1In size (0 : Int) (1000 : Int)).bind fun R5 =>
  some (!R5))).bind (fun (T2 : Bool) =>
  if T2 = true then (some ({ Secret := [], Shares := { Size := (0 : Int), List := ([] : List Share) : Shares }, Tens := ([] : List MTen), Base := ([] : List MTen), Rows := ([] : List MRow) : Model }, false))
  else (some ({ Secret := secret, Shares := { Size := size, List := ([] : List Share) : Shares }, Tens := ([] : List MTen), Base := ([] : List MTen), Rows := ([] : List MRow) : Model }, true)))
theorem spec_ModelNew_c {secret : List UInt8} {size : Int} : Cn Tryz.prog 28 [strV secret, iv size] [] [] (spec_ModelNew secret size) (fun r (X : Value × Value × Value × Value) => .tuple #[.agg #[strV r.1.Secret, iv r.1.Shares.Size, X.1, X.2.1, X.2.2.1, X.2.2.2], .bool r.2]) fun r X => [.own X.1 (lc r.1.Shares.List), .own X.2.1 (lc r.1.Tens), .own X.2.2.1 (lc r.1.Base), .own X.2.2.2 (lc r.1.Rows)] := by
  unfold spec_ModelNew
  refine Ci Tryz.func28 r r ?_
  rintro w S -
  refine Sr<|Fo (Al kz36 r) fun B1=>Qs 1 r<|Nx<|Sq<|Sq<|Jv [0,1,4] (fun T=>[(13, .bool T)]) r1 (Rg<|Qs 1 r<|Yo (Y.slen ks9 r)<|Qs 2 r<|It (fun H4=>Of 3 (beq_tf H4) r r<|Yo (Pt H4 r)<|Nl<|Bg () [0]) fun H4=>Qg 1 (beq_ff H4) r r<|Bi fun R5 H6=>Fg (gdA (beq_ff H4)) (Cl [] spec_l1In_c H6 r r1) fun _=>Qg 1 (beq_ff H4) r r<|Yo (Pf H4 r)<|Nl<|Bg () [0]) fun T2=>Ne<|Wc r (fun H8=>?_) fun H8=>?_
  ·exact Sr<|Yo (Bd kp36 kz36 (Pz) r)<|Fu (Sb 0 kk36 r (Cp r) r)<|Qs 1 r<|Nx<|Wr<|Tr<|TE.leaf fun _ _ hf_ hs_ => ret_any (rs := [.cell 4 36, .tmp 5]) (vs := [.agg #[strV ([]), iv (0 : Int), .slice none 0 0, .slice none 0 0, .slice none 0 0, .slice none 0 0], .bool false]) (.inl r) r (RV.cell 0 r r kk36 r ⟨r, ⟨⟩⟩) hf_ hs_ ⟨((.slice none 0 0), (.slice none 0 0), (.slice none 0 0), (.slice none 0 0)), r, ((((hs_.nilItem 2).nilItem 5).nilItem 5).nilItem 3).pulls [3, 2, 1, 0] r⟩
  exact Sn<|Sr<|Qs 2 r<|Yo (Bd kp32 kz32 (Pc r (Cp r)<|Pz) r)<|Yo (Bd kp36 kz36 (Pc r (Cp r)<|Pc r (Cp r)<|Pz) r)<|Fu (Sb 0 kk36 r (Cp r) r)<|Qs 1 r<|Nx<|Wr<|TE.leaf fun _ _ hf_ hs_ => ret_any (rs := [.cell 4 36, .tmp 5]) (vs := [.agg #[strV secret, iv size, .slice none 0 0, .slice none 0 0, .slice none 0 0, .slice none 0 0], .bool true]) (.inl r) r (RV.cell 0 r r kk36 r ⟨r, ⟨⟩⟩) hf_ hs_ ⟨((.slice none 0 0), (.slice none 0 0), (.slice none 0 0), (.slice none 0 0)), r, ((((hs_.nilItem 2).nilItem 5).nilItem 5).nilItem 3).pulls [3, 2, 1, 0] r⟩
noncomputable def spec_l21At (l : List MTen) (id : Int) : Option Int :=
  bindC (loopO (fun (S1 : Int) => if (decide (S1 < ((l.length : Nat) : Int))) = true then ((idx l S1).bind fun E6 =>
  if (decide (E6.Id = id)) = true then (some (.done (.done S1)))
  else (some (.go (IntKind.i64.wrap (S1 + (1 : Int))))))
  else (some (.done (.go ()))))
  (0 : Int))
  (fun (T3 : Unit) => some (-1 : Int))
theorem spec_l21At_c {l : List MTen} {id : Int} {U0 : Value} : Cn Tryz.prog 54 [U0, iv id] [] [(U0, lc l)] (spec_l21At l id) (fun r (_ : Unit) => iv r) fun _ _ => [] := by
  unfold spec_l21At
  refine Ci Tryz.func54 r r ?_
  rintro w S ⟨Z0,-⟩
  refine Sr<|Qs 1 r<|Nx<|Sq<|Sr<|Qs 1 r<|Nx<|Ju [] (fun _=>[]) r1 (?_) fun T3=>?_
  ·exact Wb<|Lu [0,1] (fun T=>[(5, iv T)]) r1 fun S1=>Sq<|Sr<|Qs 2 r<|Yo (Ln ke33 (Bc Z0) r)<|Qs 1 r<|Nx<|Wc r (fun H5=>Sn<|Sq<|Wb<|Sr<|Qs 2 r<|Bi fun E6 H7=>Yo (Ix ke33 (Bc Z0) H7 r)<|Yo (Fe kf90_0 (Bc Z0) H7 r)<|Yo (Le kk3 (Bc Z0) H7 r)<|Qs 2 r<|Nx<|Wc r (fun H8=>Sr<|Qs 2 r<|Nx<|Wr<|Br<|Tr<|Er<|Br<|Jd<|Tr<|Re () []) fun H8=>Sk<|Bn<|Ne<|Rg<|Qs 3 r<|Nl<|Lg () []) fun H5=>Wx<|Tx<|Ex<|Be<|Jg () []
  exact Ne<|Sr<|Qs 1 r<|Nx<|Wr<|Re () []
noncomputable def spec_l21Code (code : Int) : Option Reply :=
  some ({ Code := code, N := (0 : Int), Text := [], List := ([] : List KV) : Reply })
theorem spec_l21Code_c {code : Int} : Cn Tryz.prog 52 [iv code] [] [] (spec_l21Code code) (fun r (X : Value) => .agg #[iv r.Code, iv r.N, strV r.Text, X]) fun r X => [.own X (lc r.List)] := by
  unfold spec_l21Code
  refine Ci Tryz.func52 r r ?_
  rintro w S -
  exact Sr<|Fo (Al kz41 r) fun B1=>Nx<|Sr<|Qs 1 r<|Yo (Bd kp41 kz41 (Pc r (Cp r)<|Pz) r)<|Fu (Sb 0 kk41 r (Cp r) r)<|Nx<|Wr<|TE.leaf fun _ _ hf_ hs_ => ret_any (rs := [.cell 2 41]) (vs := [.agg #[iv code, iv (0 : Int), strV ([]), .slice none 0 0]]) (.inl r) r (RV.cell 0 r r kk41 r ⟨⟩) hf_ hs_ ⟨(.slice none 0 0), r, (hs_.nilItem 2).pulls [0] r⟩
noncomputable def spec_Need (quota : Int) : Option Int :=
  (spec_l1In quota (0 : Int) (1000 : Int)).bind fun R1 =>
  if (!R1) = true then (some (0 : Int))
  else (some (IntKind.i64.wrap ((2 : Int) + (IntKind.i64.wrap ((2 : Int) * (IntKind.i64.wrap (Int.tdiv (IntKind.i64.wrap (quota + (49 : Int))) (50 : Int))))))))
theorem spec_Need_c {quota : Int} : Cn Tryz.prog 186 [iv quota] [] [] (spec_Need quota) (fun r (_ : Unit) => iv r) fun _ _ => [] := by
  unfold spec_Need
  refine Ci Tryz.func186 r r ?_
  rintro w S -
  exact Sr<|Qs 1 r<|Nx<|Sq<|Sr<|Qs 1 r<|Bi fun R1 H2=>Fo (Cl [] spec_l1In_c H2 r r1) fun _=>Qs 1 r<|Nx<|Wc r (fun H4=>Sr<|Qs 1 r<|Nx<|Wr<|Tr<|Re () []) fun H4=>Sn<|Sr<|Qs 2 r<|Yo (Y.quo (by decide) r r)<|Qs 3 r<|Nx<|Wr<|Re () []
noncomputable def spec_l19All (s : Shares) : Option Int :=
  bindC (loopO (fun (S2 : Int × Int) => if (decide (S2.2 < ((s.List.length : Nat) : Int))) = true then ((idx s.List S2.2).bind fun E7 =>
  (spec_Need E7.Quota).bind fun R9 =>
  some (.go (IntKind.i64.wrap (S2.1 + R9), IntKind.i64.wrap (S2.2 + (1 : Int)))))
  else (some (.done (.go S2.1))))
  ((0 : Int), (0 : Int)))
  (fun (T4 : Int) => bindC (if (decide (((s.List.length : Nat) : Int) > (0 : Int))) = true then (some (.go (IntKind.i64.wrap (T4 + (4 : Int)))))
  else (some (.go T4)))
  (fun (T12 : Int) => some T12))
theorem spec_l19All_c {s : Shares} {U0 : Value} : Cn Tryz.prog 172 [.agg #[iv s.Size, U0]] [] [(U0, lc s.List)] (spec_l19All s) (fun r (_ : Unit) => iv r) fun _ _ => [] := by
  unfold spec_l19All
  refine Ci Tryz.func172 r r ?_
  rintro w S ⟨Z0,-⟩
  refine Sr<|Fo (Bx r (Ca ⟨Op',Ob Z0,⟨⟩⟩)) fun B1=>Qs 1 r<|Nx<|Sr<|Qs 1 r<|Nx<|Sq<|Sr<|Qs 1 r<|Nx<|Ju [1] (fun T=>[(3, iv T)]) r1 (?_) fun T4=>?_
  ·refine Wb<|Lu [1] (fun T=>[(3, iv T.1), (4, iv T.2)]) r1 fun S2=>Sq<|Sr<|Qs 1 r<|Yo (Fb kf32_1 r)<|Yo (Lb 0 kk30 r)<|Yo (Ln ke30 (Bc Z0) r)<|Qs 1 r<|Nx<|Wc r (fun H6=>?_) fun H6=>?_
   ·exact Sn<|Sq<|Wb<|Rg<|Qs 1 r<|Yo (Fb kf32_1 r)<|Yo (Lb 0 kk30 r)<|Qs 1 r<|Bi fun E7 H8=>Yo (Ix ke30 (Bc Z0) H8 r)<|Yo (Fe kf134_1 (Bc Z0) H8 r)<|Yo (Le kk3 (Bc Z0) H8 r)<|Bi fun R9 H10=>Fo (Cl [] spec_Need_c H10 r r1) fun _=>Qs 2 r<|Nl<|Bn<|Ne<|Rg<|Qs 3 r<|Nl<|Lg () [0]
   exact Wx<|Tx<|Ex<|Be<|Jg () [0]
  exact Ne<|Sq<|Sr<|Yo (Fb kf32_1 r)<|Yo (Lb 0 kk30 r)<|Yo (Ln ke30 (Bc Z0) r)<|Qs 1 r<|Nx<|Jn Unit [] [] (fun T _=>[(3, iv T)]) (fun _ _=>[]) r2 r2 (Wc r (fun H14=>Rg<|Qs 3 r<|Nl<|Jg () []) fun H14=>Sk<|Jg () []) fun T12 X13=>Ne<|Sr<|Qs 2 r<|Nx<|Wr<|Re () []
noncomputable def spec_SharesOk (s : Shares) : Option Bool :=
  ((spec_l1In s.Size (0 : Int) (1000 : Int)).bind fun R4 =>
  if (!R4) = true then (some true)
  else (some (decide (((s.List.length : Nat) : Int) > (4 : Int))))).bind (fun (T2 : Bool) =>
  if T2 = true then (some false)
  else (bindC (loopO (fun (S9 : Int) => if (decide (S9 < ((s.List.length : Nat) : Int))) = true then ((idx s.List S9).bind fun E14 =>
  ((spec_l1In E14.Tenant (1 : Int) (99 : Int)).bind fun R19 =>
  if (!R19) = true then (some true)
  else ((spec_l1In E14.Quota (0 : Int) (1000 : Int)).bind fun R23 =>
  if (!R23) = true then (some true)
  else (if (decide (S9 > (0 : Int))) = true then ((idx s.List (IntKind.i64.wrap (S9 - (1 : Int)))).bind fun E28 =>
  some (decide (E28.Tenant ≥ E14.Tenant)))
  else (some false)))).bind (fun (T17 : Bool) =>
  if T17 = true then (some (.done (.done false)))
  else (some (.go (IntKind.i64.wrap (S9 + (1 : Int)))))))
  else (some (.done (.go ()))))
  (0 : Int))
  (fun (T11 : Unit) => (spec_l19All s).bind fun R31 =>
  some (decide (R31 ≤ s.Size)))))
theorem spec_SharesOk_c {s : Shares} {U0 : Value} : Cn Tryz.prog 138 [.agg #[iv s.Size, U0]] [] [(U0, lc s.List)] (spec_SharesOk s) (fun r (_ : Unit) => .bool r) fun _ _ => [] := by
  unfold spec_SharesOk
  refine Ci Tryz.func138 r r ?_
  rintro w S ⟨Z0,-⟩
  refine Sr<|Fo (Bx r (Ca ⟨Op',Ob Z0,⟨⟩⟩)) fun B1=>Qs 1 r<|Nx<|Sq<|Sq<|Jv [1] (fun T=>[(14, .bool T)]) r1 (?_) fun T2=>?_
  ·exact Rg<|Yo (Fb kf32_0 r)<|Yo (Lb 0 kk3 r)<|Bi fun R4 H5=>Fo (Cl [] spec_l1In_c H5 r r1) fun _=>Qs 2 r<|It (fun H7=>Of 4 (beq_tf H7) r r<|Yo (Pt H7 r)<|Nl<|Bg () [0]) fun H7=>Yg (gdA (beq_ff H7)) (Fb kf32_1 r)<|Yg (gdA (beq_ff H7)) (Lb 0 kk30 r)<|Yg (gdA (beq_ff H7)) (Ln ke30 (Bc Z0) r)<|Qg 1 (beq_ff H7) r r<|Yo (Pf H7 r)<|Nl<|Bg () [0]
  refine Ne<|Wc r (fun H8=>Sr<|Qs 1 r<|Nx<|Wr<|Tr<|Re () []) fun H8=>Sn<|Sq<|Sr<|Qs 1 r<|Nx<|Ju [1] (fun _=>[]) r1 (?_) fun T11=>?_
  ·refine Wb<|Lu [1] (fun T=>[(3, iv T)]) r1 fun S9=>Sq<|Sr<|Qs 1 r<|Yo (Fb kf32_1 r)<|Yo (Lb 0 kk30 r)<|Yo (Ln ke30 (Bc Z0) r)<|Qs 1 r<|Nx<|Wc r (fun H13=>?_) fun H13=>?_
   ·refine Sn<|Sq<|Wb<|Sr<|Yo (Fb kf32_1 r)<|Yo (Lb 0 kk30 r)<|Qs 1 r<|Bi fun E14 H15=>Yo (Ix ke30 (Bc Z0) H15 r)<|Yo (Le kk134 (Bc Z0) H15 r)<|Fo (Al kz134 r) fun B16=>Fu (Sb 0 kk134 r (Cp r) r)<|Nx<|Sq<|Jb Unit [1,3] [1] (fun T _=>[(52, .bool T)]) (fun _ _=>[]) r2 r2 (?_) fun T17 X18=>?_
    ·refine Dr [0,0] r hMix<|Ay 0 [0,0] r (Fb kf134_0 r)<|Ay 1 [0,0] r (Lb 0 kk3 r)<|Ai fun R19 H20=>A1 2<|Xe [0,0] r (Cl [] spec_l1In_c H20 r r1) fun _=>Aq [3,4] [0,0] r<|Ia (fun H22=>Ax [5,6,7,8] [0,0] (beq_tf H22) r r<|Ay 9 [0,0] r (Pt H22 r)<|Aq [10] [0,0] r<|Ax [11,12,13] [0,0] r r r<|Au [14,15,16,17,18,19,20,21,22,23] [0,0] r r<|Ax [24] [0,0] r r r<|Ay 25 [0,0] r (Pt r r)<|Az<|Bg () [1]) fun H22=>Ag 5 [0,0] (gdA (beq_ff H22)) r (Fb kf134_1 r)<|Ag 6 [0,0] (gdA (beq_ff H22)) r (Lb 0 kk3 r)<|Ai fun R23 H24=>A1 7<|Xeg [0,0] (gdA (beq_ff H22)) r (Cl [] spec_l1In_c H24 r r1) fun _=>?_
     refine Ag 8 [0,0] (gdA (beq_ff H22)) r (Y.not r)<|Ay 9 [0,0] r (Pf H22 r)<|Aq [10] [0,0] r<|Ia (fun H26=>Ax [11,12,13] [0,0] (beq_tf H26) r r<|Au [14,15,16,17,18,19,20,21,22,23] [0,0] r r<|Ax [24] [0,0] (beq_tf H26) r r<|Ay 25 [0,0] r (Pt H26 r)<|Az<|Bg () [1]) fun H26=>Ag 11 [0,0] (gdA (beq_ff H26)) r (Y.move r)<|Ag 12 [0,0] (gdA (beq_ff H26)) r (Y.gtr r r)<|Ag 13 [0,0] (gdA (beq_ff H26)) r (Y.move r)<|Ia (fun H27=>?_) fun H27=>?_
     ·exact Ag 14 [0,0] (gdA (beq_tt H27)) r (Fb kf32_1 r)<|Ag 15 [0,0] (gdA (beq_tt H27)) r (Lb 1 kk30 r)<|Ag 16 [0,0] (gdA (beq_tt H27)) r (Y.move r)<|Ag 17 [0,0] (gdA (beq_tt H27)) r (Y.sub r r)<|Ai fun E28 H29=>Ag 18 [0,0] (gdA (beq_tt H27)) r (Ix ke30 (Bc Z0) H29 r)<|Ag 19 [0,0] (gdA (beq_tt H27)) r (Fe kf134_0 (Bc Z0) H29 r)<|Ag 20 [0,0] (gdA (beq_tt H27)) r (Le kk3 (Bc Z0) H29 r)<|Ag 21 [0,0] (gdA (beq_tt H27)) r (Fb kf134_0 r)<|Ag 22 [0,0] (gdA (beq_tt H27)) r (Lb 0 kk3 r)<|Ag 23 [0,0] (gdA (beq_tt H27)) r (Y.geq r r)<|Ag 24 [0,0] (gdA (beq_ff H26)) r (Pt H27 r)<|Ay 25 [0,0] r (Pf H26 r)<|Az<|Bg () [1]
     exact Ax [14,15,16,17,18,19,20,21,22,23] [0,0] (beq_ft H27) r r<|Ag 24 [0,0] (gdA (beq_ff H26)) r (Pf H27 r)<|Ay 25 [0,0] r (Pf H26 r)<|Az<|Bg () [1]
    exact Ne<|Wc r (fun H30=>Sr<|Qs 1 r<|Nx<|Wr<|Br<|Tr<|Er<|Br<|Jd<|Tr<|Re () []) fun H30=>Sk<|Bn<|Ne<|Rg<|Qs 3 r<|Nl<|Lg () [0]
   exact Wx<|Tx<|Ex<|Be<|Jg () [0]
  exact Ne<|Sq<|Dr [0] r hMix<|Ay 0 [0] r (Lb 0 kk32 r)<|Ay 2 [0] r (Fb kf32_0 r)<|Ay 3 [0] r (Lb 0 kk3 r)<|Ai fun R31 H32=>A1 1<|Xe [0] r (Cl [] spec_l19All_c H32 r r1 ⟨(Bc Z0),⟨⟩⟩) fun _=>Aq [4,5] [0] r<|Az<|Ne<|Wr<|Re () []
noncomputable def spec_l19Copy (s : Shares) : Option Shares :=
  (app 16 ([] : List Share) s.List).bind fun E5 =>
  some ({ Size := s.Size, List := E5 : Shares })
theorem spec_l19Copy_c {s : Shares} {U0 : Value} : Cn Tryz.prog 139 [.agg #[iv s.Size, U0]] [] [(U0, lc s.List)] (spec_l19Copy s) (fun r (X : Value) => .agg #[iv r.Size, X]) fun r X => [.own X (lc r.List)] := by
  unfold spec_l19Copy
  refine Ci Tryz.func139 r r ?_
  rintro w S ⟨Z0,-⟩
  exact Sr<|Fo (Bx r (Ca ⟨Op',Ob Z0,⟨⟩⟩)) fun B1=>Fo (Al kz32 r) fun B2=>Nx<|Sq<|Dr [1] r hMix<|Ay 0 [1] r (Fb kf32_0 r)<|Ay 1 [1] r (Lb 0 kk3 r)<|Ay 3 [1] r (Fb kf32_1 r)<|Ay 4 [1] r (Lb 0 kk30 r)<|A1 2<|Xe [2] r (Bs ([] : List Share) ke30 kz134) fun B3=>Ai fun E5 H6=>A1 5<|Xe [2] r (Ap [0] H6 ke30 kz134 r (Bc Z0)) fun V4=>A1 6<|Xy [2] r (Bd kp32 kz32 (Pc r (Cp r)<|Pc r (Co 0)<|Pz) r)<|A1 7<|Xu [2] r (Sb 1 kk32 r (Ca ⟨Op',Ow' 0,⟨⟩⟩) r)<|Az<|Ne<|Wr<|TE.leaf fun _ _ hf_ hs_ => ret_any (rs := [.cell 2 32]) (vs := [.agg #[iv s.Size, V4]]) (.inl r) r (RV.cell 1 r r kk32 r ⟨⟩) hf_ hs_ ⟨V4, r, hs_.pulls [0] r⟩
noncomputable def spec_ShareSet (s : Shares) (tenant : Int) (quota : Int) : Option (Shares × Bool) :=
  (spec_SharesOk s).bind fun R3 =>
  if (!R3) = true then (some ({ Size := (0 : Int), List := ([] : List Share) : Shares }, false))
  else (bindC (loopO (fun (S9 : Bool × Int × List Share) => if (decide (S9.2.1 < ((s.List.length : Nat) : Int))) = true then ((if (!S9.1) = true then ((idx s.List S9.2.1).bind fun E17 =>
  some (decide (E17.Tenant ≥ tenant)))
  else (some false)).bind (fun (T14 : Bool) =>
  bindC (if T14 = true then ((app 16 S9.2.2 ([{ Tenant := tenant, Quota := quota : Share }])).bind fun E24 =>
  some (.go (true, E24)))
  else (some (.go (S9.1, S9.2.2))))
  (fun (T19 : Bool × List Share) => (idx s.List S9.2.1).bind fun E26 =>
  bindC (if (!(decide (E26.Tenant = tenant))) = true then ((app 16 T19.2 ([E26])).bind fun E34 =>
  some (.go E34))
  else (some (.go T19.2)))
  (fun (T28 : List Share) => some (.go (T19.1, IntKind.i64.wrap (S9.2.1 + (1 : Int)), T28))))))
  else (some (.done (.go (S9.1, S9.2.2)))))
  (false, (0 : Int), ([] : List Share)))
  (fun (T11 : Bool × List Share) => bindC (if (!T11.1) = true then ((app 16 T11.2 ([{ Tenant := tenant, Quota := quota : Share }])).bind fun E44 =>
  some (.go E44))
  else (some (.go T11.2)))
  (fun (T39 : List Share) => (spec_SharesOk ({ Size := s.Size, List := T39 : Shares })).bind fun R46 =>
  if (!R46) = true then ((spec_l19Copy s).bind fun R50 =>
  some (R50, false))
  else (some ({ Size := s.Size, List := T39 : Shares }, true)))))
theorem spec_ShareSet_c {s : Shares} {tenant : Int} {quota : Int} {U0 : Value} : Cn Tryz.prog 88 [.agg #[iv s.Size, U0], iv tenant, iv quota] [] [(U0, lc s.List)] (spec_ShareSet s tenant quota) (fun r (X : Value) => .tuple #[.agg #[iv r.1.Size, X], .bool r.2]) fun r X => [.own X (lc r.1.List)] := by
  unfold spec_ShareSet
  refine Ci Tryz.func88 r r ?_
  rintro w S ⟨Z0,-⟩
  refine Sr<|Fo (Bx r (Ca ⟨Op',Ob Z0,⟨⟩⟩)) fun B1=>Fo (Al kz32 r) fun B2=>Qs 1 r<|Nx<|Sq<|Sr<|Yo (Lb 1 kk32 r)<|Bi fun R3 H4=>Fo (Cl [] spec_SharesOk_c H4 r r1 ⟨(Bc Z0),⟨⟩⟩) fun _=>Qs 1 r<|Nx<|Wc r (fun H6=>?_) fun H6=>?_
  ·exact Sr<|Yo (Bd kp32 kz32 (Pz) r)<|Fu (Sb 0 kk32 r (Cp r) r)<|Qs 1 r<|Nx<|Wr<|Tr<|TE.leaf fun _ _ hf_ hs_ => ret_any (rs := [.cell 6 32, .tmp 7]) (vs := [.agg #[iv (0 : Int), .slice none 0 0], .bool false]) (.inl r) r (RV.cell 0 r r kk32 r ⟨r, ⟨⟩⟩) hf_ hs_ ⟨(.slice none 0 0), r, (hs_.nilItem 2).pulls [0] r⟩
  refine Sn<|Sr<|Yo (Fb kf32_0 r)<|Yo (Lb 1 kk3 r)<|Yo (Bd kp32 kz32 (Pc r (Cp r)<|Pz) r)<|Fo (Al kz32 r) fun B8=>Fu (Sb 0 kk32 r (Cp r) r)<|Nx<|Sr<|Qs 1 r<|Nx<|Sq<|Sr<|Qs 1 r<|Nx<|Jn Value [1,2,3,6,8] [2,1] (fun T _=>[(9, .bool T.1)]) (fun T X=>[.box B8 32 [iv s.Size, X], .own X (lc T.2)]) r2 r2 (?_) fun T11 X12=>?_
  ·refine Wb<|Nw 2<|Lp Value [1,2,3,6,8] [3,2] (fun T _=>[(9, .bool T.1), (10, iv T.2.1)]) (fun T X=>[.box B8 32 [iv s.Size, X], .own X (lc T.2.2)]) (.slice none 0 0) [3,2,1,0] r2 r2 fun S9 X10=>Sq<|Sr<|Qs 1 r<|Yo (Fb kf32_1 r)<|Yo (Lb 0 kk30 r)<|Yo (Ln ke30 (Bc Z0) r)<|Qs 1 r<|Nx<|Wc r (fun H13=>?_) fun H13=>?_
   ·refine Sn<|Sq<|Wb<|Sq<|Sq<|Jv [1,2,3,6,8,9,10] (fun T=>[(36, .bool T)]) r1 (?_) fun T14=>?_
    ·refine Rg<|Qs 3 r<|It (fun H16=>?_) fun H16=>?_
     ·exact Yg (gdA (beq_tt H16)) (Fb kf32_1 r)<|Yg (gdA (beq_tt H16)) (Lb 0 kk30 r)<|Qg 1 (beq_tt H16) r r<|Bi fun E17 H18=>Yg (gdA (beq_tt H16)) (Ix ke30 (Bc Z0) H18 r)<|Yg (gdA (beq_tt H16)) (Fe kf134_0 (Bc Z0) H18 r)<|Yg (gdA (beq_tt H16)) (Le kk3 (Bc Z0) H18 r)<|Qg 2 (beq_tt H16) r r<|Yo (Pt H16 r)<|Nl<|Bg () [0,0,0,0]
     exact Of 8 (beq_ft H16) r r<|Yo (Pf H16 r)<|Nl<|Bg () [0,0,0,0]
    refine Ne<|Jn Value [1,2,3,6,8,10] [0,0] (fun T _=>[(9, .bool T.1)]) (fun T X=>[.box B8 32 [iv s.Size, X], .own X (lc T.2)]) r2 r2 (?_) fun T19 X20=>?_
    ·refine Wc r (fun H21=>?_) fun H21=>?_
     ·exact Sr<|Yo (Fb kf32_1 r)<|Yo (Lb 2 kk30 r)<|Qs 2 r<|Yo (Bd kp134 kz134 (Pc r (Cp r)<|Pc r (Cp r)<|Pz) r)<|Fo (Bs [{ Tenant := tenant, Quota := quota : Share }] ke30 kz134) fun B22=>Bi fun E24 H25=>Fo (Ap [4] H25 ke30 kz134 r (Oc 0 r)) fun V23=>Yo (Fb kf32_1 r)<|Fu (Sb 4 kk30 r (Co 0) r)<|Nx<|Rg<|Qs 1 r<|Nl<|Jg V23 [2,2,2,0]
     exact Sk<|Jg X10 [0,0,0,0]
    refine Ne<|Sr<|Yo (Fb kf32_1 r)<|Yo (Lb 0 kk30 r)<|Qs 1 r<|Bi fun E26 H27=>Yo (Ix ke30 (Bc Z0) H27 r)<|Yo (Fe kf134_0 (Bc Z0) H27 r)<|Yo (Le kk3 (Bc Z0) H27 r)<|Qs 2 r<|Nx<|Jn Value [1,2,3,6,8,9,10] [0,0] (fun _ _=>[]) (fun T X=>[.box B8 32 [iv s.Size, X], .own X (lc T)]) r2 r2 (?_) fun T28 X29=>?_
    ·refine Wc r (fun H30=>?_) fun H30=>?_
     ·refine Wi fun E34 H35=>Jw Value [1,2,3,6,8,9,10] [0,0] (fun _=>[]) (fun X=>[.box B8 32 [iv s.Size, X], .own X (lc E34)]) r1 r1 (?_) fun X37=>?_
      ·refine Dr [0,0] r hMix<|Ay 0 [0,0] r (Fb kf32_1 r)<|Ay 2 [0,0] r (Fb kf32_1 r)<|Ay 3 [0,0] r (Lb 0 kk30 r)<|Aq [4] [0,0] r<|Ay 5 [0,0] r (Ix ke30 (Bc Z0) H27 r)<|Ay 6 [0,0] r (Le kk134 (Bc Z0) H27 r)<|A2 1 7 (Xy [0,0] r (Lb 2 kk30 r)<|A1 7<|Xe [1,1] r (Bs [E26] ke30 kz134) fun B39=>A1 8<|Xe [2,2] r (Ap [4] H35 ke30 kz134 r (Oc 0 r)) fun V40=>Ay 9 [2,2] r (Fb kf32_1 r)<|A1 10<|Xu [2,2] r (Sb 4 kk30 r (Co 0) r)<|Az<|Bg V40 [2,2,2,0])<|Xe [1,1] r (Bs [E26] ke30 kz134) fun B38=>A1 1<|Xy [1,1] r (Lb 3 kk30 r)<|A1 8<|Xe [2,2] r (Ap [4] H35 ke30 kz134 r (Oc 0 r)) fun V39=>?_
       exact Ay 9 [2,2] r (Fb kf32_1 r)<|A1 10<|Xu [2,2] r (Sb 4 kk30 r (Co 0) r)<|Az<|Bg V39 [2,2,2,0]
      exact Jg X37 [0,0,0,0]
     exact Sk<|Jg X20 [0,0,0,0]
    exact Bn<|Ne<|Rg<|Qs 3 r<|Nl<|Lg X29 [0,0,0,0]
   exact Wx<|Tx<|Ex<|Be<|Jg X10 [0,0,0,0]
  refine Ne<|Sq<|Sr<|Qs 2 r<|Nx<|Jn Value [3,6,8] [0,0] (fun _ _=>[]) (fun T X=>[.box B8 32 [iv s.Size, X], .own X (lc T)]) r2 r2 (?_) fun T39 X40=>?_
  ·refine Wc r (fun H41=>?_) fun H41=>?_
   ·exact Rg<|Yo (Fb kf32_1 r)<|Yo (Lb 2 kk30 r)<|Qs 2 r<|Yo (Bd kp134 kz134 (Pc r (Cp r)<|Pc r (Cp r)<|Pz) r)<|Fo (Bs [{ Tenant := tenant, Quota := quota : Share }] ke30 kz134) fun B42=>Bi fun E44 H45=>Fo (Ap [4] H45 ke30 kz134 r (Oc 0 r)) fun V43=>Yo (Fb kf32_1 r)<|Fu (Sb 4 kk30 r (Co 0) r)<|Nl<|Jg V43 [2,2,2,0]
   exact Sk<|Jg X12 [0,0,0,0]
  refine Ne<|Sq<|Sr<|Yo (Lb 2 kk32 r)<|Bi fun R46 H47=>Fo (Cl [] spec_SharesOk_c H47 r r1 ⟨(Oc 3 r),⟨⟩⟩) fun _=>Qs 1 r<|Nx<|Wc r (fun H49=>?_) fun H49=>?_
  ·exact Sr<|Yo (Lb 0 kk32 r)<|Bi fun R50 H51=>Fo (Cl [] spec_l19Copy_c H51 r r1 ⟨(Bc Z0),⟨⟩⟩) fun Y52=>Fu (Sb 2 kk32 r (Ca ⟨Op',Ow' 0,⟨⟩⟩) r)<|Qs 1 r<|Nx<|Wr<|Tr<|TE.leaf fun _ _ hf_ hs_ => ret_any (rs := [.cell 6 32, .tmp 7]) (vs := [.agg #[iv R50.Size, Y52], .bool false]) (.inl r) r (RV.cell 2 r r kk32 r ⟨r, ⟨⟩⟩) hf_ hs_ ⟨Y52, r, hs_.pulls [0] r⟩
  exact Sn<|Sr<|Yo (Lb 2 kk32 r)<|Fu (Sb 1 kk32 r (Ca ⟨Op',Ow' 3,⟨⟩⟩) r)<|Qs 1 r<|Nx<|Wr<|TE.leaf fun _ _ hf_ hs_ => ret_any (rs := [.cell 6 32, .tmp 7]) (vs := [.agg #[iv s.Size, X40], .bool true]) (.inl r) r (RV.cell 1 r r kk32 r ⟨r, ⟨⟩⟩) hf_ hs_ ⟨X40, r, hs_.pulls [3] r⟩
noncomputable def spec_l21Put (l : List MTen) (t : MTen) : Option (List MTen) :=
  bindC (loopO (fun (S3 : Bool × Int × List (Option MTen) × Option (List KV) × Option (List MSnap) × List MTen) => if (decide (S3.2.1 < ((S3.2.2.1.length : Nat) : Int))) = true then ((if (!S3.1) = true then ((idx S3.2.2.1 S3.2.1).bind fun E11 =>
  (E11).bind fun E19 =>
  some (decide (E19.Id > t.Id), S3.2.2.2.1, S3.2.2.2.2.1))
  else (some (false, S3.2.2.2.1, S3.2.2.2.2.1))).bind (fun (T8 : Bool × Option (List KV) × Option (List MSnap)) =>
  bindC (if T8.1 = true then ((T8.2.1).bind fun E24 =>
  (T8.2.2).bind fun E26 =>
  (app 72 S3.2.2.2.2.2 ([{ Id := t.Id, Epoch := t.Epoch, Seq := t.Seq, Map := E24, Snaps := E26 : MTen }])).bind fun E30 =>
  some (.go (true, none, none, E30)))
  else (some (.go (S3.1, T8.2.1, T8.2.2, S3.2.2.2.2.2))))
  (fun (T21 : Bool × Option (List KV) × Option (List MSnap) × List MTen) => (idx S3.2.2.1 S3.2.1).bind fun E32 =>
  (E32).bind fun E35 =>
  (app 72 T21.2.2.2 ([E35])).bind fun E40 =>
  some (.go (T21.1, IntKind.i64.wrap (S3.2.1 + (1 : Int)), (S3.2.2.1.set S3.2.1.toNat none), T21.2.1, T21.2.2.1, E40)))))
  else (some (.done (.go (S3.1, S3.2.2.2.1, S3.2.2.2.2.1, S3.2.2.2.2.2)))))
  (false, (0 : Int), (l.map some), (some t.Map), (some t.Snaps), ([] : List MTen)))
  (fun (T5 : Bool × Option (List KV) × Option (List MSnap) × List MTen) => bindC (if (!T5.1) = true then ((T5.2.1).bind fun E45 =>
  (T5.2.2.1).bind fun E47 =>
  (app 72 T5.2.2.2 ([{ Id := t.Id, Epoch := t.Epoch, Seq := t.Seq, Map := E45, Snaps := E47 : MTen }])).bind fun E51 =>
  some (.go E51))
  else (some (.go T5.2.2.2)))
  (fun (T42 : List MTen) => some T42))
theorem spec_l21Put_c {l : List MTen} {t : MTen} {U0 U1 U2 : Value} : Cn Tryz.prog 135 [U0, .agg #[iv t.Id, iv t.Epoch, iv t.Seq, U1, U2]] [.own U0 (lc l), .own U1 (lc t.Map), .own U2 (lc t.Snaps)] [] (spec_l21Put l t) (fun _ (X : Value) => X) fun r X => [.own X (lc r)] := by
  unfold spec_l21Put
  refine Ci Tryz.func135 r r ?_
  rintro w S -
  refine Sr<|Fo (Bx r (Ca ⟨Op',Op',Op',Ow' 1,Ow' 2,⟨⟩⟩)) fun B1=>Qs 1 r<|Nx<|Sr<|Fo (Bk [] ke33 kz90 r (Qz)) fun B2=>Kt (Ha [0] ([] : List MTen) r Cz)<|Qs 1 r<|Nx<|Sr<|Qs 1 r<|Nx<|Sq<|Sr<|Qs 1 r<|Nx<|Jn (Value × Value × Value) [3] [] (fun T X=>[(5, X.2.2), (6, .bool T.1)]) (fun T X=>[.box B1 90 [iv t.Id, iv t.Epoch, iv t.Seq, X.1, X.2.1], mayI X.1 T.2.1, mayI X.2.1 T.2.2.1, .own X.2.2 (lc T.2.2.2)]) r2 r2 (?_) fun T5 X6=>?_
  ·refine Wb<|Kw (Hm [2] r)<|Lp (Value × Value × Value) [0,3] [] (fun T X=>[(5, X.2.2), (6, .bool T.1), (7, iv T.2.1)]) (fun T X=>[.box B1 90 [iv t.Id, iv t.Epoch, iv t.Seq, X.1, X.2.1], .own U0 (lc T.2.2.1), mayI X.1 T.2.2.2.1, mayI X.2.1 T.2.2.2.2.1, .own X.2.2 (lc T.2.2.2.2.2)]) (U1, U2, .slice (some ⟨B2, 0, none⟩) 0 0) [2,0,1,1,0] r2 r2 fun S3 X4=>Sq<|Sr<|Qs 2 r<|Yo (Ln ke33 (Oc 1 r) r)<|Qs 1 r<|Nx<|Wc r (fun H7=>?_) fun H7=>?_
   ·refine Sn<|Sq<|Wb<|Sq<|Sq<|Jb (Value × Value) [0,3,5,6,7] [1,3] (fun T _=>[(26, .bool T.1)]) (fun T X=>[.box B1 90 [iv t.Id, iv t.Epoch, iv t.Seq, X.1, X.2], mayI X.1 T.2.1, mayI X.2 T.2.2]) r2 r2 (?_) fun T8 X9=>?_
    ·refine Dr [0,0,0,0,0] r hMix<|Aq [0,1,2] [0,0,0,0,0] r<|Ia (fun H10=>?_) fun H10=>?_
     ·exact Ag 3 [0,0,0,0,0] (gdA (beq_tt H10)) r (Y.move r)<|Ag 4 [0,0,0,0,0] (gdA (beq_tt H10)) r (Y.move r)<|Ai fun E11 H12=>Ag 5 [0,0,0,0,0] (gdA (beq_tt H10)) r (Ix ke33 (Oc 1 r) H12 r)<|Ag 6 [0,0,0,0,0] (gdA (beq_tt H10)) r (Fe kf90_0 (Oc 1 r) H12 r)<|Ag 8 [0,0,0,0,0] (gdA (beq_tt H10)) r (Fb kf90_0 r)<|Ag 9 [0,0,0,0,0] (gdA (beq_tt H10)) r (Lb 0 kk3 r)<|Ai fun E19 H20=>A1 7<|Xyg [0,0,0,0,0] (gdA (beq_tt H10)) r (Le kk3 (Oc 1 r) (idx_opt H12 H20) r)<|Ag 10 [0,0,0,0,0] (gdA (beq_tt H10)) r (Y.gtr r r)<|Ay 11 [0,0,0,0,0] r (Pt H10 r)<|Az<|Bg (X4.1, X4.2.1) [1,3,0,0,0]
     exact Ax [3,4,5,6,7,8,9,10] [0,0,0,0,0] (beq_ft H10) r r<|Ay 11 [0,0,0,0,0] r (Pf H10 r)<|Az<|Bg (X4.1, X4.2.1) [1,3,0,0,0]
    refine Ne<|Jn (Value × Value × Value) [0,3,7] [0] (fun T X=>[(5, X.2.2), (6, .bool T.1)]) (fun T X=>[.box B1 90 [iv t.Id, iv t.Epoch, iv t.Seq, X.1, X.2.1], mayI X.1 T.2.1, mayI X.2.1 T.2.2.1, .own X.2.2 (lc T.2.2.2)]) r2 r2 (?_) fun T21 X22=>?_
    ·refine Wc r (fun H23=>?_) fun H23=>?_
     ·exact Sr<|Qs 1 r<|Yo (Lb 2 kk90 r)<|Bi fun E24 H25=>Kt (Mb [3] H25 r)<|Bi fun E26 H27=>Kt (Mb [4] H27 r)<|Fo (Bk [ic t.Id, ic t.Epoch, ic t.Seq, .raw X9.1, .raw X9.2] ke33 kz90 r (Qc (Ca ⟨Op',Op',Op',Ow' 1,Ow' 0,⟨⟩⟩)<|Qz)) fun B28=>Kt (Ha [0, 1, 0] ([{ Id := t.Id, Epoch := t.Epoch, Seq := t.Seq, Map := E24, Snaps := E26 : MTen }] : List MTen) r (Ck (Ck (Ck (Cf (Cf Cz))))))<|Bi fun E30 H31=>Fo (Aw [2, 0] H31 ke33 kz90 r) fun V29=>Qs 1 r<|Nx<|Rg<|Qs 1 r<|Nl<|Ke Mn<|Ke Mn<|Jg (X9.1, X9.2, V29) [3,3,1,0,0]
     exact Sk<|Jg (X9.1, X9.2, X4.2.2) [0,1,1,1,0]
    exact Ne<|Rg<|Qs 3 r<|Bi fun E32 H33=>Yo (Ix ke33 (Oc 0 r) H33 r)<|TO.fact (ptr_of (Can.own 0 r) H33) fun H34=>Bi fun E35 H36=>Gt (X := Value × Value) (Ho 2 [0] (idx_opt H33 H36) r r1) fun X37=>Yo (Lh 0 kk90 (idx_opt H33 H36) r)<|Fo (Bk [ic E35.Id, ic E35.Epoch, ic E35.Seq, .raw X37.1, .raw X37.2] ke33 kz90 r (Qc (Ca ⟨Op',Op',Op',Ow' 1,Ow' 2,⟨⟩⟩)<|Qz)) fun B38=>Kt (Ha [0, 1, 1] ([E35] : List MTen) r (Ck (Ck (Ck (Cf (Cf Cz))))))<|Bi fun E40 H41=>Fo (Aw [5, 0] H41 ke33 kz90 r) fun V39=>Qs 1 r<|Nl<|Bn<|Ne<|Rg<|Qs 3 r<|Nl<|Ke (Hc (α := (Option MTen)) [1] none (idx_opt H33 H36) r (Cd (Cd (Cd (Cd (Cd Cz))))))<|Lg (X22.1, X22.2.1, V39) [2,0,1,1,0]
   exact Wx<|Tx<|Ex<|Be<|Jg (X4.1, X4.2.1, X4.2.2) [0,1,1,1]
  refine Ne<|Sq<|Sr<|Qs 2 r<|Nx<|Jn Value [] [] (fun _ X=>[(5, X)]) (fun T X=>[.own X (lc T)]) r2 r2 (?_) fun T42 X43=>?_
  ·refine Wc r (fun H44=>?_) fun H44=>?_
   ·exact Rg<|Qs 1 r<|Yo (Lb 0 kk90 r)<|Bi fun E45 H46=>Kt (Mb [1] H46 r)<|Bi fun E47 H48=>Kt (Mb [2] H48 r)<|Fo (Bk [ic t.Id, ic t.Epoch, ic t.Seq, .raw X6.1, .raw X6.2.1] ke33 kz90 r (Qc (Ca ⟨Op',Op',Op',Ow' 1,Ow' 0,⟨⟩⟩)<|Qz)) fun B49=>Kt (Ha [0, 1, 0] ([{ Id := t.Id, Epoch := t.Epoch, Seq := t.Seq, Map := E45, Snaps := E47 : MTen }] : List MTen) r (Ck (Ck (Ck (Cf (Cf Cz))))))<|Bi fun E51 H52=>Fo (Aw [2, 0] H52 ke33 kz90 r) fun V50=>Qs 1 r<|Nl<|Jg V50 [0]
   exact Sk<|Jg X6.2.2 [3]
  exact Ne<|Sr<|Qs 2 r<|Nx<|Wr<|Re X43 [0]
noncomputable def spec_l21Create (m : Model) (c : Call) : Option (Model × Reply) :=
  ((spec_l1In c.Tenant (1 : Int) (99 : Int)).bind fun R7 =>
  if (!R7) = true then (some true)
  else ((spec_l1In c.N (0 : Int) (40 : Int)).bind fun R11 =>
  if (!R11) = true then (some true)
  else (if (!(decide (((c.Key.length : Nat) : Int) = (32 : Int)))) = true then (some true)
  else ((spec_l21At m.Tens c.Tenant).bind fun R16 =>
  some (decide (R16 ≥ (0 : Int))))))).bind (fun (T5 : Bool) =>
  if T5 = true then ((spec_l21Code (1 : Int)).bind fun R20 =>
  some (m, R20))
  else (if (decide (((m.Tens.length : Nat) : Int) ≥ (4 : Int))) = true then ((spec_l21Code (4 : Int)).bind fun R24 =>
  some (m, R24))
  else ((spec_ShareSet m.Shares c.Tenant c.N).bind fun R27 =>
  if (!R27.2) = true then ((spec_l21Code (6 : Int)).bind fun R32 =>
  some (m, R32))
  else ((spec_l21Put m.Tens ({ Id := c.Tenant, Epoch := (0 : Int), Seq := (0 : Int), Map := ([] : List KV), Snaps := ([] : List MSnap) : MTen })).bind fun R37 =>
  (spec_l21Put m.Base ({ Id := c.Tenant, Epoch := (0 : Int), Seq := (0 : Int), Map := ([] : List KV), Snaps := ([] : List MSnap) : MTen })).bind fun R42 =>
  (spec_MintToken m.Secret c.Tenant (0 : Int)).bind fun R45 =>
  some ({ Secret := m.Secret, Shares := R27.1, Tens := R37, Base := R42, Rows := m.Rows : Model }, { Code := (0 : Int), N := (1 : Int), Text := R45, List := ([] : List KV) : Reply })))))
theorem spec_l21Create_c {m : Model} {c : Call} {U0 U1 U2 U3 U4 : Value} : Cn Tryz.prog 86 [.agg #[strV m.Secret, iv m.Shares.Size, U0, U1, U2, U3], .agg #[iv c.Kind, strV c.Token, iv c.Tenant, iv c.N, strV c.Key, strV c.To, U4]] [.own U0 (lc m.Shares.List), .own U1 (lc m.Tens), .own U2 (lc m.Base), .own U3 (lc m.Rows)] [(U4, lc c.Ops)] (spec_l21Create m c) (fun r (X : Value × Value × Value × Value × Value) => .tuple #[.agg #[strV r.1.Secret, iv r.1.Shares.Size, X.1, X.2.1, X.2.2.1, X.2.2.2.1], .agg #[iv r.2.Code, iv r.2.N, strV r.2.Text, X.2.2.2.2]]) fun r X => [.own X.1 (lc r.1.Shares.List), .own X.2.1 (lc r.1.Tens), .own X.2.2.1 (lc r.1.Base), .own X.2.2.2.1 (lc r.1.Rows), .own X.2.2.2.2 (lc r.2.List)] := by
  unfold spec_l21Create
  refine Ci Tryz.func86 r r ?_
  rintro w S ⟨Z0,-⟩
  refine Sr<|Fo (Bx r (Ca ⟨Op',Op',Ow' 0,Ow' 1,Ow' 2,Ow' 3,⟨⟩⟩)) fun B1=>Fo (Bx r (Ca ⟨Op',Op',Op',Op',Op',Op',Ob Z0,⟨⟩⟩)) fun B2=>Fo (Al kz36 r) fun B3=>Fo (Al kz41 r) fun B4=>Nx<|Sq<|Sq<|Jv [2,3,4,5] (fun T=>[(31, .bool T)]) r1 (?_) fun T5=>?_
  ·refine Rg<|Yo (Fb kf46_2 r)<|Yo (Lb 2 kk3 r)<|Bi fun R7 H8=>Fo (Cl [] spec_l1In_c H8 r r1) fun _=>Qs 2 r<|It (fun H10=>Of 4 (beq_tf H10) r r<|Yo (Pt H10 r)<|Qs 1 r<|Of 4 r r r<|Yo (Pt r r)<|Qs 1 r<|Of 6 r r r<|Yo (Pt r r)<|Nl<|Bg () [0,0,0,0,0,0,0,0]) fun H10=>Yg (gdA (beq_ff H10)) (Fb kf46_3 r)<|Yg (gdA (beq_ff H10)) (Lb 2 kk3 r)<|Bi fun R11 H12=>Fg (gdA (beq_ff H10)) (Cl [] spec_l1In_c H12 r r1) fun _=>Qg 1 (beq_ff H10) r r<|Yo (Pf H10 r)<|Qs 1 r<|It (fun H14=>Of 4 (beq_tf H14) r r<|Yo (Pt H14 r)<|Qs 1 r<|Of 6 r r r<|Yo (Pt r r)<|Nl<|Bg () [0,0,0,0,0,0,0,0]) fun H14=>?_
   exact Yg (gdA (beq_ff H14)) (Fb kf46_4 r)<|Yg (gdA (beq_ff H14)) (Lb 2 kk9 r)<|Yg (gdA (beq_ff H14)) (Y.slen ks9 r)<|Qg 1 (beq_ff H14) r r<|Yo (Pf H14 r)<|Qs 1 r<|It (fun H15=>Of 6 (beq_tf H15) r r<|Yo (Pt H15 r)<|Nl<|Bg () [0,0,0,0,0,0,0,0]) fun H15=>Yg (gdA (beq_ff H15)) (Fb kf36_2 r)<|Yg (gdA (beq_ff H15)) (Lb 3 kk33 r)<|Yg (gdA (beq_ff H15)) (Fb kf46_2 r)<|Yg (gdA (beq_ff H15)) (Lb 2 kk3 r)<|Bi fun R16 H17=>Fg (gdA (beq_ff H15)) (Cl [] spec_l21At_c H17 r r1 ⟨(Oc 5 r),⟨⟩⟩) fun _=>Qg 1 (beq_ff H15) r r<|Yo (Pf H15 r)<|Nl<|Bg () [0,0,0,0,0,0,0,0]
  refine Ne<|Wc r (fun H19=>?_) fun H19=>?_
  ·exact Sq<|Dr [2,2,2,2,2,2] r hMix<|Ay 0 [2,2,2,2,2,2] r (Lb 1 kk36 r)<|Ai fun R20 H21=>A1 1<|Xe [3,3,3,3,3,3] r (Cl [] spec_l21Code_c H21 r r1) fun Y22=>A1 2<|Xu [3,3,3,3,3,3] r (Sb 2 kk36 r (Ca ⟨Op',Op',Ow' 5,Ow' 6,Ow' 7,Ow' 8,⟨⟩⟩) r)<|A1 3<|Xu [3,3,3,3,3,3] r (Sb 1 kk41 r (Ca ⟨Op',Op',Op',Ow' 0,⟨⟩⟩) r)<|Az<|Ne<|Wr<|Tr<|TE.leaf fun _ _ hf_ hs_ => ret_any (rs := [.cell 4 36, .cell 5 41]) (vs := [.agg #[strV m.Secret, iv m.Shares.Size, U0, U1, U2, U3], .agg #[iv R20.Code, iv R20.N, strV R20.Text, Y22]]) (.inl r) r (RV.cell 2 r r kk36 r (RV.cell 1 r r kk41 r ⟨⟩)) hf_ hs_ ⟨(U0, U1, U2, U3, Y22), r, hs_.pulls [5, 5, 5, 5, 0] r⟩
  refine Sn<|Sq<|Sr<|Yo (Fb kf36_2 r)<|Yo (Lb 3 kk33 r)<|Yo (Ln ke33 (Oc 5 r) r)<|Qs 1 r<|Nx<|Wc r (fun H23=>?_) fun H23=>?_
  ·exact Sq<|Dr [2,2,2,2,2,2] r hMix<|Ay 0 [2,2,2,2,2,2] r (Lb 1 kk36 r)<|Ai fun R24 H25=>A1 1<|Xe [3,3,3,3,3,3] r (Cl [] spec_l21Code_c H25 r r1) fun Y26=>A1 2<|Xu [3,3,3,3,3,3] r (Sb 2 kk36 r (Ca ⟨Op',Op',Ow' 5,Ow' 6,Ow' 7,Ow' 8,⟨⟩⟩) r)<|A1 3<|Xu [3,3,3,3,3,3] r (Sb 1 kk41 r (Ca ⟨Op',Op',Op',Ow' 0,⟨⟩⟩) r)<|Az<|Ne<|Wr<|Tr<|TE.leaf fun _ _ hf_ hs_ => ret_any (rs := [.cell 4 36, .cell 5 41]) (vs := [.agg #[strV m.Secret, iv m.Shares.Size, U0, U1, U2, U3], .agg #[iv R24.Code, iv R24.N, strV R24.Text, Y26]]) (.inl r) r (RV.cell 2 r r kk36 r (RV.cell 1 r r kk41 r ⟨⟩)) hf_ hs_ ⟨(U0, U1, U2, U3, Y26), r, hs_.pulls [5, 5, 5, 5, 0] r⟩
  refine Sn<|Sr<|Yo (Fb kf36_1 r)<|Yo (Lb 3 kk32 r)<|Yo (Fb kf46_2 r)<|Yo (Lb 2 kk3 r)<|Yo (Fb kf46_3 r)<|Yo (Lb 2 kk3 r)<|Bi fun R27 H28=>Fo (Cl [] spec_ShareSet_c H28 r r1 ⟨(Oc 4 r),⟨⟩⟩) fun Y29=>Qs 3 r<|Fo (Al kz32 r) fun B30=>Fu (Sb 0 kk32 r (Ca ⟨Op',Ow' 1,⟨⟩⟩) r)<|Qs 1 r<|Nx<|Sq<|Sr<|Qs 2 r<|Nx<|Wc r (fun H31=>?_) fun H31=>?_
  ·exact Sq<|Dr [0,0,2,2,2,2,2,2] r hMix<|Ay 0 [0,0,2,2,2,2,2,2] r (Lb 3 kk36 r)<|Ai fun R32 H33=>A1 1<|Xe [1,1,3,3,3,3,3,3] r (Cl [] spec_l21Code_c H33 r r1) fun Y34=>A1 2<|Xu [1,1,3,3,3,3,3,3] r (Sb 4 kk36 r (Ca ⟨Op',Op',Ow' 7,Ow' 8,Ow' 9,Ow' 10,⟨⟩⟩) r)<|A1 3<|Xu [1,1,3,3,3,3,3,3] r (Sb 3 kk41 r (Ca ⟨Op',Op',Op',Ow' 0,⟨⟩⟩) r)<|Az<|Ne<|Wr<|Tr<|TE.leaf fun _ _ hf_ hs_ => ret_any (rs := [.cell 4 36, .cell 5 41]) (vs := [.agg #[strV m.Secret, iv m.Shares.Size, U0, U1, U2, U3], .agg #[iv R32.Code, iv R32.N, strV R32.Text, Y34]]) (.inl r) r (RV.cell 4 r r kk36 r (RV.cell 3 r r kk41 r ⟨⟩)) hf_ hs_ ⟨(U0, U1, U2, U3, Y34), r, hs_.pulls [7, 7, 7, 7, 0] r⟩
  refine Sn<|Sr<|Yo (Lb 0 kk32 r)<|Yo (Fb kf36_1 r)<|Fu (Sb 5 kk32 r (Ca ⟨Op',Ow' 1,⟨⟩⟩) r)<|Nx<|Sr<|Yo (Fb kf36_2 r)<|Yo (Lb 5 kk33 r)<|Yo (Fb kf46_2 r)<|Yo (Lb 4 kk3 r)<|Yo (Bd kp90 kz90 (Pc r (Cp r)<|Pz) r)<|Bi fun R37 H38=>No 2<|No 2<|Fo (Cl [9, 1, 0] spec_l21Put_c H38 r r1) fun Y39=>Yo (Fb kf36_2 r)<|Fu (Sb 6 kk33 r (Co 0) r)<|Nx<|Sr<|Yo (Fb kf36_3 r)<|Yo (Lb 6 kk33 r)<|Yo (Fb kf46_2 r)<|Yo (Lb 5 kk3 r)<|Yo (Bd kp90 kz90 (Pc r (Cp r)<|Pz) r)<|Bi fun R42 H43=>No 2<|No 2<|Fo (Cl [10, 1, 0] spec_l21Put_c H43 r r1) fun Y44=>Yo (Fb kf36_3 r)<|Fu (Sb 7 kk33 r (Co 0) r)<|Nx<|Sq<|Dr [0,0,0,0,2,2,2,2] r hMix<|Ay 0 [0,0,0,0,2,2,2,2] r (Lb 5 kk36 r)<|Ay 1 [0,0,0,0,2,2,2,2] r (Fb kf36_0 r)<|Ay 2 [0,0,0,0,2,2,2,2] r (Lb 5 kk9 r)<|Ay 3 [0,0,0,0,2,2,2,2] r (Fb kf46_2 r)<|Ay 4 [0,0,0,0,2,2,2,2] r (Lb 4 kk3 r)<|Ai fun R45 H46=>?_
  exact A1 5<|Xe [0,0,0,0,2,2,2,2] r (Cl [] spec_MintToken_c H46 r r1) fun _=>Ay 6 [0,0,0,0,2,2,2,2] r (Bd kp41 kz41 (Pc r (Cp r)<|Pc r (Cp r)<|Pz) r)<|A1 7<|Xu [0,0,0,0,2,2,2,2] r (Sb 5 kk36 r (Ca ⟨Op',Op',Ow' 3,Ow' 1,Ow' 0,Ow' 9,⟨⟩⟩) r)<|A1 8<|Xu [0,0,0,0,2,2,2,2] r (Sb 4 kk41 r (Cp r) r)<|Az<|Ne<|Wr<|TE.leaf fun _ _ hf_ hs_ => ret_any (rs := [.cell 4 36, .cell 5 41]) (vs := [.agg #[strV m.Secret, iv R27.1.Size, Y29, Y39, Y44, U3], .agg #[iv (0 : Int), iv (1 : Int), strV R45, .slice none 0 0]]) (.inl r) r (RV.cell 5 r r kk36 r (RV.cell 4 r r kk41 r ⟨⟩)) hf_ hs_ ⟨(Y29, Y39, Y44, U3, (.slice none 0 0)), r, (hs_.nilItem 2).pulls [4, 2, 1, 7, 0] r⟩
noncomputable def spec_l21CopyMap (m : List KV) : Option (List KV) :=
  (app 32 ([] : List KV) m).bind fun E3 =>
  some E3
theorem spec_l21CopyMap_c {m : List KV} {U0 : Value} : Cn Tryz.prog 140 [U0] [] [(U0, lc m)] (spec_l21CopyMap m) (fun _ (X : Value) => X) fun r X => [.own X (lc r)] := by
  unfold spec_l21CopyMap
  refine Ci Tryz.func140 r r ?_
  rintro w S ⟨Z0,-⟩
  exact Sr<|Qs 1 r<|Nx<|Sr<|Fo (Bs ([] : List KV) ke39 kz100) fun B1=>Qs 1 r<|Bi fun E3 H4=>Fo (Ap [0] H4 ke39 kz100 r (Bc Z0)) fun V2=>Qs 1 r<|Nx<|Wr<|Re V2 [0]
end Go.Proofs.YtmigafjpdoeicaaGreat
