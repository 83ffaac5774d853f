/-
  The functions that a law reaches, each as a pure function, with the proof that the program computes it, and the step from a pure law to the given statement. Conditions: none.
-/
import Derived.Test.YtmigafjpdoeicaaGreatQ2
set_option linter.unusedVariables false
set_option maxRecDepth 100000
set_option maxHeartbeats 4000000
namespace Go.Proofs.YtmigafjpdoeicaaGreat
open Go Sl
noncomputable def impl_Model_quota (m : Model) (c : Call) : Option (Reply × Model) :=
  (impl_isQuota c.N).bind fun R3 =>
  if (!R3) = true then ((impl_no (1 : Int)).bind fun R7 =>
  some (R7, m))
  else ((impl_ShareSet m.Shares c.Tenant c.N).bind fun R10 =>
  if (!R10.2) = true then ((impl_no (6 : Int)).bind fun R20 =>
  some (R20, m))
  else (some ({ Code := (0 : Int), N := (0 : Int), Text := [], List := ([] : List KV) : Reply }, { Secret := m.Secret, Shares := R10.1, Tens := m.Tens, Base := m.Base, Rows := m.Rows : Model })))
theorem impl_Model_quota_c {m : Model} {c : Call} {U0 U1 U2 U3 U5 : Value} {U4 : Nat} : Cn Tryz.prog 73 [pt U4, .agg #[iv c.Kind, strV c.Token, iv c.Tenant, iv c.N, strV c.Key, strV c.To, U5]] [.box U4 36 [strV m.Secret, iv m.Shares.Size, U0, U1, U2, U3], .own U0 (lc m.Shares.List)] [(U1, lc m.Tens), (U2, lc m.Base), (U3, lc m.Rows), (U5, lc c.Ops)] (impl_Model_quota m c) (fun r (X : Value × Value) => .agg #[iv r.1.Code, iv r.1.N, strV r.1.Text, X.1]) fun r X => [.box U4 36 [strV r.2.Secret, iv r.2.Shares.Size, X.2, U1, U2, U3], .own X.2 (lc r.2.Shares.List), .own X.1 (lc r.1.List)] := by
  unfold impl_Model_quota
  refine Ci Tryz.func73 r r ?_
  rintro w S ⟨Z0,Z1,Z2,Z3,-⟩
  refine Sr<|Fo (Bx r (Ca ⟨Op',Op',Op',Op',Op',Op',Ob Z3,⟨⟩⟩)) fun B1=>Fo (Al kz41 r) fun B2=>Nx<|Sq<|Sr<|Yo (Fb kf46_3 r)<|Yo (Lb 1 kk3 r)<|Bi fun R3 H4=>Fo (Cl [] impl_isQuota_c H4 r r1) fun _=>Qs 1 r<|Nx<|Wc r (fun H6=>?_) fun H6=>?_
  ·exact Sr<|Bi fun R7 H8=>Fo (Cl [] impl_no_c H8 r r1) fun Y9=>Fu (Sb 1 kk41 r (Ca ⟨Op',Op',Op',Ow' 0,⟨⟩⟩) r)<|Nx<|Wr<|Tr<|TE.leaf fun _ _ hf_ hs_ => ret_any (rs := [.cell 4 41]) (vs := [.agg #[iv R7.Code, iv R7.N, strV R7.Text, Y9]]) (.inl r) r (RV.cell 1 r r kk41 r ⟨⟩) hf_ hs_ ⟨(Y9, U0), r, hs_.pulls [3, 3, 0] r⟩
  refine Sn<|Sq<|Wi fun R10 H11=>Jw (Nat × Value) [0,4] [2,0,1] (fun X=>[(5, pt X.1), (6, .bool R10.2)]) (fun X=>[.box X.1 32 [iv R10.1.Size, X.2], .own X.2 (lc R10.1.List)]) r1 r1 (?_) fun X16=>?_
  ·refine Dr [0,0,0,0] r hMix<|Aq [0,1] [0,0,0,0] r<|Ay 2 [0,0,0,0] r (Fb kf36_1 r)<|Ay 3 [0,0,0,0] r (Lb 2 kk32 r)<|Ay 4 [0,0,0,0] r (Fb kf46_2 r)<|Ay 5 [0,0,0,0] r (Lb 1 kk3 r)<|Ay 6 [0,0,0,0] r (Fb kf46_3 r)<|Ay 7 [0,0,0,0] r (Lb 1 kk3 r)<|A2 8 12 (Xe [1,1,1,1] r (Cl [] impl_ShareSet_c H11 r r1 ⟨(Oc 3 r),⟨⟩⟩) fun Y17=>Aq [9,10,11] [1,1,1,1] r<|A1 12<|Xe [2,2,2,2] r (Al kz32 r) fun B19=>A1 13<|Xu [2,2,2,2] r (Sb 0 kk32 r (Ca ⟨Op',Ow' 1,⟨⟩⟩) r)<|Aq [14] [2,2,2,2] r<|Az<|Bg (B19, Y17) [4,2,3,0,0])<|Xe [1,1,1,1] r (Al kz32 r) fun B18=>A1 8<|Xe [2,2,2,2] r (Cl [] impl_ShareSet_c H11 r r1 ⟨(Oc 4 r),⟨⟩⟩) fun Y19=>?_
   exact Aq [9,10,11] [2,2,2,2] r<|A1 13<|Xu [2,2,2,2] r (Sb 1 kk32 r (Ca ⟨Op',Ow' 0,⟨⟩⟩) r)<|Aq [14] [2,2,2,2] r<|Az<|Bg (B18, Y19) [4,2,3,1,0]
  refine Ne<|Sq<|Sr<|Qs 2 r<|Nx<|Wc r (fun H19=>?_) fun H19=>?_
  ·exact Sr<|Bi fun R20 H21=>Fo (Cl [] impl_no_c H21 r r1) fun Y22=>Fu (Sb 2 kk41 r (Ca ⟨Op',Op',Op',Ow' 0,⟨⟩⟩) r)<|Nx<|Wr<|Tr<|TE.leaf fun _ _ hf_ hs_ => ret_any (rs := [.cell 4 41]) (vs := [.agg #[iv R20.Code, iv R20.N, strV R20.Text, Y22]]) (.inl r) r (RV.cell 2 r r kk41 r ⟨⟩) hf_ hs_ ⟨(Y22, U0), r, hs_.pulls [1, 2, 0] r⟩
  exact Sn<|Sr<|Qs 1 r<|Yo (Lb 3 kk32 r)<|Qs 1 r<|Yo (Fb kf36_1 r)<|Fu (Sb 0 kk32 r (Ca ⟨Op',Ow' 4,⟨⟩⟩) r)<|Nx<|Sr<|Yo (Bd kp41 kz41 (Pz) r)<|Fu (Sb 1 kk41 r (Cp r) r)<|Nx<|Wr<|TE.leaf fun _ _ hf_ hs_ => ret_any (rs := [.cell 4 41]) (vs := [.agg #[iv (0 : Int), iv (0 : Int), strV ([]), .slice none 0 0]]) (.inl r) r (RV.cell 1 r r kk41 r ⟨⟩) hf_ hs_ ⟨((.slice none 0 0), X16.2), r, (hs_.nilItem 2).pulls [1, 4, 0] r⟩
noncomputable def impl_dropTen_1 (t : MTen) (c0_ : Int) : Option Bool :=
  some (decide (t.Id = c0_))
theorem impl_dropTen_1_c {t : MTen} {c0_ : Int} {U0 U1 : Value} {U2 : Nat} : Cn Tryz.prog 158 [.agg #[iv t.Id, iv t.Epoch, iv t.Seq, U0, U1], pt U2] [.box U2 3 [iv c0_]] [(U0, lc t.Map), (U1, lc t.Snaps)] (impl_dropTen_1 t c0_) (fun r (_ : Unit) => .bool r) fun _ _ => [.box U2 3 [iv c0_]] := by
  unfold impl_dropTen_1
  refine Ci Tryz.func158 r r ?_
  rintro w S ⟨Z0,Z1,-⟩
  exact Sr<|Fo (Bx r (Ca ⟨Op',Op',Op',Ob Z0,Ob Z1,⟨⟩⟩)) fun B1=>Qs 1 r<|Nx<|Sr<|Yo (Fb kf90_0 r)<|Yo (Lb 0 kk3 r)<|Yo (Lb 1 kk3 r)<|Qs 2 r<|Nx<|Wr<|Re () [1]
noncomputable def slices_IndexFunc_81204_at_impl_dropTen_1 (s : List MTen) (f_c0 : Int) : Option Int :=
  bindC (loopO (fun (S1 : Int) => if (decide (S1 < ((s.length : Nat) : Int))) = true then ((idx s S1).bind fun E6 =>
  (impl_dropTen_1 E6 f_c0).bind fun R10 =>
  if R10 = true then (some (.done (.done S1)))
  else (some (.go (IntKind.i64.wrap (S1 + (1 : Int))))))
  else (some (.done (.go ()))))
  (0 : Int))
  (fun (T3 : Unit) => some (-1 : Int))
theorem slices_IndexFunc_81204_at_impl_dropTen_1_c {s : List MTen} {f_c0 : Int} {U0 : Value} {U1 : Nat} : Cn Tryz.prog 110 [U0, .func (.func 158) #[] #[pt U1]] [.box U1 3 [iv f_c0]] [(U0, lc s)] (slices_IndexFunc_81204_at_impl_dropTen_1 s f_c0) (fun r (_ : Unit) => iv r) fun _ _ => [.box U1 3 [iv f_c0]] := by
  unfold slices_IndexFunc_81204_at_impl_dropTen_1
  refine Ci Tryz.func110 r r ?_
  rintro w S ⟨Z0,-⟩
  refine Sr<|Qs 1 r<|Nx<|Sq<|Sr<|Qs 1 r<|Yo (Ln ke33 (Bc Z0) r)<|Qs 1 r<|Nx<|Ju [] (fun _=>[]) r1 (?_) fun T3=>?_
  ·refine Wb<|Lu [0,1,7] (fun T=>[(8, iv T)]) r1 fun S1=>Sr<|Qs 1 r<|Nx<|Sq<|Wc r (fun H5=>?_) fun H5=>?_
   ·refine Sn<|Sq<|Wb<|Sr<|Qs 2 r<|Nx<|Sr<|Qs 3 r<|Bi fun E6 H7=>Yo (Ix ke33 (Bc Z0) H7 r)<|?_
    have Q8 : Base w S (elv w U0 (S1.toNat * 5 + 3)) (lc E6.Map):=Base.el Z0 (idx_get H7).2.2 r r
    have Q9 : Base w S (elv w U0 (S1.toNat * 5 + 4)) (lc E6.Snaps):=Base.el Z0 (idx_get H7).2.2 r r
    exact Yo (Lz kk90 Z0 H7 r)<|Bi fun R10 H11=>Fo (Cw [0] impl_dropTen_1_c H11 r r r1 ⟨(Bc Q8),(Bc Q9),⟨⟩⟩) fun _=>Nx<|Wc r (fun H13=>Sr<|Qs 2 r<|Nx<|Wr<|Br<|Tr<|Er<|Br<|Jd<|Tr<|Re () [0]) fun H13=>Sk<|Bn<|Ne<|Rg<|Qs 2 r<|Nl<|Lg () [0]
   exact Wx<|Tx<|Ex<|Be<|Jg () [0]
  exact Ne<|Sr<|Qs 1 r<|Nx<|Wr<|Re () [0]
noncomputable def slices_DeleteFunc_81204_at_impl_dropTen_1 (s : List MTen) (del_c0 : Int) : Option (List MTen) :=
  (slices_IndexFunc_81204_at_impl_dropTen_1 s del_c0).bind fun R1 =>
  if (decide (R1 = (-1 : Int))) = true then (some s)
  else (bindC (loopO (fun (S5 : Int × Int × List (Option MTen)) => if (decide (S5.2.1 < ((S5.2.2.length : Nat) : Int))) = true then ((idx S5.2.2 S5.2.1).bind fun E10 =>
  (E10).bind fun E13 =>
  (impl_dropTen_1 E13 del_c0).bind fun R17 =>
  bindC (if (!R17) = true then ((idx S5.2.2 S5.1).bind fun E23 =>
  (idx (S5.2.2.set S5.2.1.toNat none) S5.1).bind fun E25 =>
  some (.go (IntKind.i64.wrap (S5.1 + (1 : Int)), ((S5.2.2.set S5.2.1.toNat none).set S5.1.toNat (some E13)))))
  else (some (.go (S5.1, S5.2.2))))
  (fun (T20 : Int × List (Option MTen)) => some (.go (T20.1, IntKind.i64.wrap (S5.2.1 + (1 : Int)), T20.2))))
  else (some (.done (.go (S5.1, S5.2.2)))))
  (R1, IntKind.i64.wrap (R1 + (1 : Int)), (s.map some)))
  (fun (T7 : Int × List (Option MTen)) => (piece T7.2 T7.1 ((T7.2.length : Nat) : Int)).bind fun E28 =>
  (piece T7.2 (0 : Int) T7.1).bind fun E30 =>
  (allO E30).bind fun E32 =>
  some E32))
theorem slices_DeleteFunc_81204_at_impl_dropTen_1_c {s : List MTen} {del_c0 : Int} {U0 : Value} {U1 : Nat} : Cn Tryz.prog 157 [U0, .func (.func 158) #[] #[pt U1]] [.own U0 (lc s), .box U1 3 [iv del_c0]] [] (slices_DeleteFunc_81204_at_impl_dropTen_1 s del_c0) (fun _ (X : Value) => X) fun r X => [.box U1 3 [iv del_c0], .own X (lc r)] := by
  unfold slices_DeleteFunc_81204_at_impl_dropTen_1
  refine Ci Tryz.func157 r r ?_
  rintro w S -
  refine Sr<|Qs 1 r<|Nx<|Sr<|Qs 2 r<|Bi fun R1 H2=>Fo (Cl [1] slices_IndexFunc_81204_at_impl_dropTen_1_c H2 r r1 ⟨(Oc 0 r),⟨⟩⟩) fun _=>Qs 1 r<|Nx<|Sq<|Sr<|Qs 2 r<|Nx<|Wc r (fun H4=>Sr<|Qs 2 r<|Nx<|Wr<|Tr<|Re U0 [0,0]) fun H4=>Sn<|Sq<|Sr<|Qs 3 r<|Nx<|Jn Unit [0] [0] (fun T _=>[(5, iv T.1)]) (fun T _=>[.own U0 (lc T.2)]) r2 r2 (?_) fun T7 X8=>?_
  ·refine Wb<|Kw (Hm [1] r)<|Lp Unit [0,1] [1] (fun T _=>[(5, iv T.1), (6, iv T.2.1)]) (fun T _=>[.own U0 (lc T.2.2)]) () [1,0] r2 r2 fun S5 X6=>Sq<|Sr<|Qs 2 r<|Yo (Ln ke33 (Oc 1 r) r)<|Qs 1 r<|Nx<|Wc r (fun H9=>?_) fun H9=>?_
   ·refine Sn<|Sq<|Wb<|Sr<|Qs 2 r<|Bi fun E10 H11=>Yo (Ix ke33 (Oc 1 r) H11 r)<|TO.fact (ptr_of (Can.own 1 r) H11) fun H12=>Bi fun E13 H14=>Gt (X := Value × Value) (Ho 2 [1] (idx_opt H11 H14) r r1) fun X15=>Yo (Lh 0 kk90 (idx_opt H11 H14) r)<|Fo (Al kz90 r) fun B16=>Fu (Sb 0 kk90 r (Ca ⟨Op',Op',Op',Ow' 2,Ow' 3,⟨⟩⟩) r)<|Nx<|Sr<|Qs 1 r<|Yo (Lb 0 kk90 r)<|Bi fun R17 H18=>Fo (Cw [4] impl_dropTen_1_c H18 r r r1 ⟨(Oc 2 r),(Oc 3 r),⟨⟩⟩) fun _=>Qs 1 r<|Nx<|Jn Unit [0,1,6] [0] (fun T _=>[(5, iv T.1)]) (fun T _=>[.own U0 (lc T.2)]) r2 r2 (?_) fun T20 X21=>?_
    ·refine Wc r (fun H22=>?_) fun H22=>?_
     ·exact Sr<|Qs 2 r<|Yo (Lb 1 kk90 r)<|Bi fun E23 H24=>Yo (Ix ke33 (Oc 2 r) H24 r)<|Kt (Hc (α := (Option MTen)) [2] none (idx_opt H11 H14) r (Cd (Cd (Cd (Cd (Cd Cz))))))<|Bi fun E25 H26=>Gt (X := Value × Value × Value × Value × Value) (Hw (α := (Option MTen)) 5 [0] H26 r r1) fun X27=>Fu (Sh 0 [ic E13.Id, ic E13.Epoch, ic E13.Seq, .raw X15.1, .raw X15.2] kk90 H26 r (Ca ⟨Op',Op',Op',Ow' 3,Ow' 4,⟨⟩⟩) r)<|Nx<|Rg<|Qs 3 r<|Nl<|Ke (Hc [0, 2, 2] (some E13) H26 r (Ck (Ck (Ck (Cf (Cf Cz))))))<|Jg () [1,0]
     exact Sk<|Ke (Hs [2, 2, 2] (idx_opt H11 H14) r (Ck (Ck (Ck (Cf (Cf Cz))))))<|Jg () [1,0]
    exact Bn<|Ne<|Rg<|Qs 3 r<|Nl<|Lg () [0,0]
   exact Wx<|Tx<|Ex<|Be<|Jg () [0,0]
  exact Ne<|Sr<|Qs 2 r<|Bi fun E28 H29=>Yo (Y.subs H29 ke33 (Oc 1 r) r ⟨_, r⟩ r)<|Bi fun E30 H31=>Bi fun E32 H33=>Fu (Ef.clearView (i := 1) (is' := [.box U1 3 [iv del_c0], .own (subV U0 5 (0 : Int).toNat (T7.1.toNat - (0 : Int).toNat)) (lc E30)]) H31 ke33 kz90 r r r r r r)<|Kt (Hv [1] H33 r)<|Nx<|Sr<|Qs 2 r<|Yo (Y.sub_again (i := 0) r (piece_eq H31).2.1 ke33 r r)<|Qs 1 r<|Nx<|Wr<|Re (subV U0 5 (0 : Int).toNat (T7.1.toNat - (0 : Int).toNat)) [1,0]
noncomputable def impl_dropTen (l : List MTen) (id : Int) : Option (List MTen) :=
  (slices_DeleteFunc_81204_at_impl_dropTen_1 l id).bind fun R2 =>
  some R2
theorem impl_dropTen_c {l : List MTen} {id : Int} {U0 : Value} : Cn Tryz.prog 120 [U0, iv id] [.own U0 (lc l)] [] (impl_dropTen l id) (fun _ (X : Value) => X) fun r X => [.own X (lc r)] := by
  unfold impl_dropTen
  refine Ci Tryz.func120 r r ?_
  rintro w S -
  exact Sr<|Fo (Bx r (Cp r)) fun B1=>Qs 1 r<|Nx<|Sr<|Qs 1 r<|Yo (Y.makeFunc r)<|Bi fun R2 H3=>Fo (Cl [1, 0] slices_DeleteFunc_81204_at_impl_dropTen_1_c H3 r r1) fun Y4=>Qs 1 r<|Nx<|Wr<|Re Y4 [1]
noncomputable def slices_Delete_21618 (s : List Share) (i : Int) (j : Int) : Option (List Share) :=
  (piece s i j).bind fun E1 =>
  if (decide (i = j)) = true then (some s)
  else ((piece s (0 : Int) i).bind fun E5 =>
  (piece s j ((s.length : Nat) : Int)).bind fun E7 =>
  some (E5 ++ E7))
theorem slices_Delete_21618_c {s : List Share} {i : Int} {j : Int} {U0 : Value} : Cn Tryz.prog 159 [U0, iv i, iv j] [.own U0 (lc s)] [] (slices_Delete_21618 s i j) (fun _ (X : Value) => X) fun r X => [.own X (lc r)] := by
  unfold slices_Delete_21618
  refine Ci Tryz.func159 r r ?_
  rintro w S -
  refine Sr<|Qs 1 r<|Nx<|Sr<|Qs 4 r<|Yo (Ln ke30 (Oc 0 r) r)<|Bi fun E1 H2=>TO.fact (Can.cap (Can.own 0 r)) fun H3=>Yo (Y.subs3 H2 ke30 (Oc 0 r) r r r r)<|Nx<|Sq<|Sr<|Qs 3 r<|Nx<|Wc r (fun H4=>Sr<|Qs 2 r<|Nx<|Wr<|Tr<|Re U0 [0]) fun H4=>Sn<|Sr<|Qs 1 r<|Yo (Ln ke30 (Oc 0 r) r)<|Qs 1 r<|Nx<|Sq<|Wi fun E5 H6=>Wi fun E7 H8=>Jw Unit [7] [] (fun _=>[(0, delV U0 (E5 ++ E7).length)]) (fun _=>[.own (delV U0 (E5 ++ E7).length) (lc (E5 ++ E7))]) r1 r1 (?_) fun X10=>?_
  ·exact Dr [] r hMix<|Aq [0,1,3,4] [] r<|A2 2 5 (Xy [] r (Y.subs H6 ke30 (Oc 0 r) r r ⟨_, r⟩)<|A1 5<|Xy [] r (Y.subs H8 ke30 (Oc 0 r) r ⟨_, r⟩ r)<|A1 6<|Xe [] r (Ef.del (α := Share) (is' := []) [0] H2 H6 H8 ke30 r r r r) fun _=>Aq [7] [] r<|Az<|Bg () [0])<|Xy [] r (Y.subs H8 ke30 (Oc 0 r) r ⟨_, r⟩ r)<|A1 2<|Xy [] r (Y.subs H6 ke30 (Oc 0 r) r r ⟨_, r⟩)<|A1 6<|Xe [] r (Ef.del (α := Share) (is' := []) [0] H2 H6 H8 ke30 r r r r) fun _=>Aq [7] [] r<|Az<|Bg () [0]
  exact Ne<|Sr<|Qs 2 r<|Yo (Ln ke30 (Oc 0 r) r)<|Qs 1 r<|Yo (Y.tail (hi := s.length) H3 (del_le H2 H6 H8) ke30 r r r)<|Fu (Ef.clearTail (k := 0) H3 (del_le H2 H6 H8) ke30 kz134 r r r r)<|Nx<|Sr<|Qs 2 r<|Nx<|Wr<|Re (delV U0 (E5 ++ E7).length) [0]
noncomputable def impl_ShareDrop (s : Shares) (tenant : Int) : Option (Shares × Bool) :=
  (impl_SharesOk s).bind fun R3 =>
  if (!R3) = true then (some ({ Size := (0 : Int), List := ([] : List Share) : Shares }, false))
  else ((impl_copyShares s).bind fun R8 =>
  (impl_shareAt s tenant).bind fun R12 =>
  if (!R12.2) = true then (some (R8, false))
  else ((slices_Delete_21618 R8.List R12.1 (IntKind.i64.wrap (R12.1 + (1 : Int)))).bind fun R16 =>
  some ({ Size := R8.Size, List := R16 : Shares }, true)))
theorem impl_ShareDrop_c {s : Shares} {tenant : Int} {U0 : Value} : Cn Tryz.prog 121 [.agg #[iv s.Size, U0], iv tenant] [] [(U0, lc s.List)] (impl_ShareDrop s tenant) (fun r (X : Value) => .tuple #[.agg #[iv r.1.Size, X], .bool r.2]) fun r X => [.own X (lc r.1.List)] := by
  unfold impl_ShareDrop
  refine Ci Tryz.func121 r r ?_
  rintro w S ⟨Z0,-⟩
  refine Sr<|Fo (Bx r (Ca ⟨Op',Ob Z0,⟨⟩⟩)) fun B1=>Fo (Al kz32 r) fun B2=>Qs 1 r<|Nx<|Sq<|Sr<|Yo (Lb 1 kk32 r)<|Bi fun R3 H4=>Fo (Cl [] impl_SharesOk_c H4 r r1 ⟨(Bc Z0),⟨⟩⟩) fun _=>Qs 1 r<|Nx<|Wc r (fun H6=>?_) fun H6=>?_
  ·exact Sr<|Yo (Bd kp32 kz32 (Pz) r)<|Fu (Sb 0 kk32 r (Cp r) r)<|Qs 1 r<|Nx<|Wr<|Tr<|TE.leaf fun _ _ hf_ hs_ => ret_any (rs := [.cell 4 32, .tmp 5]) (vs := [.agg #[iv (0 : Int), .slice none 0 0], .bool false]) (.inl r) r (RV.cell 0 r r kk32 r ⟨r, ⟨⟩⟩) hf_ hs_ ⟨(.slice none 0 0), r, (hs_.nilItem 2).pulls [0] r⟩
  refine Sn<|Sr<|Yo (Lb 1 kk32 r)<|Bi fun R8 H9=>Fo (Cl [] impl_copyShares_c H9 r r1 ⟨(Bc Z0),⟨⟩⟩) fun Y10=>Fo (Al kz32 r) fun B11=>Fu (Sb 0 kk32 r (Ca ⟨Op',Ow' 1,⟨⟩⟩) r)<|Nx<|Sr<|Yo (Lb 3 kk32 r)<|Qs 1 r<|Bi fun R12 H13=>Fo (Cl [] impl_shareAt_c H13 r r1 ⟨(Bc Z0),⟨⟩⟩) fun _=>Qs 5 r<|Nx<|Sq<|Sr<|Qs 2 r<|Nx<|Wc r (fun H15=>?_) fun H15=>?_
  ·exact Sr<|Yo (Lb 0 kk32 r)<|Fu (Sb 2 kk32 r (Ca ⟨Op',Ow' 1,⟨⟩⟩) r)<|Qs 1 r<|Nx<|Wr<|Tr<|TE.leaf fun _ _ hf_ hs_ => ret_any (rs := [.cell 4 32, .tmp 5]) (vs := [.agg #[iv R8.Size, Y10], .bool false]) (.inl r) r (RV.cell 2 r r kk32 r ⟨r, ⟨⟩⟩) hf_ hs_ ⟨Y10, r, hs_.pulls [1] r⟩
  exact Sn<|Sr<|Yo (Fb kf32_1 r)<|Yo (Lb 0 kk30 r)<|Qs 3 r<|Bi fun R16 H17=>Fo (Cl [1] slices_Delete_21618_c H17 r r1) fun Y18=>Yo (Fb kf32_1 r)<|Fu (Sb 1 kk30 r (Co 0) r)<|Nx<|Sr<|Yo (Lb 1 kk32 r)<|Fu (Sb 2 kk32 r (Ca ⟨Op',Ow' 0,⟨⟩⟩) r)<|Qs 1 r<|Nx<|Wr<|TE.leaf fun _ _ hf_ hs_ => ret_any (rs := [.cell 4 32, .tmp 5]) (vs := [.agg #[iv R8.Size, Y18], .bool true]) (.inl r) r (RV.cell 2 r r kk32 r ⟨r, ⟨⟩⟩) hf_ hs_ ⟨Y18, r, hs_.pulls [0] r⟩
noncomputable def impl_Model_dropRows_1 (r_ : MRow) (c0_ : Int) : Option Bool :=
  some (decide (r_.Tenant = c0_))
theorem impl_Model_dropRows_1_c {r_ : MRow} {c0_ : Int} {U0 : Value} {U1 : Nat} : Cn Tryz.prog 161 [.agg #[iv r_.Tenant, U0, .bool r_.Synced], pt U1] [.box U1 3 [iv c0_]] [(U0, lc r_.Ops)] (impl_Model_dropRows_1 r_ c0_) (fun r (_ : Unit) => .bool r) fun _ _ => [.box U1 3 [iv c0_]] := by
  unfold impl_Model_dropRows_1
  refine Ci Tryz.func161 r r ?_
  rintro w S ⟨Z0,-⟩
  exact Sr<|Fo (Bx r (Ca ⟨Op',Ob Z0,Op',⟨⟩⟩)) fun B1=>Qs 1 r<|Nx<|Sr<|Yo (Fb kf95_0 r)<|Yo (Lb 0 kk3 r)<|Yo (Lb 1 kk3 r)<|Qs 2 r<|Nx<|Wr<|Re () [1]
noncomputable def slices_IndexFunc_66331_at_impl_Model_dropRows_1 (s : List MRow) (f_c0 : Int) : Option Int :=
  bindC (loopO (fun (S1 : Int) => if (decide (S1 < ((s.length : Nat) : Int))) = true then ((idx s S1).bind fun E6 =>
  (impl_Model_dropRows_1 E6 f_c0).bind fun R9 =>
  if R9 = true then (some (.done (.done S1)))
  else (some (.go (IntKind.i64.wrap (S1 + (1 : Int))))))
  else (some (.done (.go ()))))
  (0 : Int))
  (fun (T3 : Unit) => some (-1 : Int))
theorem slices_IndexFunc_66331_at_impl_Model_dropRows_1_c {s : List MRow} {f_c0 : Int} {U0 : Value} {U1 : Nat} : Cn Tryz.prog 182 [U0, .func (.func 161) #[] #[pt U1]] [.box U1 3 [iv f_c0]] [(U0, lc s)] (slices_IndexFunc_66331_at_impl_Model_dropRows_1 s f_c0) (fun r (_ : Unit) => iv r) fun _ _ => [.box U1 3 [iv f_c0]] := by
  unfold slices_IndexFunc_66331_at_impl_Model_dropRows_1
  refine Ci Tryz.func182 r r ?_
  rintro w S ⟨Z0,-⟩
  refine Sr<|Qs 1 r<|Nx<|Sq<|Sr<|Qs 1 r<|Yo (Ln ke34 (Bc Z0) r)<|Qs 1 r<|Nx<|Ju [] (fun _=>[]) r1 (?_) fun T3=>?_
  ·refine Wb<|Lu [0,1,7] (fun T=>[(8, iv T)]) r1 fun S1=>Sr<|Qs 1 r<|Nx<|Sq<|Wc r (fun H5=>?_) fun H5=>?_
   ·refine Sn<|Sq<|Wb<|Sr<|Qs 2 r<|Nx<|Sr<|Qs 3 r<|Bi fun E6 H7=>Yo (Ix ke34 (Bc Z0) H7 r)<|?_
    have Q8 : Base w S (elv w U0 (S1.toNat * 3 + 1)) (lc E6.Ops):=Base.el Z0 (idx_get H7).2.2 r r
    exact Yo (Lz kk95 Z0 H7 r)<|Bi fun R9 H10=>Fo (Cw [0] impl_Model_dropRows_1_c H10 r r r1 ⟨(Bc Q8),⟨⟩⟩) fun _=>Nx<|Wc r (fun H12=>Sr<|Qs 2 r<|Nx<|Wr<|Br<|Tr<|Er<|Br<|Jd<|Tr<|Re () [0]) fun H12=>Sk<|Bn<|Ne<|Rg<|Qs 2 r<|Nl<|Lg () [0]
   exact Wx<|Tx<|Ex<|Be<|Jg () [0]
  exact Ne<|Sr<|Qs 1 r<|Nx<|Wr<|Re () [0]
noncomputable def slices_DeleteFunc_66331_at_impl_Model_dropRows_1 (s : List MRow) (del_c0 : Int) : Option (List MRow) :=
  (slices_IndexFunc_66331_at_impl_Model_dropRows_1 s del_c0).bind fun R1 =>
  if (decide (R1 = (-1 : Int))) = true then (some s)
  else (bindC (loopO (fun (S5 : Int × Int × List (Option MRow)) => if (decide (S5.2.1 < ((S5.2.2.length : Nat) : Int))) = true then ((idx S5.2.2 S5.2.1).bind fun E10 =>
  (E10).bind fun E13 =>
  (impl_Model_dropRows_1 E13 del_c0).bind fun R17 =>
  bindC (if (!R17) = true then ((idx S5.2.2 S5.1).bind fun E23 =>
  (idx (S5.2.2.set S5.2.1.toNat none) S5.1).bind fun E25 =>
  some (.go (IntKind.i64.wrap (S5.1 + (1 : Int)), ((S5.2.2.set S5.2.1.toNat none).set S5.1.toNat (some E13)))))
  else (some (.go (S5.1, S5.2.2))))
  (fun (T20 : Int × List (Option MRow)) => some (.go (T20.1, IntKind.i64.wrap (S5.2.1 + (1 : Int)), T20.2))))
  else (some (.done (.go (S5.1, S5.2.2)))))
  (R1, IntKind.i64.wrap (R1 + (1 : Int)), (s.map some)))
  (fun (T7 : Int × List (Option MRow)) => (piece T7.2 T7.1 ((T7.2.length : Nat) : Int)).bind fun E28 =>
  (piece T7.2 (0 : Int) T7.1).bind fun E30 =>
  (allO E30).bind fun E32 =>
  some E32))
theorem slices_DeleteFunc_66331_at_impl_Model_dropRows_1_c {s : List MRow} {del_c0 : Int} {U0 : Value} {U1 : Nat} : Cn Tryz.prog 160 [U0, .func (.func 161) #[] #[pt U1]] [.own U0 (lc s), .box U1 3 [iv del_c0]] [] (slices_DeleteFunc_66331_at_impl_Model_dropRows_1 s del_c0) (fun _ (X : Value) => X) fun r X => [.box U1 3 [iv del_c0], .own X (lc r)] := by
  unfold slices_DeleteFunc_66331_at_impl_Model_dropRows_1
  refine Ci Tryz.func160 r r ?_
  rintro w S -
  refine Sr<|Qs 1 r<|Nx<|Sr<|Qs 2 r<|Bi fun R1 H2=>Fo (Cl [1] slices_IndexFunc_66331_at_impl_Model_dropRows_1_c H2 r r1 ⟨(Oc 0 r),⟨⟩⟩) fun _=>Qs 1 r<|Nx<|Sq<|Sr<|Qs 2 r<|Nx<|Wc r (fun H4=>Sr<|Qs 2 r<|Nx<|Wr<|Tr<|Re U0 [0,0]) fun H4=>Sn<|Sq<|Sr<|Qs 3 r<|Nx<|Jn Unit [0] [0] (fun T _=>[(5, iv T.1)]) (fun T _=>[.own U0 (lc T.2)]) r2 r2 (?_) fun T7 X8=>?_
  ·refine Wb<|Kw (Hm [1] r)<|Lp Unit [0,1] [1] (fun T _=>[(5, iv T.1), (6, iv T.2.1)]) (fun T _=>[.own U0 (lc T.2.2)]) () [1,0] r2 r2 fun S5 X6=>Sq<|Sr<|Qs 2 r<|Yo (Ln ke34 (Oc 1 r) r)<|Qs 1 r<|Nx<|Wc r (fun H9=>?_) fun H9=>?_
   ·refine Sn<|Sq<|Wb<|Sr<|Qs 2 r<|Bi fun E10 H11=>Yo (Ix ke34 (Oc 1 r) H11 r)<|TO.fact (ptr_of (Can.own 1 r) H11) fun H12=>Bi fun E13 H14=>Gt (X := Value) (Ho 1 [1] (idx_opt H11 H14) r r1) fun X15=>Yo (Lh 0 kk95 (idx_opt H11 H14) r)<|Fo (Al kz95 r) fun B16=>Fu (Sb 0 kk95 r (Ca ⟨Op',Ow' 2,Op',⟨⟩⟩) r)<|Nx<|Sr<|Qs 1 r<|Yo (Lb 0 kk95 r)<|Bi fun R17 H18=>Fo (Cw [3] impl_Model_dropRows_1_c H18 r r r1 ⟨(Oc 2 r),⟨⟩⟩) fun _=>Qs 1 r<|Nx<|Jn Unit [0,1,6] [0] (fun T _=>[(5, iv T.1)]) (fun T _=>[.own U0 (lc T.2)]) r2 r2 (?_) fun T20 X21=>?_
    ·refine Wc r (fun H22=>?_) fun H22=>?_
     ·exact Sr<|Qs 2 r<|Yo (Lb 1 kk95 r)<|Bi fun E23 H24=>Yo (Ix ke34 (Oc 2 r) H24 r)<|Kt (Hc (α := (Option MRow)) [2] none (idx_opt H11 H14) r (Cd (Cd (Cd Cz))))<|Bi fun E25 H26=>Gt (X := Value × Value × Value) (Hw (α := (Option MRow)) 3 [0] H26 r r1) fun X27=>Fu (Sh 0 [ic E13.Tenant, .raw X15, .bool E13.Synced] kk95 H26 r (Ca ⟨Op',Ow' 3,Op',⟨⟩⟩) r)<|Nx<|Rg<|Qs 3 r<|Nl<|Ke (Hc [0, 2] (some E13) H26 r (Ck (Cf (Ck Cz))))<|Jg () [1,0]
     exact Sk<|Ke (Hs [2, 2] (idx_opt H11 H14) r (Ck (Cf (Ck Cz))))<|Jg () [1,0]
    exact Bn<|Ne<|Rg<|Qs 3 r<|Nl<|Lg () [0,0]
   exact Wx<|Tx<|Ex<|Be<|Jg () [0,0]
  exact Ne<|Sr<|Qs 2 r<|Bi fun E28 H29=>Yo (Y.subs H29 ke34 (Oc 1 r) r ⟨_, r⟩ r)<|Bi fun E30 H31=>Bi fun E32 H33=>Fu (Ef.clearView (i := 1) (is' := [.box U1 3 [iv del_c0], .own (subV U0 3 (0 : Int).toNat (T7.1.toNat - (0 : Int).toNat)) (lc E30)]) H31 ke34 kz95 r r r r r r)<|Kt (Hv [1] H33 r)<|Nx<|Sr<|Qs 2 r<|Yo (Y.sub_again (i := 0) r (piece_eq H31).2.1 ke34 r r)<|Qs 1 r<|Nx<|Wr<|Re (subV U0 3 (0 : Int).toNat (T7.1.toNat - (0 : Int).toNat)) [1,0]
noncomputable def impl_Model_dropRows (m : Model) (id : Int) : Option Model :=
  (slices_DeleteFunc_66331_at_impl_Model_dropRows_1 m.Rows id).bind fun R2 =>
  some ({ Secret := m.Secret, Shares := m.Shares, Tens := m.Tens, Base := m.Base, Rows := R2 : Model })
theorem impl_Model_dropRows_c {m : Model} {id : Int} {U0 U1 U2 U3 : Value} {U4 : Nat} : Cn Tryz.prog 122 [pt U4, iv id] [.box U4 36 [strV m.Secret, iv m.Shares.Size, U0, U1, U2, U3], .own U3 (lc m.Rows)] [(U0, lc m.Shares.List), (U1, lc m.Tens), (U2, lc m.Base)] (impl_Model_dropRows m id) (fun _ (_ : Value) => .tuple #[]) fun r X => [.box U4 36 [strV r.Secret, iv r.Shares.Size, U0, U1, U2, X], .own X (lc r.Rows)] := by
  unfold impl_Model_dropRows
  refine Ci Tryz.func122 r r ?_
  rintro w S ⟨Z0,Z1,Z2,-⟩
  exact Sr<|Fo (Bx r (Cp r)) fun B1=>Nx<|Rg<|Qs 3 r<|Yo (Fb kf36_4 r)<|Yo (Lb 1 kk34 r)<|Yo (Y.makeFunc r)<|Bi fun R2 H3=>Fo (Cl [2, 0] slices_DeleteFunc_66331_at_impl_Model_dropRows_1_c H3 r r1) fun Y4=>Qs 1 r<|Yo (Fb kf36_4 r)<|Fu (Sb 2 kk34 r (Co 1) r)<|Nl<|Re Y4 [2,1]
noncomputable def impl_Model_remove (m : Model) (id : Int) : Option (Reply × Model) :=
  (impl_dropTen m.Tens id).bind fun R2 =>
  (impl_dropTen m.Base id).bind fun R5 =>
  (impl_ShareDrop m.Shares id).bind fun R8 =>
  (impl_Model_dropRows ({ Secret := m.Secret, Shares := R8.1, Tens := R2, Base := R5, Rows := m.Rows : Model }) id).bind fun R11 =>
  some ({ Code := (0 : Int), N := (0 : Int), Text := [], List := ([] : List KV) : Reply }, { Secret := R11.Secret, Shares := { Size := R11.Shares.Size, List := R8.1.List : Shares }, Tens := R2, Base := R5, Rows := R11.Rows : Model })
theorem impl_Model_remove_c {m : Model} {id : Int} {U0 U1 U2 U3 : Value} {U4 : Nat} : Cn Tryz.prog 74 [pt U4, iv id] [.box U4 36 [strV m.Secret, iv m.Shares.Size, U0, U1, U2, U3], .own U1 (lc m.Tens), .own U2 (lc m.Base), .own U3 (lc m.Rows)] [(U0, lc m.Shares.List)] (impl_Model_remove m id) (fun r (X : Value × Value × Value × Value × Value) => .agg #[iv r.1.Code, iv r.1.N, strV r.1.Text, X.1]) fun r X => [.box U4 36 [strV r.2.Secret, iv r.2.Shares.Size, X.2.1, X.2.2.1, X.2.2.2.1, X.2.2.2.2], .own X.2.1 (lc r.2.Shares.List), .own X.2.2.1 (lc r.2.Tens), .own X.2.2.2.1 (lc r.2.Base), .own X.2.2.2.2 (lc r.2.Rows), .own X.1 (lc r.1.List)] := by
  unfold impl_Model_remove
  refine Ci Tryz.func74 r r ?_
  rintro w S ⟨Z0,-⟩
  refine Sr<|Fo (Al kz41 r) fun B1=>Nx<|Sr<|Qs 3 r<|Yo (Fb kf36_2 r)<|Yo (Lb 1 kk33 r)<|Qs 1 r<|Bi fun R2 H3=>Fo (Cl [2] impl_dropTen_c H3 r r1) fun Y4=>Qs 1 r<|Yo (Fb kf36_2 r)<|Fu (Sb 2 kk33 r (Co 0) r)<|Nx<|Sr<|Qs 3 r<|Yo (Fb kf36_3 r)<|Yo (Lb 2 kk33 r)<|Qs 1 r<|Bi fun R5 H6=>Fo (Cl [3] impl_dropTen_c H6 r r1) fun Y7=>Qs 1 r<|Yo (Fb kf36_3 r)<|Fu (Sb 3 kk33 r (Co 0) r)<|Nx<|Sr<|Qs 3 r<|Yo (Fb kf36_1 r)<|Yo (Lb 3 kk32 r)<|Qs 1 r<|Bi fun R8 H9=>Fo (Cl [] impl_ShareDrop_c H9 r r1 ⟨(Bc Z0),⟨⟩⟩) fun Y10=>Qs 4 r<|Yo (Fb kf36_1 r)<|Fu (Sb 4 kk32 r (Ca ⟨Op',Ow' 0,⟨⟩⟩) r)<|Nx<|Sr<|Qs 2 r<|Bi fun R11 H12=>?_
  exact Fo (Cl [4, 4] impl_Model_dropRows_c H12 r r1 ⟨(Oc 0 r),(Oc 2 r),(Oc 1 r),⟨⟩⟩) fun Y13=>Nx<|Sr<|Yo (Bd kp41 kz41 (Pz) r)<|Fu (Sb 5 kk41 r (Cp r) r)<|Nx<|Wr<|TE.leaf fun _ _ hf_ hs_ => ret_any (rs := [.cell 4 41]) (vs := [.agg #[iv (0 : Int), iv (0 : Int), strV ([]), .slice none 0 0]]) (.inl r) r (RV.cell 5 r r kk41 r ⟨⟩) hf_ hs_ ⟨((.slice none 0 0), Y10, Y4, Y7, Y13), r, (hs_.nilItem 2).pulls [1, 2, 3, 2, 1, 0] r⟩
noncomputable def impl_Model_rotate (m : Model) (id : Int) : Option (Reply × Model) :=
  (impl_tenAt m.Tens id).bind fun R2 =>
  (idx m.Tens R2).bind fun E5 =>
  if (decide (E5.Epoch ≥ (1000000 : Int))) = true then ((impl_no (4 : Int)).bind fun R8 =>
  some (R8, m))
  else ((impl_tenAt m.Base id).bind fun R12 =>
  bindC (if (decide (R12 ≥ (0 : Int))) = true then ((idx m.Base R12).bind fun E18 =>
  some (.go (m.Base.set R12.toNat ({ Id := E18.Id, Epoch := IntKind.i64.wrap (E5.Epoch + (1 : Int)), Seq := E18.Seq, Map := E18.Map, Snaps := E18.Snaps : MTen }))))
  else (some (.go m.Base)))
  (fun (T15 : List MTen) => (idx (m.Tens.set R2.toNat ({ Id := E5.Id, Epoch := IntKind.i64.wrap (E5.Epoch + (1 : Int)), Seq := E5.Seq, Map := E5.Map, Snaps := E5.Snaps : MTen })) R2).bind fun E23 =>
  (impl_MintToken m.Secret id E23.Epoch).bind fun R25 =>
  some ({ Code := (0 : Int), N := (0 : Int), Text := R25, List := ([] : List KV) : Reply }, { Secret := m.Secret, Shares := m.Shares, Tens := m.Tens.set R2.toNat ({ Id := E5.Id, Epoch := IntKind.i64.wrap (E5.Epoch + (1 : Int)), Seq := E5.Seq, Map := E5.Map, Snaps := E5.Snaps : MTen }), Base := T15, Rows := m.Rows : Model })))
theorem impl_Model_rotate_c {m : Model} {id : Int} {U0 U1 U2 U3 : Value} {U4 : Nat} : Cn Tryz.prog 75 [pt U4, iv id] [.box U4 36 [strV m.Secret, iv m.Shares.Size, U0, U1, U2, U3], .own U1 (lc m.Tens), .own U2 (lc m.Base)] [(U0, lc m.Shares.List), (U3, lc m.Rows)] (impl_Model_rotate m id) (fun r (X : Value) => .agg #[iv r.1.Code, iv r.1.N, strV r.1.Text, X]) fun r X => [.box U4 36 [strV r.2.Secret, iv r.2.Shares.Size, U0, U1, U2, U3], .own U1 (lc r.2.Tens), .own U2 (lc r.2.Base), .own X (lc r.1.List)] := by
  unfold impl_Model_rotate
  refine Ci Tryz.func75 r r ?_
  rintro w S ⟨Z0,Z1,-⟩
  refine Sr<|Fo (Al kz41 r) fun B1=>Nx<|Sq<|Dr [0,0,0,0] r hMix<|Aq [0,1] [0,0,0,0] r<|Ay 2 [0,0,0,0] r (Fb kf36_2 r)<|Ay 3 [0,0,0,0] r (Lb 1 kk33 r)<|Aq [4,5] [0,0,0,0] r<|Ay 6 [0,0,0,0] r (Fb kf36_2 r)<|Ay 7 [0,0,0,0] r (Lb 1 kk33 r)<|Aq [8] [0,0,0,0] r<|Ai fun R2 H3=>A1 9<|Xe [0,0,0,0] r (Cl [] impl_tenAt_c H3 r r1 ⟨(Oc 2 r),⟨⟩⟩) fun _=>Ai fun E5 H6=>Ay 10 [0,0,0,0] r (Ix ke33 (Oc 2 r) H6 r)<|Aq [11] [0,0,0,0] r<|Az<|Ne<|Sq<|Sr<|Qs 1 r<|Yo (Nc (Oc 2 r) H6 r)<|Yo (Fe kf90_1 (Oc 2 r) H6 r)<|Yo (Le kk3 (Oc 2 r) H6 r)<|Qs 1 r<|Nx<|Wc r (fun H7=>?_) fun H7=>?_
  ·exact Sr<|Bi fun R8 H9=>Fo (Cl [] impl_no_c H9 r r1) fun Y10=>Fu (Sb 1 kk41 r (Ca ⟨Op',Op',Op',Ow' 0,⟨⟩⟩) r)<|Nx<|Wr<|Tr<|TE.leaf fun _ _ hf_ hs_ => ret_any (rs := [.cell 4 41]) (vs := [.agg #[iv R8.Code, iv R8.N, strV R8.Text, Y10]]) (.inl r) r (RV.cell 1 r r kk41 r ⟨⟩) hf_ hs_ ⟨Y10, r, hs_.pulls [2, 2, 2, 0] r⟩
  refine Sn<|Sr<|Qs 1 r<|Yo (Nc (Oc 2 r) H6 r)<|Yo (Fe kf90_1 (Oc 2 r) H6 r)<|Yo (Le kk3 (Oc 2 r) H6 r)<|Qs 1 r<|Yo (Nc (Oc 2 r) H6 r)<|Yo (Fe kf90_1 (Oc 2 r) H6 r)<|Gt (X := Value × Value) (Ho 2 [2] H6 r r1) fun X11=>Fu (Sh 0 [ic (IntKind.i64.wrap (E5.Epoch + (1 : Int)))] kk3 H6 r (Cp r) r)<|Nx<|Sq<|Sr<|Qs 2 r<|Yo (Fb kf36_3 r)<|Yo (Lb 4 kk33 r)<|Qs 1 r<|Bi fun R12 H13=>Fo (Cl [] impl_tenAt_c H13 r r1 ⟨(Oc 5 r),⟨⟩⟩) fun _=>Qs 1 r<|Nx<|Sr<|Qs 2 r<|Nx<|Jn Unit [0,1,4,5] [4,3] (fun _ _=>[]) (fun T _=>[.own U1 (lc (m.Tens.set R2.toNat ({ Id := E5.Id, Epoch := IntKind.i64.wrap (E5.Epoch + (1 : Int)), Seq := E5.Seq, Map := E5.Map, Snaps := E5.Snaps : MTen }))), .own U2 (lc T)]) r2 r2 (?_) fun T15 X16=>?_
  ·refine Wc r (fun H17=>?_) fun H17=>?_
   ·exact Dr [0,0,0,0,0] r hMix<|Aq [0,1] [0,0,0,0,0] r<|Ay 2 [0,0,0,0,0] r (Fb kf36_3 r)<|Ay 3 [0,0,0,0,0] r (Lb 4 kk33 r)<|Aq [4,5] [0,0,0,0,0] r<|Ay 6 [0,0,0,0,0] r (Nc (Oc 0 r) H6 r)<|Ay 7 [0,0,0,0,0] r (Fe kf90_1 (Oc 0 r) H6 r)<|Ay 8 [0,0,0,0,0] r (Lh 0 kk3 H6 r)<|Ai fun E18 H19=>A1 9<|Xy [0,0,0,0,0] r (Ix ke33 (Oc 5 r) H19 r)<|A1 10<|Xy [0,0,0,0,0] r (Fe kf90_1 (Oc 5 r) H19 r)<|Ga (X := Value × Value) (Ho 2 [5] H19 r r1) fun X20=>A1 11<|Xu [3,3,3,3,3] r (Sh 0 [ic (IntKind.i64.wrap (E5.Epoch + (1 : Int)))] kk3 H19 r (Cp r) r)<|Az<|Ke (Hc [0, 0, 0] ({ Id := E18.Id, Epoch := IntKind.i64.wrap (E5.Epoch + (1 : Int)), Seq := E18.Seq, Map := E18.Map, Snaps := E18.Snaps : MTen }) H19 r (Ck (Ck (Ck (Cf (Cf Cz))))))<|Ke (Hc [1, 1, 1] ({ Id := E5.Id, Epoch := IntKind.i64.wrap (E5.Epoch + (1 : Int)), Seq := E5.Seq, Map := E5.Map, Snaps := E5.Snaps : MTen }) H6 r (Ck (Ck (Ck (Cf (Cf Cz))))))<|Jg () [3,2,0,0]
   exact Sk<|Ke (Hc [0, 0, 0] ({ Id := E5.Id, Epoch := IntKind.i64.wrap (E5.Epoch + (1 : Int)), Seq := E5.Seq, Map := E5.Map, Snaps := E5.Snaps : MTen }) H6 r (Ck (Ck (Ck (Cf (Cf Cz))))))<|Jg () [2,1,0,0]
  exact Ne<|Sq<|Dr [0,1,1] r hMix<|Aq [0,1] [0,1,1] r<|Ay 2 [0,1,1] r (Fb kf36_0 r)<|Ay 3 [0,1,1] r (Lb 0 kk9 r)<|Aq [4,5] [0,1,1] r<|Ai fun E23 H24=>A1 6<|Xy [0,1,1] r (Nc (Oc 2 r) H24 r)<|Ay 7 [0,1,1] r (Fe kf90_1 (Oc 1 r) H24 r)<|Ay 8 [0,1,1] r (Le kk3 (Oc 1 r) H24 r)<|Ai fun R25 H26=>A1 9<|Xe [0,1,1] r (Cl [] impl_MintToken_c H26 r r1) fun _=>Ay 10 [0,1,1] r (Bd kp41 kz41 (Pc r (Cp r)<|Pz) r)<|A1 11<|Xu [0,1,1] r (Sb 1 kk41 r (Cp r) r)<|Az<|Ne<|Wr<|TE.leaf fun _ _ hf_ hs_ => ret_any (rs := [.cell 4 41]) (vs := [.agg #[iv (0 : Int), iv (0 : Int), strV R25, .slice none 0 0]]) (.inl r) r (RV.cell 1 r r kk41 r ⟨⟩) hf_ hs_ ⟨(.slice none 0 0), r, (hs_.nilItem 2).pulls [1, 2, 2, 0] r⟩
noncomputable def slices_Clone_74624 (s : List KV) : Option (List KV) :=
  (app 32 ([] : List KV) s).bind fun E4 =>
  some E4
theorem slices_Clone_74624_c {s : List KV} {U0 : Value} : Cn Tryz.prog 130 [U0] [] [(U0, lc s)] (slices_Clone_74624 s) (fun _ (X : Value) => X) fun r X => [.own X (lc r)] := by
  unfold slices_Clone_74624
  refine Ci Tryz.func130 r r ?_
  rintro w S ⟨Z0,-⟩
  exact Sr<|Qs 1 r<|Nx<|Sq<|Sr<|Qs 1 r<|Yo (Y.nileq ke39 (Bc Z0) r r)<|Nx<|TW.cond_nil (Bc Z0) r (fun hnil_=>by subst hnil_;show TW _ _ _ (some ([])) _ _ _ _ _;exact (Sr<|Qs 1 r<|Nx<|Wr<|Tr<|Ni 2<|Re (.slice none 0 0) [0]))<|Sn<|Sr<|Fo (Bs ([] : List KV) ke39 kz100) fun B2=>Qs 1 r<|Bi fun E4 H5=>Fo (Ap [0] H5 ke39 kz100 r (Bc Z0)) fun V3=>Qs 1 r<|Nx<|Wr<|Re V3 [0]
noncomputable def impl_copyTen (t : MTen) : Option MTen :=
  (slices_Clone_74624 t.Map).bind fun R3 =>
  bindC (loopO (fun (S13 : Int × List MSnap) => if (decide (S13.1 < ((t.Snaps.length : Nat) : Int))) = true then ((idx t.Snaps S13.1).bind fun E18 =>
  (slices_Clone_74624 E18.Map).bind fun R22 =>
  (app 32 S13.2 ([{ Seq := E18.Seq, Map := R22 : MSnap }])).bind fun E28 =>
  some (.go (IntKind.i64.wrap (S13.1 + (1 : Int)), E28)))
  else (some (.done (.go S13.2))))
  ((0 : Int), ([] : List MSnap)))
  (fun (T15 : List MSnap) => some ({ Id := t.Id, Epoch := t.Epoch, Seq := t.Seq, Map := R3, Snaps := T15 : MTen }))
theorem impl_copyTen_c {t : MTen} {U0 U1 : Value} : Cn Tryz.prog 100 [.agg #[iv t.Id, iv t.Epoch, iv t.Seq, U0, U1]] [] [(U0, lc t.Map), (U1, lc t.Snaps)] (impl_copyTen t) (fun r (X : Value × Value) => .agg #[iv r.Id, iv r.Epoch, iv r.Seq, X.1, X.2]) fun r X => [.own X.1 (lc r.Map), .own X.2 (lc r.Snaps)] := by
  unfold impl_copyTen
  refine Ci Tryz.func100 r r ?_
  rintro w S ⟨Z0,Z1,-⟩
  refine Sr<|Fo (Bx r (Ca ⟨Op',Op',Op',Ob Z0,Ob Z1,⟨⟩⟩)) fun B1=>Fo (Al kz90 r) fun B2=>Nx<|Sq<|Wi fun R3 H4=>Jw (Nat × Value) [1,2] [1,0] (fun X=>[(3, pt X.1)]) (fun X=>[.box X.1 90 [iv t.Id, iv t.Epoch, iv t.Seq, X.2, .slice none 0 0], .own X.2 (lc R3)]) r1 r1 (?_) fun X10=>?_
  ·refine Dr [0,0] r hMix<|Ay 0 [0,0] r (Fb kf90_0 r)<|Ay 1 [0,0] r (Lb 1 kk3 r)<|Ay 2 [0,0] r (Fb kf90_1 r)<|Ay 3 [0,0] r (Lb 1 kk3 r)<|Ay 4 [0,0] r (Fb kf90_2 r)<|Ay 5 [0,0] r (Lb 1 kk3 r)<|Ay 6 [0,0] r (Fb kf90_3 r)<|Ay 7 [0,0] r (Lb 1 kk39 r)<|A2 8 10 (?_)<|?_
   ·exact Xe [1,1] r (Cl [] slices_Clone_74624_c H4 r r1 ⟨(Bc Z0),⟨⟩⟩) fun Y11=>A2 9 10 (Xy [1,1] r (Bd kp90 kz90 (Pc r (Cp r)<|Pc r (Cp r)<|Pc r (Cp r)<|Pc r (Co 0)<|Pz) r)<|A1 10<|Xe [2,2] r (Al kz90 r) fun B14=>A1 11<|Xu [2,2] r (Sb 0 kk90 r (Ca ⟨Op',Op',Op',Ow' 1,Op',⟨⟩⟩) r)<|Az<|Bg (B14, Y11) [3,2,0,0])<|Xe [2,2] r (Al kz90 r) fun B13=>A1 9<|Xy [2,2] r (Bd kp90 kz90 (Pc r (Cp r)<|Pc r (Cp r)<|Pc r (Cp r)<|Pc r (Co 1)<|Pz) r)<|A1 11<|Xu [2,2] r (Sb 0 kk90 r (Ca ⟨Op',Op',Op',Ow' 1,Op',⟨⟩⟩) r)<|Az<|Bg (B13, Y11) [3,2,0,0]
   exact Xe [1,1] r (Al kz90 r) fun B12=>A1 8<|Xe [2,2] r (Cl [] slices_Clone_74624_c H4 r r1 ⟨(Bc Z0),⟨⟩⟩) fun Y13=>A1 9<|Xy [2,2] r (Bd kp90 kz90 (Pc r (Cp r)<|Pc r (Cp r)<|Pc r (Cp r)<|Pc r (Co 0)<|Pz) r)<|A1 11<|Xu [2,2] r (Sb 1 kk90 r (Ca ⟨Op',Op',Op',Ow' 0,Op',⟨⟩⟩) r)<|Az<|Bg (B12, Y13) [3,2,1,0]
  refine Ne<|Sq<|Sr<|Yo (Fb kf90_4 r)<|Yo (Lb 0 kk88 r)<|Yo (Ln ke88 (Bc Z1) r)<|Qs 1 r<|Nx<|Jn Value [2,3] [1,2] (fun _ _=>[]) (fun T X=>[.box X10.1 90 [iv t.Id, iv t.Epoch, iv t.Seq, X10.2, X], .own X (lc T)]) r2 r2 (?_) fun T15 X16=>?_
  ·refine Wb<|Nw 2<|Lp Value [2,3,17,18] [2,3] (fun T _=>[(19, iv T.1)]) (fun T X=>[.box X10.1 90 [iv t.Id, iv t.Epoch, iv t.Seq, X10.2, X], .own X (lc T.2)]) (.slice none 0 0) [2,3,2,0] r2 r2 fun S13 X14=>Sr<|Qs 1 r<|Nx<|Sq<|Wc r (fun H17=>?_) fun H17=>?_
   ·refine Sn<|Sq<|Wb<|Sr<|Bi fun E18 H19=>Yo (Ix ke88 (Bc Z1) H19 r)<|?_
    have Q20 : Base w S (elv w U1 (S13.1.toNat * 2 + 1)) (lc E18.Map):=Base.el Z1 (idx_get H19).2.2 r r
    refine Yo (Lz kk121 Z1 H19 r)<|Fo (Al kz121 r) fun B21=>Fu (Sb 0 kk121 r (Ca ⟨Op',Ob Q20,⟨⟩⟩) r)<|Nx<|Wi fun R22 H23=>Wi fun E28 H29=>Jw Value [2,3,17,18,19] [1,1] (fun _=>[]) (fun X=>[.box X10.1 90 [iv t.Id, iv t.Epoch, iv t.Seq, X10.2, X], .own X (lc E28)]) r1 r1 (?_) fun X31=>?_
    ·refine Dr [0,0,0] r hMix<|Ay 0 [0,0,0] r (Fb kf90_4 r)<|Ay 2 [0,0,0] r (Fb kf121_0 r)<|Ay 3 [0,0,0] r (Lb 0 kk3 r)<|Ay 4 [0,0,0] r (Fb kf121_1 r)<|Ay 5 [0,0,0] r (Lb 0 kk39 r)<|A2 1 6 (?_)<|?_
     ·exact Xy [0,0,0] r (Lb 3 kk88 r)<|A1 6<|Xe [1,1,1] r (Cl [] slices_Clone_74624_c H23 r r1 ⟨(Bc Q20),⟨⟩⟩) fun Y33=>A1 7<|Xy [1,1,1] r (Bd kp121 kz121 (Pc r (Cp r)<|Pc r (Co 0)<|Pz) r)<|A1 8<|Xe [2,2,2] r (Bk [ic E18.Seq, .raw Y33] ke88 kz121 r (Qc (Ca ⟨Op',Ow' 0,⟨⟩⟩)<|Qz)) fun B34=>Ka (Ha [0, 0] ([{ Seq := E18.Seq, Map := R22 : MSnap }] : List MSnap) r (Ck (Cf Cz)))<|A1 9<|Xe [1,1,1] r (Aw [5, 0] H29 ke88 kz121 r) fun V35=>Ay 10 [1,1,1] r (Fb kf90_4 r)<|A1 11<|Xu [1,1,1] r (Sb 4 kk88 r (Co 0) r)<|Az<|Bg V35 [2,2,2,0]
     refine Xe [1,1,1] r (Cl [] slices_Clone_74624_c H23 r r1 ⟨(Bc Q20),⟨⟩⟩) fun Y32=>A2 1 7 (?_)<|?_
     ·exact Xy [1,1,1] r (Lb 4 kk88 r)<|A1 7<|Xy [1,1,1] r (Bd kp121 kz121 (Pc r (Cp r)<|Pc r (Co 0)<|Pz) r)<|A1 8<|Xe [2,2,2] r (Bk [ic E18.Seq, .raw Y32] ke88 kz121 r (Qc (Ca ⟨Op',Ow' 0,⟨⟩⟩)<|Qz)) fun B33=>Ka (Ha [0, 0] ([{ Seq := E18.Seq, Map := R22 : MSnap }] : List MSnap) r (Ck (Cf Cz)))<|A1 9<|Xe [1,1,1] r (Aw [5, 0] H29 ke88 kz121 r) fun V34=>Ay 10 [1,1,1] r (Fb kf90_4 r)<|A1 11<|Xu [1,1,1] r (Sb 4 kk88 r (Co 0) r)<|Az<|Bg V34 [2,2,2,0]
     refine Xy [1,1,1] r (Bd kp121 kz121 (Pc r (Cp r)<|Pc r (Co 0)<|Pz) r)<|A2 1 8 (?_)<|?_
     ·exact Xy [1,1,1] r (Lb 4 kk88 r)<|A1 8<|Xe [2,2,2] r (Bk [ic E18.Seq, .raw Y32] ke88 kz121 r (Qc (Ca ⟨Op',Ow' 0,⟨⟩⟩)<|Qz)) fun B34=>Ka (Ha [0, 0] ([{ Seq := E18.Seq, Map := R22 : MSnap }] : List MSnap) r (Ck (Cf Cz)))<|A1 9<|Xe [1,1,1] r (Aw [5, 0] H29 ke88 kz121 r) fun V35=>Ay 10 [1,1,1] r (Fb kf90_4 r)<|A1 11<|Xu [1,1,1] r (Sb 4 kk88 r (Co 0) r)<|Az<|Bg V35 [2,2,2,0]
     exact Xe [2,2,2] r (Bk [ic E18.Seq, .raw Y32] ke88 kz121 r (Qc (Ca ⟨Op',Ow' 0,⟨⟩⟩)<|Qz)) fun B33=>Ka (Ha [0, 0] ([{ Seq := E18.Seq, Map := R22 : MSnap }] : List MSnap) r (Ck (Cf Cz)))<|A1 1<|Xy [1,1,1] r (Lb 4 kk88 r)<|A1 9<|Xe [1,1,1] r (Aw [5, 0] H29 ke88 kz121 r) fun V34=>Ay 10 [1,1,1] r (Fb kf90_4 r)<|A1 11<|Xu [1,1,1] r (Sb 4 kk88 r (Co 0) r)<|Az<|Bg V34 [2,2,2,0]
    exact Bn<|Ne<|Rg<|Qs 2 r<|Nl<|Lg X31 [0,0,0,0]
   exact Wx<|Tx<|Ex<|Be<|Jg X14 [0,0,0,0]
  exact Ne<|Sr<|Yo (Lb 2 kk90 r)<|Fu (Sb 0 kk90 r (Ca ⟨Op',Op',Op',Ow' 1,Ow' 3,⟨⟩⟩) r)<|Nx<|Wr<|TE.leaf fun _ _ hf_ hs_ => ret_any (rs := [.cell 2 90]) (vs := [.agg #[iv t.Id, iv t.Epoch, iv t.Seq, X10.2, X16]]) (.inl r) r (RV.cell 0 r r kk90 r ⟨⟩) hf_ hs_ ⟨(X10.2, X16), r, hs_.pulls [1, 2] r⟩
noncomputable def impl_Model_flush (m : Model) (id : Int) : Option (Reply × Model) :=
  (impl_Model_dropRows m id).bind fun R2 =>
  (impl_tenAt m.Tens id).bind fun R5 =>
  (idx m.Tens R5).bind fun E9 =>
  (impl_copyTen E9).bind fun R13 =>
  (impl_tenAt m.Base id).bind fun R22 =>
  bindC (if (decide (R22 ≥ (0 : Int))) = true then ((idx m.Base R22).bind fun E29 =>
  some (.go (m.Base.set R22.toNat ({ Id := R13.Id, Epoch := R13.Epoch, Seq := R13.Seq, Map := R13.Map, Snaps := ([] : List MSnap) : MTen }))))
  else (some (.go m.Base)))
  (fun (T26 : List MTen) => some ({ Code := (0 : Int), N := (0 : Int), Text := [], List := ([] : List KV) : Reply }, { Secret := R2.Secret, Shares := { Size := R2.Shares.Size, List := m.Shares.List : Shares }, Tens := m.Tens, Base := T26, Rows := R2.Rows : Model }))
theorem impl_Model_flush_c {m : Model} {id : Int} {U0 U1 U2 U3 : Value} {U4 : Nat} : Cn Tryz.prog 76 [pt U4, iv id] [.box U4 36 [strV m.Secret, iv m.Shares.Size, U0, U1, U2, U3], .own U2 (lc m.Base), .own U3 (lc m.Rows)] [(U0, lc m.Shares.List), (U1, lc m.Tens)] (impl_Model_flush m id) (fun r (X : Value × Value) => .agg #[iv r.1.Code, iv r.1.N, strV r.1.Text, X.1]) fun r X => [.box U4 36 [strV r.2.Secret, iv r.2.Shares.Size, U0, U1, U2, X.2], .own U2 (lc r.2.Base), .own X.2 (lc r.2.Rows), .own X.1 (lc r.1.List)] := by
  unfold impl_Model_flush
  refine Ci Tryz.func76 r r ?_
  rintro w S ⟨Z0,Z1,-⟩
  refine Sr<|Fo (Al kz41 r) fun B1=>Nx<|Sr<|Qs 2 r<|Bi fun R2 H3=>Fo (Cl [1, 2] impl_Model_dropRows_c H3 r r1 ⟨(Bc Z0),(Bc Z1),(Oc 1 r),⟨⟩⟩) fun Y4=>Nx<|Sq<|Wi fun R5 H6=>Wi fun E9 H10=>Wi fun R13 H14=>Jw (Nat × Value × Value) [0,1,4] [0,1,1,0] (fun X=>[(5, pt X.1)]) (fun X=>[.box X.1 90 [iv R13.Id, iv R13.Epoch, iv R13.Seq, X.2.1, X.2.2], .own X.2.1 (lc R13.Map), .own X.2.2 (lc R13.Snaps)]) r1 r1 (?_) fun X19=>?_
  ·refine Dr [0,0,0,0] r hMix<|Aq [0,1] [0,0,0,0] r<|Ay 2 [0,0,0,0] r (Fb kf36_2 r)<|Ay 3 [0,0,0,0] r (Lb 0 kk33 r)<|Aq [4,5] [0,0,0,0] r<|Ay 6 [0,0,0,0] r (Fb kf36_2 r)<|Ay 7 [0,0,0,0] r (Lb 0 kk33 r)<|Aq [8] [0,0,0,0] r<|A2 9 13 (?_)<|?_
   ·refine Xe [0,0,0,0] r (Cl [] impl_tenAt_c H6 r r1 ⟨(Bc Z1),⟨⟩⟩) fun _=>Ay 10 [0,0,0,0] r (Ix ke33 (Bc Z1) H10 r)<|?_
    have Q22 : Base w S (elv w U1 (R5.toNat * 5 + 3)) (lc E9.Map):=Base.el Z1 (idx_get H10).2.2 r r
    have Q23 : Base w S (elv w U1 (R5.toNat * 5 + 4)) (lc E9.Snaps):=Base.el Z1 (idx_get H10).2.2 r r
    exact Ay 11 [0,0,0,0] r (Lz kk90 Z1 H10 r)<|A2 12 13 (Xe [2,2,2,2] r (Cl [] impl_copyTen_c H14 r r1 ⟨(Bc Q22),(Bc Q23),⟨⟩⟩) fun Y24=>A1 13<|Xe [3,3,3,3] r (Al kz90 r) fun B26=>A1 14<|Xu [3,3,3,3] r (Sb 0 kk90 r (Ca ⟨Op',Op',Op',Ow' 1,Ow' 2,⟨⟩⟩) r)<|Az<|Bg (B26, Y24.1, Y24.2) [3,4,4,3,0,0,0])<|Xe [1,1,1,1] r (Al kz90 r) fun B25=>A1 12<|Xe [3,3,3,3] r (Cl [] impl_copyTen_c H14 r r1 ⟨(Bc Q22),(Bc Q23),⟨⟩⟩) fun Y26=>A1 14<|Xu [3,3,3,3] r (Sb 2 kk90 r (Ca ⟨Op',Op',Op',Ow' 0,Ow' 1,⟨⟩⟩) r)<|Az<|Bg (B25, Y26.1, Y26.2) [3,4,4,3,2,0,0]
   refine Xe [1,1,1,1] r (Al kz90 r) fun B21=>A1 9<|Xe [1,1,1,1] r (Cl [] impl_tenAt_c H6 r r1 ⟨(Bc Z1),⟨⟩⟩) fun _=>Ay 10 [1,1,1,1] r (Ix ke33 (Bc Z1) H10 r)<|?_
   have Q23 : Base w S (elv w U1 (R5.toNat * 5 + 3)) (lc E9.Map):=Base.el Z1 (idx_get H10).2.2 r r
   have Q24 : Base w S (elv w U1 (R5.toNat * 5 + 4)) (lc E9.Snaps):=Base.el Z1 (idx_get H10).2.2 r r
   exact Ay 11 [1,1,1,1] r (Lz kk90 Z1 H10 r)<|A1 12<|Xe [3,3,3,3] r (Cl [] impl_copyTen_c H14 r r1 ⟨(Bc Q23),(Bc Q24),⟨⟩⟩) fun Y25=>A1 14<|Xu [3,3,3,3] r (Sb 2 kk90 r (Ca ⟨Op',Op',Op',Ow' 0,Ow' 1,⟨⟩⟩) r)<|Az<|Bg (B21, Y25.1, Y25.2) [3,4,4,3,2,0,0]
  refine Ne<|Sr<|Yo (Fb kf90_4 r)<|Fu (Sb 4 kk88 r (Cp r) r)<|Nx<|Sq<|Sr<|Qs 2 r<|Yo (Fb kf36_3 r)<|Yo (Lb 0 kk33 r)<|Qs 1 r<|Bi fun R22 H23=>Fo (Cl [] impl_tenAt_c H23 r r1 ⟨(Oc 2 r),⟨⟩⟩) fun _=>Qs 1 r<|Nx<|Sr<|Qs 2 r<|Nx<|Jn Unit [4] [1,0,1] (fun _ _=>[]) (fun T _=>[.own U2 (lc T)]) r2 r2 (?_) fun T26 X27=>?_
  ·refine Wc r (fun H28=>?_) fun H28=>?_
   ·exact Dr [0,0,1,1,1,1] r hMix<|Aq [0,1] [0,0,1,1,1,1] r<|Ay 2 [0,0,1,1,1,1] r (Fb kf36_3 r)<|Ay 3 [0,0,1,1,1,1] r (Lb 0 kk33 r)<|Aq [4] [0,0,1,1,1,1] r<|Ay 5 [0,0,1,1,1,1] r (Lb 3 kk90 r)<|Ai fun E29 H30=>A1 6<|Xy [0,0,1,1,1,1] r (Ix ke33 (Oc 2 r) H30 r)<|Ga (X := Value × Value) (Ho 2 [2] H30 r r1) fun X31=>A1 7<|Xu [3,3,3,3,3,3] r (Sh 0 [ic R13.Id, ic R13.Epoch, ic R13.Seq, .raw X19.2.1, .raw (.slice none 0 0)] kk90 H30 r (Ca ⟨Op',Op',Op',Ow' 7,Op',⟨⟩⟩) r)<|Az<|Ni 2<|Ke (Hc [1, 7, 0] ({ Id := R13.Id, Epoch := R13.Epoch, Seq := R13.Seq, Map := R13.Map, Snaps := ([] : List MSnap) : MTen }) H30 r (Ck (Ck (Ck (Cf (Cf Cz))))))<|Jg () [4,3,3,0]
   exact Sk<|Jg () [1,0,1,0]
  exact Ne<|Sr<|Yo (Bd kp41 kz41 (Pz) r)<|Fu (Sb 0 kk41 r (Cp r) r)<|Nx<|Wr<|TE.leaf fun _ _ hf_ hs_ => ret_any (rs := [.cell 4 41]) (vs := [.agg #[iv (0 : Int), iv (0 : Int), strV ([]), .slice none 0 0]]) (.inl r) r (RV.cell 0 r r kk41 r ⟨⟩) hf_ hs_ ⟨((.slice none 0 0), Y4), r, (hs_.nilItem 2).pulls [2, 3, 2, 0] r⟩
noncomputable def impl_Model_ofOwner (m : Model) (c : Call) : Option (Reply × Model) :=
  (impl_tenAt m.Tens c.Tenant).bind fun R3 =>
  if (decide (R3 < (0 : Int))) = true then ((impl_no (5 : Int)).bind fun R7 =>
  some (R7, m))
  else (if (decide (c.Kind = (2 : Int))) = true then ((impl_Model_quota m c).bind fun R11 =>
  some (R11.1, { Secret := R11.2.Secret, Shares := R11.2.Shares, Tens := m.Tens, Base := m.Base, Rows := m.Rows : Model }))
  else (if (decide (c.Kind = (3 : Int))) = true then ((impl_Model_remove m c.Tenant).bind fun R15 =>
  some (R15.1, R15.2))
  else (if (decide (c.Kind = (4 : Int))) = true then ((impl_Model_rotate m c.Tenant).bind fun R19 =>
  some (R19.1, { Secret := R19.2.Secret, Shares := { Size := R19.2.Shares.Size, List := m.Shares.List : Shares }, Tens := R19.2.Tens, Base := R19.2.Base, Rows := m.Rows : Model }))
  else ((impl_Model_flush m c.Tenant).bind fun R22 =>
  some (R22.1, { Secret := R22.2.Secret, Shares := { Size := R22.2.Shares.Size, List := m.Shares.List : Shares }, Tens := m.Tens, Base := R22.2.Base, Rows := R22.2.Rows : Model })))))
theorem impl_Model_ofOwner_c {m : Model} {c : Call} {U0 U1 U2 U3 U5 : Value} {U4 : Nat} : Cn Tryz.prog 45 [pt U4, .agg #[iv c.Kind, strV c.Token, iv c.Tenant, iv c.N, strV c.Key, strV c.To, U5]] [.box U4 36 [strV m.Secret, iv m.Shares.Size, U0, U1, U2, U3], .own U0 (lc m.Shares.List), .own U1 (lc m.Tens), .own U2 (lc m.Base), .own U3 (lc m.Rows)] [(U5, lc c.Ops)] (impl_Model_ofOwner m c) (fun r (X : Value × Value × Value × Value × Value) => .agg #[iv r.1.Code, iv r.1.N, strV r.1.Text, X.1]) fun r X => [.box U4 36 [strV r.2.Secret, iv r.2.Shares.Size, X.2.1, X.2.2.1, X.2.2.2.1, X.2.2.2.2], .own X.2.1 (lc r.2.Shares.List), .own X.2.2.1 (lc r.2.Tens), .own X.2.2.2.1 (lc r.2.Base), .own X.2.2.2.2 (lc r.2.Rows), .own X.1 (lc r.1.List)] := by
  unfold impl_Model_ofOwner
  refine Ci Tryz.func45 r r ?_
  rintro w S ⟨Z0,-⟩
  refine Sr<|Fo (Bx r (Ca ⟨Op',Op',Op',Op',Op',Op',Ob Z0,⟨⟩⟩)) fun B1=>Fo (Al kz41 r) fun B2=>Nx<|Sq<|Sq<|Dr [0,0,0,0,0,0,0] r hMix<|Aq [0,1] [0,0,0,0,0,0,0] r<|Ay 2 [0,0,0,0,0,0,0] r (Fb kf36_2 r)<|Ay 3 [0,0,0,0,0,0,0] r (Lb 2 kk33 r)<|Ay 4 [0,0,0,0,0,0,0] r (Fb kf46_2 r)<|Ay 5 [0,0,0,0,0,0,0] r (Lb 1 kk3 r)<|Ai fun R3 H4=>A1 6<|Xe [0,0,0,0,0,0,0] r (Cl [] impl_tenAt_c H4 r r1 ⟨(Oc 4 r),⟨⟩⟩) fun _=>Aq [7] [0,0,0,0,0,0,0] r<|Az<|Ne<|Wc r (fun H6=>?_) fun H6=>?_
  ·exact Sr<|Bi fun R7 H8=>Fo (Cl [] impl_no_c H8 r r1) fun Y9=>Fu (Sb 1 kk41 r (Ca ⟨Op',Op',Op',Ow' 0,⟨⟩⟩) r)<|Nx<|Wr<|Tr<|TE.leaf fun _ _ hf_ hs_ => ret_any (rs := [.cell 4 41]) (vs := [.agg #[iv R7.Code, iv R7.N, strV R7.Text, Y9]]) (.inl r) r (RV.cell 1 r r kk41 r ⟨⟩) hf_ hs_ ⟨(Y9, U0, U1, U2, U3), r, hs_.pulls [3, 3, 3, 3, 3, 0] r⟩
  refine Sn<|Sq<|Sr<|Yo (Fb kf46_0 r)<|Yo (Lb 1 kk3 r)<|Nx<|Wb<|Sr<|Qs 2 r<|Nx<|Wc r (fun H10=>?_) fun H10=>?_
  ·exact Sr<|Qs 1 r<|Yo (Lb 1 kk46 r)<|Bi fun R11 H12=>Fo (Cl [2, 2] impl_Model_quota_c H12 r r1 ⟨(Oc 2 r),(Oc 3 r),(Oc 4 r),(Bc Z0),⟨⟩⟩) fun Y13=>Fu (Sb 3 kk41 r (Ca ⟨Op',Op',Op',Ow' 2,⟨⟩⟩) r)<|Nx<|Wr<|Br<|Tr<|TE.leaf fun _ _ hf_ hs_ => ret_any (rs := [.cell 4 41]) (vs := [.agg #[iv R11.1.Code, iv R11.1.N, strV R11.1.Text, Y13.1]]) (.inl r) r (RV.cell 3 r r kk41 r ⟨⟩) hf_ hs_ ⟨(Y13.1, Y13.2, U1, U2, U3), r, hs_.pulls [0, 0, 3, 3, 3, 0] r⟩
  refine Sr<|Qs 2 r<|Nx<|Wc r (fun H14=>?_) fun H14=>?_
  ·exact Sr<|Qs 1 r<|Yo (Fb kf46_2 r)<|Yo (Lb 1 kk3 r)<|Bi fun R15 H16=>Fo (Cl [2, 3, 3, 3] impl_Model_remove_c H16 r r1 ⟨(Oc 2 r),⟨⟩⟩) fun Y17=>Fu (Sb 6 kk41 r (Ca ⟨Op',Op',Op',Ow' 5,⟨⟩⟩) r)<|Nx<|Wr<|Br<|Tr<|TE.leaf fun _ _ hf_ hs_ => ret_any (rs := [.cell 4 41]) (vs := [.agg #[iv R15.1.Code, iv R15.1.N, strV R15.1.Text, Y17.1]]) (.inl r) r (RV.cell 6 r r kk41 r ⟨⟩) hf_ hs_ ⟨(Y17.1, Y17.2.1, Y17.2.2.1, Y17.2.2.2.1, Y17.2.2.2.2), r, hs_.pulls [0, 0, 0, 0, 0, 0] r⟩
  refine Sr<|Qs 2 r<|Nx<|Wc r (fun H18=>?_) fun H18=>?_
  ·exact Sr<|Qs 1 r<|Yo (Fb kf46_2 r)<|Yo (Lb 1 kk3 r)<|Bi fun R19 H20=>Fo (Cl [2, 3, 3] impl_Model_rotate_c H20 r r1 ⟨(Oc 2 r),(Oc 3 r),⟨⟩⟩) fun Y21=>Fu (Sb 4 kk41 r (Ca ⟨Op',Op',Op',Ow' 3,⟨⟩⟩) r)<|Nx<|Wr<|Br<|Tr<|TE.leaf fun _ _ hf_ hs_ => ret_any (rs := [.cell 4 41]) (vs := [.agg #[iv R19.1.Code, iv R19.1.N, strV R19.1.Text, Y21]]) (.inl r) r (RV.cell 4 r r kk41 r ⟨⟩) hf_ hs_ ⟨(Y21, U0, U1, U2, U3), r, hs_.pulls [0, 5, 0, 0, 3, 0] r⟩
  exact Sk<|Bn<|Ne<|Sr<|Qs 1 r<|Yo (Fb kf46_2 r)<|Yo (Lb 1 kk3 r)<|Bi fun R22 H23=>Fo (Cl [2, 4, 4] impl_Model_flush_c H23 r r1 ⟨(Oc 2 r),(Oc 3 r),⟨⟩⟩) fun Y24=>Fu (Sb 4 kk41 r (Ca ⟨Op',Op',Op',Ow' 3,⟨⟩⟩) r)<|Nx<|Wr<|TE.leaf fun _ _ hf_ hs_ => ret_any (rs := [.cell 4 41]) (vs := [.agg #[iv R22.1.Code, iv R22.1.N, strV R22.1.Text, Y24.1]]) (.inl r) r (RV.cell 4 r r kk41 r ⟨⟩) hf_ hs_ ⟨(Y24.1, U0, U1, U2, Y24.2), r, hs_.pulls [0, 5, 5, 0, 0, 0] r⟩
noncomputable def impl_ReadVar (s : List UInt8) : Option (Int × Int) :=
  bindC (loopO (fun (S1 : Int × Int) => (if (decide (S1.2 < (7 : Int))) = true then (some (decide (S1.2 < ((s.length : Nat) : Int))))
  else (some false)).bind (fun (T5 : Bool) =>
  if T5 = true then ((sidx s S1.2).bind fun E9 =>
  if (decide (((E9.toNat : Nat) : Int) ≥ (128 : Int))) = true then (some (.go (ior .i64 S1.1 (ishl .i64 (IntKind.i64.wrap (iand .u8 ((E9.toNat : Nat) : Int) (127 : Int))) (IntKind.u64.wrap (IntKind.i64.wrap ((7 : Int) * S1.2)))), IntKind.i64.wrap (S1.2 + (1 : Int)))))
  else ((if (decide (((E9.toNat : Nat) : Int) = (0 : Int))) = true then (some (decide (S1.2 > (0 : Int))))
  else (some false)).bind (fun (T12 : Bool) =>
  if T12 = true then (some (.done (.done ((0 : Int), (0 : Int)))))
  else (some (.done (.done (ior .i64 S1.1 (ishl .i64 (IntKind.i64.wrap (iand .u8 ((E9.toNat : Nat) : Int) (127 : Int))) (IntKind.u64.wrap (IntKind.i64.wrap ((7 : Int) * S1.2)))), IntKind.i64.wrap (S1.2 + (1 : Int)))))))))
  else (some (.done (.go ())))))
  ((0 : Int), (0 : Int)))
  (fun (T3 : Unit) => some ((0 : Int), (0 : Int)))
theorem impl_ReadVar_c {s : List UInt8} : Cn Tryz.prog 162 [strV s] [] [] (impl_ReadVar s) (fun r (_ : Unit) => .tuple #[iv r.1, iv r.2]) fun _ _ => [] := by
  unfold impl_ReadVar
  refine Ci Tryz.func162 r r ?_
  rintro w S -
  refine Sr<|Qs 2 r<|Nx<|Sr<|Qs 1 r<|Nx<|Sq<|Sr<|Qs 1 r<|Nx<|Ju [] (fun _=>[]) r1 (?_) fun T3=>?_
  ·refine Wb<|Lu [0] (fun T=>[(4, iv T.1), (5, iv T.2)]) r1 fun S1=>Sq<|Sq<|Jv [0,4,5] (fun T=>[(13, .bool T)]) r1 (Rg<|Qs 3 r<|It (fun H7=>Qg 2 (beq_tt H7) r r<|Yg (gdA (beq_tt H7)) (Y.slen ks9 r)<|Qg 1 (beq_tt H7) r r<|Yo (Pt H7 r)<|Nl<|Bg () []) fun H7=>Of 4 (beq_ft H7) r r<|Yo (Pf H7 r)<|Nl<|Bg () []) fun T5=>Ne<|Wc r (fun H8=>?_) fun H8=>?_
   ·refine Sn<|Sq<|Wb<|Sr<|Qs 3 r<|Bi fun E9 H10=>Yo (Y.sidx H10 ks9 r r)<|Qs 1 r<|Yo (Y.conv ki5 ki3 r)<|Qs 2 r<|Yo (Y.conv ki3 ki104 r)<|Yo (Y.shl (wrap_u_nonneg r _) r r)<|Qs 2 r<|Nx<|Sq<|Sr<|Qs 2 r<|Yo (Y.sidx H10 ks9 r r)<|Qs 1 r<|Nx<|Wc r (fun H11=>Wx<|Tx<|Be<|Ne<|Rg<|Qs 3 r<|Nl<|Lg () []) fun H11=>Sn<|Sq<|Sq<|Jv [4,5] (fun T=>[(38, .bool T)]) r1 (Rg<|Qs 2 r<|Yo (Y.sidx H10 ks9 r r)<|Qs 2 r<|It (fun H14=>Qg 2 (beq_tt H14) r r<|Yo (Pt H14 r)<|Nl<|Bg () []) fun H14=>Of 2 (beq_ft H14) r r<|Yo (Pf H14 r)<|Nl<|Bg () []) fun T12=>Ne<|Wc r (fun H15=>Sr<|Qs 2 r<|Nx<|Wr<|Tr<|Br<|Tr<|Er<|Br<|Jd<|Tr<|Re () []) fun H15=>?_
    exact Sn<|Sr<|Qs 5 r<|Nx<|Wr<|Br<|Tr<|Er<|Br<|Jd<|Tr<|Re () []
   exact Wx<|Tx<|Ex<|Be<|Jg () []
  exact Ne<|Sr<|Qs 2 r<|Nx<|Wr<|Re () []
noncomputable def impl_reader_number (r_ : Reader) : Option (Int × Reader) :=
  if r_.bad = true then (some ((0 : Int), r_))
  else ((ssub r_.text r_.at_ (r_.text.length : Int)).bind fun E2 =>
  (impl_ReadVar E2).bind fun R4 =>
  if (decide (R4.2 = (0 : Int))) = true then (some ((0 : Int), { text := r_.text, at_ := r_.at_, bad := true : Reader }))
  else (some (R4.1, { text := r_.text, at_ := IntKind.i64.wrap (r_.at_ + R4.2), bad := r_.bad : Reader })))
theorem impl_reader_number_c {r_ : Reader} {U0 : Nat} : Cn Tryz.prog 123 [pt U0] [.box U0 153 [strV r_.text, iv r_.at_, .bool r_.bad]] [] (impl_reader_number r_) (fun r (_ : Unit) => iv r.1) fun r _ => [.box U0 153 [strV r.2.text, iv r.2.at_, .bool r.2.bad]] := by
  unfold impl_reader_number
  refine Ci Tryz.func123 r r ?_
  rintro w S -
  refine Sr<|Qs 1 r<|Nx<|Sq<|Sr<|Qs 2 r<|Yo (Fb kf153_2 r)<|Yo (Lb 0 kk4 r)<|Nx<|Wc r (fun H1=>Sr<|Qs 1 r<|Nx<|Wr<|Tr<|Re () [0]) fun H1=>Sn<|Sq<|Dr [0] r hMix<|Aq [0,1] [0] r<|Ay 2 [0] r (Fb kf153_0 r)<|Ay 3 [0] r (Lb 0 kk9 r)<|Aq [4,5] [0] r<|Ay 6 [0] r (Fb kf153_1 r)<|Ay 7 [0] r (Lb 0 kk3 r)<|Ai fun E2 H3=>Ay 8 [0] r (Y.ssub_from H3 ks9 r r)<|Ai fun R4 H5=>A1 9<|Xe [0] r (Cl [] impl_ReadVar_c H5 r r1) fun _=>Aq [10,11,12,13,14] [0] r<|Az<|Ne<|Sq<|Sr<|Qs 2 r<|Nx<|Wc r (fun H7=>Sr<|Qs 2 r<|Yo (Fb kf153_2 r)<|Fu (Sb 0 kk4 r (Cp r) r)<|Nx<|Sr<|Qs 1 r<|Nx<|Wr<|Tr<|Re () [0]) fun H7=>?_
  exact Sn<|Sr<|Qs 2 r<|Yo (Fb kf153_1 r)<|Yo (Lb 0 kk3 r)<|Qs 3 r<|Yo (Fb kf153_1 r)<|Fu (Sb 0 kk3 r (Cp r) r)<|Nx<|Sr<|Qs 2 r<|Nx<|Wr<|Re () [0]
noncomputable def impl_reader_bytes (r_ : Reader) (n : Int) : Option (List UInt8 × Reader) :=
  (if r_.bad = true then (some true)
  else (some (decide (n > IntKind.i64.wrap (((r_.text.length : Nat) : Int) - r_.at_))))).bind (fun (T1 : Bool) =>
  if T1 = true then (some ([], { text := r_.text, at_ := r_.at_, bad := true : Reader }))
  else ((ssub r_.text (IntKind.i64.wrap (IntKind.i64.wrap (r_.at_ + n) - n)) (IntKind.i64.wrap (r_.at_ + n))).bind fun E5 =>
  some (E5, { text := r_.text, at_ := IntKind.i64.wrap (r_.at_ + n), bad := r_.bad : Reader })))
theorem impl_reader_bytes_c {r_ : Reader} {n : Int} {U0 : Nat} : Cn Tryz.prog 124 [pt U0, iv n] [.box U0 153 [strV r_.text, iv r_.at_, .bool r_.bad]] [] (impl_reader_bytes r_ n) (fun r (_ : Unit) => strV r.1) fun r _ => [.box U0 153 [strV r.2.text, iv r.2.at_, .bool r.2.bad]] := by
  unfold impl_reader_bytes
  refine Ci Tryz.func124 r r ?_
  rintro w S -
  refine Sr<|Qs 1 r<|Nx<|Sq<|Sq<|Jv [0,1] (fun T=>[(22, .bool T)]) r1 (?_) fun T1=>?_
  ·exact Dr [0] r hMix<|Aq [0,1] [0] r<|Ay 2 [0] r (Fb kf153_2 r)<|Ay 3 [0] r (Lb 0 kk4 r)<|Aq [4] [0] r<|Ia (fun H3=>Ax [5,6,7,8,9,10,11,12,13,14,15,16] [0] (beq_tf H3) r r<|Ay 17 [0] r (Pt H3 r)<|Az<|Bg () [0]) fun H3=>Ag 5 [0] (gdA (beq_ff H3)) r (Y.move r)<|Ag 6 [0] (gdA (beq_ff H3)) r (Y.move r)<|Ag 7 [0] (gdA (beq_ff H3)) r (Y.nilCheck r)<|Ag 8 [0] (gdA (beq_ff H3)) r (Fb kf153_0 r)<|Ag 9 [0] (gdA (beq_ff H3)) r (Lb 0 kk9 r)<|Ag 10 [0] (gdA (beq_ff H3)) r (Y.slen ks9 r)<|Ag 11 [0] (gdA (beq_ff H3)) r (Y.move r)<|Ag 12 [0] (gdA (beq_ff H3)) r (Y.nilCheck r)<|Ag 13 [0] (gdA (beq_ff H3)) r (Fb kf153_1 r)<|Ag 14 [0] (gdA (beq_ff H3)) r (Lb 0 kk3 r)<|Ag 15 [0] (gdA (beq_ff H3)) r (Y.sub r r)<|Ag 16 [0] (gdA (beq_ff H3)) r (Y.gtr r r)<|Ay 17 [0] r (Pf H3 r)<|Az<|Bg () [0]
  exact Ne<|Wc r (fun H4=>Sr<|Qs 2 r<|Yo (Fb kf153_2 r)<|Fu (Sb 0 kk4 r (Cp r) r)<|Nx<|Sr<|Qs 1 r<|Nx<|Wr<|Tr<|Re () [0]) fun H4=>Sn<|Sr<|Qs 2 r<|Yo (Fb kf153_1 r)<|Yo (Lb 0 kk3 r)<|Qs 3 r<|Yo (Fb kf153_1 r)<|Fu (Sb 0 kk3 r (Cp r) r)<|Nx<|Sq<|Dr [0] r hMix<|Aq [0,1] [0] r<|Ay 2 [0] r (Fb kf153_0 r)<|Ay 3 [0] r (Lb 0 kk9 r)<|Aq [4,5] [0] r<|Ay 6 [0] r (Fb kf153_1 r)<|Ay 7 [0] r (Lb 0 kk3 r)<|Aq [8,9,10,11] [0] r<|Ay 12 [0] r (Fb kf153_1 r)<|Ay 13 [0] r (Lb 0 kk3 r)<|Ai fun E5 H6=>Ay 14 [0] r (Y.ssub_both H6 ks9 r r r)<|Aq [15] [0] r<|Az<|Ne<|Wr<|Re () [0]
noncomputable def impl_reader_done (r_ : Reader) : Option Bool :=
  (if (!r_.bad) = true then (some (decide (r_.at_ = ((r_.text.length : Nat) : Int))))
  else (some false)).bind (fun (T1 : Bool) =>
  some T1)
theorem impl_reader_done_c {r_ : Reader} {U0 : Nat} : Cn Tryz.prog 125 [pt U0] [.box U0 153 [strV r_.text, iv r_.at_, .bool r_.bad]] [] (impl_reader_done r_) (fun r (_ : Unit) => .bool r) fun _ _ => [.box U0 153 [strV r_.text, iv r_.at_, .bool r_.bad]] := by
  unfold impl_reader_done
  refine Ci Tryz.func125 r r ?_
  rintro w S -
  refine Sr<|Qs 1 r<|Nx<|Sq<|Jv [] (fun T=>[(2, .bool T)]) r1 (?_) fun T1=>?_
  ·refine Dr [0] r hMix<|Aq [0,1] [0] r<|Ay 2 [0] r (Fb kf153_2 r)<|Ay 3 [0] r (Lb 0 kk4 r)<|Aq [4,5] [0] r<|Ia (fun H3=>?_) fun H3=>?_
   ·exact Ag 6 [0] (gdA (beq_tt H3)) r (Y.move r)<|Ag 7 [0] (gdA (beq_tt H3)) r (Y.nilCheck r)<|Ag 8 [0] (gdA (beq_tt H3)) r (Fb kf153_1 r)<|Ag 9 [0] (gdA (beq_tt H3)) r (Lb 0 kk3 r)<|Ag 10 [0] (gdA (beq_tt H3)) r (Y.move r)<|Ag 11 [0] (gdA (beq_tt H3)) r (Y.nilCheck r)<|Ag 12 [0] (gdA (beq_tt H3)) r (Fb kf153_0 r)<|Ag 13 [0] (gdA (beq_tt H3)) r (Lb 0 kk9 r)<|Ag 14 [0] (gdA (beq_tt H3)) r (Y.slen ks9 r)<|Ag 15 [0] (gdA (beq_tt H3)) r (Y.eql r r)<|Ay 16 [0] r (Pt H3 r)<|Aq [17] [0] r<|Az<|Bg () [0]
   exact Ax [6,7,8,9,10,11,12,13,14,15] [0] (beq_ft H3) r r<|Ay 16 [0] r (Pf H3 r)<|Aq [17] [0] r<|Az<|Bg () [0]
  exact Ne<|Wr<|Re () [0]
noncomputable def impl_ReadToken (secret : List UInt8) (s : List UInt8) : Option (Int × Int × Bool) :=
  (impl_reader_number ({ text := s, at_ := (0 : Int), bad := false : Reader })).bind fun R2 =>
  (impl_reader_number R2.2).bind fun R5 =>
  (impl_reader_bytes R5.2 (8 : Int)).bind fun R8 =>
  ((impl_reader_done R8.2).bind fun R13 =>
  if (!R13) = true then (some true)
  else ((impl_MintToken secret R2.1 R5.1).bind fun R17 =>
  some (!(decide (R17 = s))))).bind (fun (T11 : Bool) =>
  if T11 = true then (some ((0 : Int), (0 : Int), false))
  else (some (R2.1, R5.1, true)))
theorem impl_ReadToken_c {secret : List UInt8} {s : List UInt8} : Cn Tryz.prog 77 [strV secret, strV s] [] [] (impl_ReadToken secret s) (fun r (_ : Unit) => .tuple #[iv r.1, iv r.2.1, .bool r.2.2]) fun _ _ => [] := by
  unfold impl_ReadToken
  refine Ci Tryz.func77 r r ?_
  rintro w S -
  refine Sr<|Qs 3 r<|Nx<|Sr<|Qs 1 r<|Yo (Bd kp153 kz153 (Pc r (Cp r)<|Pz) r)<|Fo (Al kz153 r) fun B1=>Fu (Sb 0 kk153 r (Cp r) r)<|Nx<|Sr<|Bi fun R2 H3=>Fo (Cl [0] impl_reader_number_c H3 r r1) fun _=>Qs 1 r<|Nx<|Sr<|Bi fun R5 H6=>Fo (Cl [0] impl_reader_number_c H6 r r1) fun _=>Qs 1 r<|Nx<|Sr<|Bi fun R8 H9=>Fo (Cl [0] impl_reader_bytes_c H9 r r1) fun _=>Nx<|Sq<|Sq<|Jb Unit [8,9] [] (fun T _=>[(24, .bool T)]) (fun _ _=>[]) r2 r2 (?_) fun T11 X12=>?_
  ·exact Rg<|Bi fun R13 H14=>Fo (Cl [0] impl_reader_done_c H14 r r1) fun _=>Qs 2 r<|It (fun H16=>Of 6 (beq_tf H16) r r<|Yo (Pt H16 r)<|Nl<|Bg () []) fun H16=>Qg 3 (beq_ff H16) r r<|Bi fun R17 H18=>Fg (gdA (beq_ff H16)) (Cl [] impl_MintToken_c H18 r r1) fun _=>Qg 2 (beq_ff H16) r r<|Yo (Pf H16 r)<|Nl<|Bg () []
  exact Ne<|Wc r (fun H20=>Sr<|Qs 3 r<|Nx<|Wr<|Tr<|Re () []) fun H20=>Sn<|Sr<|Qs 5 r<|Nx<|Wr<|Re () []
noncomputable def impl_isKey (s : List UInt8) : Option Bool :=
  (impl_inRange ((s.length : Nat) : Int) (1 : Int) (10 : Int)).bind fun R1 =>
  some R1
theorem impl_isKey_c {s : List UInt8} : Cn Tryz.prog 163 [strV s] [] [] (impl_isKey s) (fun r (_ : Unit) => .bool r) fun _ _ => [] := by
  unfold impl_isKey
  refine Ci Tryz.func163 r r ?_
  rintro w S -
  exact Sr<|Qs 1 r<|Nx<|Sr<|Qs 1 r<|Yo (Y.slen ks9 r)<|Bi fun R1 H2=>Fo (Cl [] impl_inRange_c H2 r r1) fun _=>Qs 1 r<|Nx<|Wr<|Re () []
noncomputable def impl_isVal (del : Bool) (val : List UInt8) : Option Bool :=
  (if (decide (((val.length : Nat) : Int) ≤ (16 : Int))) = true then (if del = true then (some (!(!(decide (val = ([]))))))
  else (some (!false)))
  else (some false)).bind (fun (T1 : Bool) =>
  some T1)
theorem impl_isVal_c {del : Bool} {val : List UInt8} : Cn Tryz.prog 164 [.bool del, strV val] [] [] (impl_isVal del val) (fun r (_ : Unit) => .bool r) fun _ _ => [] := by
  unfold impl_isVal
  refine Ci Tryz.func164 r r ?_
  rintro w S -
  refine Sr<|Qs 1 r<|Nx<|Sq<|Jv [] (fun T=>[(4, .bool T)]) r1 (?_) fun T1=>?_
  ·exact Rg<|Qs 1 r<|Yo (Y.slen ks9 r)<|Qs 2 r<|It (fun H3=>Qg 2 (beq_tt H3) r r<|It (fun H4=>Qg 2 (beq_tt H4) r r<|Yg (gdA (beq_tt H3)) (Pt H4 r)<|Qg 1 (beq_tt H3) r r<|Yo (Pt H3 r)<|Qs 1 r<|Nl<|Bg () []) fun H4=>Of 2 (beq_ft H4) r r<|Yg (gdA (beq_tt H3)) (Pf H4 r)<|Qg 1 (beq_tt H3) r r<|Yo (Pt H3 r)<|Qs 1 r<|Nl<|Bg () []) fun H3=>Of 2 (beq_ft H3) r r<|Ou 2 r r<|Of 2 (beq_ft H3) r r<|Yo (Pf H3 r)<|Qs 1 r<|Nl<|Bg () []
  exact Ne<|Wr<|Re () []
noncomputable def impl_BatchOk (l : List Op) : Option Bool :=
  bindC (loopO (fun (S1 : Int) => if (decide (S1 < ((l.length : Nat) : Int))) = true then ((idx l S1).bind fun E6 =>
  ((impl_isKey E6.Key).bind fun R11 =>
  if (!R11) = true then (some true)
  else ((impl_isVal E6.Del E6.Val).bind fun R15 =>
  some (!R15))).bind (fun (T9 : Bool) =>
  if T9 = true then (some (.done (.done false)))
  else (some (.go (IntKind.i64.wrap (S1 + (1 : Int)))))))
  else (some (.done (.go ()))))
  (0 : Int))
  (fun (T3 : Unit) => (impl_inRange ((l.length : Nat) : Int) (1 : Int) (6 : Int)).bind fun R19 =>
  some R19)
theorem impl_BatchOk_c {l : List Op} {U0 : Value} : Cn Tryz.prog 126 [U0] [] [(U0, lc l)] (impl_BatchOk l) (fun r (_ : Unit) => .bool r) fun _ _ => [] := by
  unfold impl_BatchOk
  refine Ci Tryz.func126 r r ?_
  rintro w S ⟨Z0,-⟩
  refine Sr<|Qs 1 r<|Nx<|Sq<|Sr<|Qs 1 r<|Yo (Ln ke44 (Bc Z0) r)<|Qs 1 r<|Nx<|Ju [0] (fun _=>[]) r1 (?_) fun T3=>?_
  ·refine Wb<|Lu [0,5,6] (fun T=>[(7, iv T)]) r1 fun S1=>Sr<|Qs 1 r<|Nx<|Sq<|Wc r (fun H5=>?_) fun H5=>?_
   ·refine Sn<|Sq<|Wb<|Sr<|Bi fun E6 H7=>Yo (Ix ke44 (Bc Z0) H7 r)<|Yo (Le kk98 (Bc Z0) H7 r)<|Fo (Al kz98 r) fun B8=>Fu (Sb 0 kk98 r (Cp r) r)<|Nx<|Sq<|Jb Unit [0,5,6,7] [] (fun T _=>[(22, .bool T)]) (fun _ _=>[]) r2 r2 (?_) fun T9 X10=>?_
    ·exact Rg<|Yo (Fb kf98_0 r)<|Yo (Lb 0 kk9 r)<|Bi fun R11 H12=>Fo (Cl [] impl_isKey_c H12 r r1) fun _=>Qs 2 r<|It (fun H14=>Of 6 (beq_tf H14) r r<|Yo (Pt H14 r)<|Nl<|Bg () []) fun H14=>Yg (gdA (beq_ff H14)) (Fb kf98_1 r)<|Yg (gdA (beq_ff H14)) (Lb 0 kk4 r)<|Yg (gdA (beq_ff H14)) (Fb kf98_2 r)<|Yg (gdA (beq_ff H14)) (Lb 0 kk9 r)<|Bi fun R15 H16=>Fg (gdA (beq_ff H14)) (Cl [] impl_isVal_c H16 r r1) fun _=>Qg 1 (beq_ff H14) r r<|Yo (Pf H14 r)<|Nl<|Bg () []
    exact Ne<|Wc r (fun H18=>Sr<|Qs 1 r<|Nx<|Wr<|Br<|Tr<|Er<|Br<|Jd<|Tr<|Re () []) fun H18=>Sk<|Bn<|Ne<|Rg<|Qs 2 r<|Nl<|Lg () []
   exact Wx<|Tx<|Ex<|Be<|Jg () []
  exact Ne<|Sr<|Qs 1 r<|Yo (Ln ke44 (Bc Z0) r)<|Bi fun R19 H20=>Fo (Cl [] impl_inRange_c H20 r r1) fun _=>Qs 1 r<|Nx<|Wr<|Re () []
noncomputable def internal_bytealg_CompareString (a : List UInt8) (b : List UInt8) : Option Int :=
  some (cmpS a b)
theorem internal_bytealg_CompareString_c {a : List UInt8} {b : List UInt8} : Cn Tryz.prog 183 [strV a, strV b] [] [] (internal_bytealg_CompareString a b) (fun r (_ : Unit) => iv r) fun _ _ => [] := by
  unfold internal_bytealg_CompareString
  refine Ci Tryz.func183 r r ?_
  rintro w S -
  exact Sr<|Qs 1 r<|Nx<|Sr<|Qs 2 r<|Fo (Es Tryz.func190 r r) fun _=>Qs 1 r<|Nx<|Wr<|Re () []
noncomputable def strings_Compare (a : List UInt8) (b : List UInt8) : Option Int :=
  (internal_bytealg_CompareString a b).bind fun R1 =>
  some R1
theorem strings_Compare_c {a : List UInt8} {b : List UInt8} : Cn Tryz.prog 167 [strV a, strV b] [] [] (strings_Compare a b) (fun r (_ : Unit) => iv r) fun _ _ => [] := by
  unfold strings_Compare
  refine Ci Tryz.func167 r r ?_
  rintro w S -
  exact Sr<|Qs 1 r<|Nx<|Sr<|Qs 2 r<|Bi fun R1 H2=>Fo (Cl [] internal_bytealg_CompareString_c H2 r r1) fun _=>Qs 1 r<|Nx<|Wr<|Re () []
noncomputable def impl_findKey_1 (x : KV) (key : List UInt8) : Option Int :=
  (strings_Compare x.Key key).bind fun R2 =>
  some R2
theorem impl_findKey_1_c {x : KV} {key : List UInt8} : Cn Tryz.prog 166 [.agg #[strV x.Key, strV x.Val], strV key] [] [] (impl_findKey_1 x key) (fun r (_ : Unit) => iv r) fun _ _ => [] := by
  unfold impl_findKey_1
  refine Ci Tryz.func166 r r ?_
  rintro w S -
  exact Sr<|Fo (Bx r (Cp r)) fun B1=>Qs 1 r<|Nx<|Sr<|Yo (Fb kf100_0 r)<|Yo (Lb 0 kk9 r)<|Qs 1 r<|Bi fun R2 H3=>Fo (Cl [] strings_Compare_c H3 r r1) fun _=>Qs 1 r<|Nx<|Wr<|Re () []
noncomputable def slices_BinarySearchFunc_58577_at_impl_findKey_1 (x : List KV) (target : List UInt8) : Option (Int × Bool) :=
  bindC (loopO (fun (S1 : Int × Int) => if (decide (S1.1 < S1.2)) = true then ((idx x (IntKind.i64.wrap (ishr .u64 (IntKind.u64.wrap (IntKind.i64.wrap (S1.1 + S1.2))) (1 : Int)))).bind fun E6 =>
  (impl_findKey_1 E6 target).bind fun R8 =>
  bindC (if (decide (R8 < (0 : Int))) = true then (some (.go (IntKind.i64.wrap (IntKind.i64.wrap (ishr .u64 (IntKind.u64.wrap (IntKind.i64.wrap (S1.1 + S1.2))) (1 : Int)) + (1 : Int)), S1.2)))
  else (some (.go (S1.1, IntKind.i64.wrap (ishr .u64 (IntKind.u64.wrap (IntKind.i64.wrap (S1.1 + S1.2))) (1 : Int))))))
  (fun (T11 : Int × Int) => some (.go (T11.1, T11.2))))
  else (some (.done (.go S1.1))))
  ((0 : Int), ((x.length : Nat) : Int)))
  (fun (T3 : Int) => (if (decide (T3 < ((x.length : Nat) : Int))) = true then ((idx x T3).bind fun E17 =>
  (impl_findKey_1 E17 target).bind fun R19 =>
  some (decide (R19 = (0 : Int))))
  else (some false)).bind (fun (T14 : Bool) =>
  some (T3, T14)))
theorem slices_BinarySearchFunc_58577_at_impl_findKey_1_c {x : List KV} {target : List UInt8} {U0 : Value} : Cn Tryz.prog 165 [U0, strV target, .func (.func 166) #[] #[]] [] [(U0, lc x)] (slices_BinarySearchFunc_58577_at_impl_findKey_1 x target) (fun r (_ : Unit) => .tuple #[iv r.1, .bool r.2]) fun _ _ => [] := by
  unfold slices_BinarySearchFunc_58577_at_impl_findKey_1
  refine Ci Tryz.func165 r r ?_
  rintro w S ⟨Z0,-⟩
  refine Sr<|Qs 2 r<|Nx<|Sr<|Qs 1 r<|Yo (Ln ke39 (Bc Z0) r)<|Qs 1 r<|Nx<|Sr<|Qs 3 r<|Nx<|Sq<|Ju [0,1,2,8] (fun T=>[(9, iv T)]) r1 (?_) fun T3=>?_
  ·refine Wb<|Lu [0,1,2,8] (fun T=>[(9, iv T.1), (10, iv T.2)]) r1 fun S1=>Sq<|Sr<|Qs 3 r<|Nx<|Wc r (fun H5=>?_) fun H5=>?_
   ·exact Sn<|Wb<|Sr<|Qs 3 r<|Yo (Y.conv ki3 ki104 r)<|Yo (Y.shr (by decide) r r)<|Yo (Y.conv ki104 ki3 r)<|Qs 1 r<|Nx<|Sr<|Qs 3 r<|Bi fun E6 H7=>Yo (Ix ke39 (Bc Z0) H7 r)<|Yo (Le kk100 (Bc Z0) H7 r)<|Qs 1 r<|Bi fun R8 H9=>Fo (Cw [] impl_findKey_1_c H9 r r r1) fun _=>Qs 1 r<|Nx<|Ju [0,1,2,8] (fun T=>[(9, iv T.1), (10, iv T.2)]) r1 (Wc r (fun H13=>Rg<|Qs 3 r<|Nl<|Jg () []) fun H13=>Rg<|Qs 2 r<|Nl<|Jg () []) fun T11=>Bn<|Lg () []
   exact Wx<|Tx<|Ex<|Be<|Jg () []
  refine Ne<|Sq<|Jv [] (fun T=>[(6, iv T3), (7, .bool T)]) r1 (?_) fun T14=>?_
  ·refine Rg<|Qs 5 r<|It (fun H16=>?_) fun H16=>?_
   ·exact Qg 3 (beq_tt H16) r r<|Bi fun E17 H18=>Yg (gdA (beq_tt H16)) (Ix ke39 (Bc Z0) H18 r)<|Yg (gdA (beq_tt H16)) (Le kk100 (Bc Z0) H18 r)<|Qg 1 (beq_tt H16) r r<|Bi fun R19 H20=>Fg (gdA (beq_tt H16)) (Cw [] impl_findKey_1_c H20 r r r1) fun _=>Qg 1 (beq_tt H16) r r<|Yo (Pt H16 r)<|Qs 2 r<|Nl<|Bg () []
   exact Of 8 (beq_ft H16) r r<|Yo (Pf H16 r)<|Qs 2 r<|Nl<|Bg () []
  exact Ne<|Wr<|Re () []
noncomputable def impl_findKey (m : List KV) (key : List UInt8) : Option (Int × Bool) :=
  (slices_BinarySearchFunc_58577_at_impl_findKey_1 m key).bind fun R1 =>
  some (R1.1, R1.2)
theorem impl_findKey_c {m : List KV} {key : List UInt8} {U0 : Value} : Cn Tryz.prog 128 [U0, strV key] [] [(U0, lc m)] (impl_findKey m key) (fun r (_ : Unit) => .tuple #[iv r.1, .bool r.2]) fun _ _ => [] := by
  unfold impl_findKey
  refine Ci Tryz.func128 r r ?_
  rintro w S ⟨Z0,-⟩
  exact Sr<|Qs 2 r<|Nx<|Sr<|Qs 2 r<|Bi fun R1 H2=>Fo (Cl [] slices_BinarySearchFunc_58577_at_impl_findKey_1_c H2 r r1 ⟨(Bc Z0),⟨⟩⟩) fun _=>Qs 4 r<|Nx<|Wr<|Re () []
noncomputable def slices_Delete_74624 (s : List KV) (i : Int) (j : Int) : Option (List KV) :=
  (piece s i j).bind fun E1 =>
  if (decide (i = j)) = true then (some s)
  else ((piece s (0 : Int) i).bind fun E5 =>
  (piece s j ((s.length : Nat) : Int)).bind fun E7 =>
  some (E5 ++ E7))
theorem slices_Delete_74624_c {s : List KV} {i : Int} {j : Int} {U0 : Value} : Cn Tryz.prog 168 [U0, iv i, iv j] [.own U0 (lc s)] [] (slices_Delete_74624 s i j) (fun _ (X : Value) => X) fun r X => [.own X (lc r)] := by
  unfold slices_Delete_74624
  refine Ci Tryz.func168 r r ?_
  rintro w S -
  refine Sr<|Qs 1 r<|Nx<|Sr<|Qs 4 r<|Yo (Ln ke39 (Oc 0 r) r)<|Bi fun E1 H2=>TO.fact (Can.cap (Can.own 0 r)) fun H3=>Yo (Y.subs3 H2 ke39 (Oc 0 r) r r r r)<|Nx<|Sq<|Sr<|Qs 3 r<|Nx<|Wc r (fun H4=>Sr<|Qs 2 r<|Nx<|Wr<|Tr<|Re U0 [0]) fun H4=>Sn<|Sr<|Qs 1 r<|Yo (Ln ke39 (Oc 0 r) r)<|Qs 1 r<|Nx<|Sq<|Wi fun E5 H6=>Wi fun E7 H8=>Jw Unit [7] [] (fun _=>[(0, delV U0 (E5 ++ E7).length)]) (fun _=>[.own (delV U0 (E5 ++ E7).length) (lc (E5 ++ E7))]) r1 r1 (?_) fun X10=>?_
  ·exact Dr [] r hMix<|Aq [0,1,3,4] [] r<|A2 2 5 (Xy [] r (Y.subs H6 ke39 (Oc 0 r) r r ⟨_, r⟩)<|A1 5<|Xy [] r (Y.subs H8 ke39 (Oc 0 r) r ⟨_, r⟩ r)<|A1 6<|Xe [] r (Ef.del (α := KV) (is' := []) [0] H2 H6 H8 ke39 r r r r) fun _=>Aq [7] [] r<|Az<|Bg () [0])<|Xy [] r (Y.subs H8 ke39 (Oc 0 r) r ⟨_, r⟩ r)<|A1 2<|Xy [] r (Y.subs H6 ke39 (Oc 0 r) r r ⟨_, r⟩)<|A1 6<|Xe [] r (Ef.del (α := KV) (is' := []) [0] H2 H6 H8 ke39 r r r r) fun _=>Aq [7] [] r<|Az<|Bg () [0]
  exact Ne<|Sr<|Qs 2 r<|Yo (Ln ke39 (Oc 0 r) r)<|Qs 1 r<|Yo (Y.tail (hi := s.length) H3 (del_le H2 H6 H8) ke39 r r r)<|Fu (Ef.clearTail (k := 0) H3 (del_le H2 H6 H8) ke39 kz100 r r r r)<|Nx<|Sr<|Qs 2 r<|Nx<|Wr<|Re (delV U0 (E5 ++ E7).length) [0]
noncomputable def impl_dropKey (m : List KV) (key : List UInt8) : Option (List KV) :=
  (impl_findKey m key).bind fun R1 =>
  if R1.2 = true then ((slices_Delete_74624 m R1.1 (IntKind.i64.wrap (R1.1 + (1 : Int)))).bind fun R5 =>
  some R5)
  else (some m)
theorem impl_dropKey_c {m : List KV} {key : List UInt8} {U0 : Value} : Cn Tryz.prog 133 [U0, strV key] [.own U0 (lc m)] [] (impl_dropKey m key) (fun _ (X : Value) => X) fun r X => [.own X (lc r)] := by
  unfold impl_dropKey
  refine Ci Tryz.func133 r r ?_
  rintro w S -
  exact Sr<|Qs 1 r<|Nx<|Sr<|Qs 2 r<|Bi fun R1 H2=>Fo (Cl [] impl_findKey_c H2 r r1 ⟨(Oc 0 r),⟨⟩⟩) fun _=>Qs 5 r<|Nx<|Sq<|Sr<|Qs 1 r<|Nx<|Wc r (fun H4=>Sr<|Qs 4 r<|Bi fun R5 H6=>Fo (Cl [0] slices_Delete_74624_c H6 r r1) fun Y7=>Qs 1 r<|Nx<|Wr<|Tr<|Re Y7 [0]) fun H4=>Sn<|Sr<|Qs 2 r<|Nx<|Wr<|Re U0 [0]
noncomputable def slices_Insert_74624 (s : List KV) (i : Int) (v : List KV) : Option (List KV) := ins 32 s i v
theorem slices_Insert_74624_con (s : List KV) (i : Int) (v : List KV) (V_s0 V_v0 : Value) (r : List KV) (hm : slices_Insert_74624 s i v = some r) :
    Con Tryz.prog 169 [V_s0, .int .i64 i, V_v0] [.own V_s0 (lc s), .own V_v0 (lc v)] [] (fun X : Value => X) (fun X => [.own X (lc r)]) := by
  refine Con.intro (args := [V_s0, .int .i64 i, V_v0]) (n := 95) (val := fun _ (X : Value) => X) (post := fun r X => [.own X (lc r)]) (m := slices_Insert_74624 s i v) Tryz.func169 rfl rfl rfl hm ?_
  intro w S _
  unfold slices_Insert_74624
  refine TW.known fun r0 hr0 => ?_
  obtain ⟨h0, h1, h2, h3, rfl⟩ := ins_eq hr0
  obtain ⟨I, rfl⟩ := Int.eq_ofNat_of_zero_le h0
  rw [Int.toNat_natCast]
  have h1n : I ≤ s.length := by omega
  clear hr0 hm
  have wr : ∀ q : Nat, q ≤ 4611686018427387904 → IntKind.i64.wrap (q : Int) = (q : Int) := fun q hq => by rw [IntKind.wrap_i64]; omega
  have wr2 : ∀ a b : Nat, a + b ≤ 4611686018427387904 → IntKind.i64.wrap ((a : Int) + (b : Int)) = ((a + b : Nat) : Int) := fun a b hq => by rw [IntKind.wrap_i64]; omega
  obtain ⟨z0, hpc⟩ : ∃ z, piece s (I : Int) ((s.length : Nat) : Int) = some z := ⟨_, if_pos ⟨by omega, by omega, by omega⟩⟩
  refine TW.seq ?_
  refine TW.region ?_
  refine TO.y (Y.assign rfl) rfl rfl rfl ?_
  refine TO.nil ?_
  refine TE.next ?_
  refine TW.seq ?_
  refine TW.region ?_
  refine TO.y (Y.move rfl) rfl rfl rfl ?_
  refine TO.y (Y.move rfl) rfl rfl rfl ?_
  refine TO.y (Y.subs hpc ke39 (Can.own 0 rfl) rfl ⟨_, rfl⟩ rfl) rfl rfl rfl ?_
  refine TO.nil ?_
  refine TE.next ?_
  refine TW.seq ?_
  refine TW.region ?_
  refine TO.y (Y.move rfl) rfl rfl rfl ?_
  refine TO.y (Y.len (l := v) ke39 (Can.own 1 rfl) rfl) rfl rfl rfl ?_
  refine TO.y (Y.assign rfl) rfl rfl rfl ?_
  refine TO.nil ?_
  refine TE.next ?_
  refine TW.seq ?_
  refine TW.seq ?_
  refine TW.region ?_
  refine TO.y (Y.move rfl) rfl rfl rfl ?_
  refine TO.y (Y.eql rfl rfl) rfl rfl rfl ?_
  refine TO.nil ?_
  refine TE.next ?_
  by_cases hm0 : v = []
  · subst hm0
    rw [show s.take I ++ ([] ++ s.drop I) = s by simp]
    refine TW.cond_t rfl (by simp) ?_
    refine TW.seq ?_
    refine TW.region ?_
    refine TO.y (Y.move rfl) rfl rfl rfl ?_
    refine TO.y (Y.assign rfl) rfl rfl rfl ?_
    refine TO.nil ?_
    refine TE.next ?_
    refine TW.ret ?_
    refine TE.then_ret ?_
    exact TE.leaf fun _ _ hf_ hs_ => ret_any (rs := [.tmp 6]) (vs := [V_s0]) (.inl rfl) rfl ⟨rfl, trivial⟩ hf_ hs_ ⟨V_s0, rfl, hs_.pulls [0] rfl⟩
  · have hm1 : 0 < v.length := List.length_pos_iff.2 hm0
    refine TW.cond_f rfl (decide_eq_false (by omega)) ?_
    refine TW.skip ?_
    refine TE.next ?_
    refine TW.seq ?_
    refine TW.region ?_
    refine TO.y (Y.move rfl) rfl rfl rfl ?_
    refine TO.y (Y.len (l := s) ke39 (Can.own 0 rfl) rfl) rfl rfl rfl ?_
    refine TO.y (Y.assign rfl) rfl rfl rfl ?_
    refine TO.nil ?_
    refine TE.next ?_
    refine TW.seq ?_
    refine TW.seq ?_
    refine TW.region ?_
    refine TO.y (Y.move rfl) rfl rfl rfl ?_
    refine TO.y (Y.move rfl) rfl rfl rfl ?_
    refine TO.y (Y.eql rfl rfl) rfl rfl rfl ?_
    refine TO.nil ?_
    refine TE.next ?_
    by_cases hin : I = s.length
    · have happ : app 32 s v = some (s ++ v) := by unfold app; rw [if_pos ⟨h2, by omega⟩]
      rw [show s.take I ++ (v ++ s.drop I) = s ++ v by rw [hin]; simp]
      refine TW.cond_t rfl (decide_eq_true (by omega)) ?_
      refine TW.seq ?_
      refine TW.region ?_
      refine TO.y (Y.move rfl) rfl rfl rfl ?_
      refine TO.y (Y.move rfl) rfl rfl rfl ?_
      refine TO.ef (Ef.appN (α := KV) (is' := []) [0, 0] happ ke39 kz100 rfl rfl rfl rfl rfl) rfl rfl rfl (fun X => ?_)
      refine TO.y (Y.assign rfl) rfl rfl rfl ?_
      refine TO.nil ?_
      refine TE.next ?_
      refine TW.ret ?_
      refine TE.then_ret ?_
      exact TE.leaf fun _ _ hf_ hs_ => ret_any (rs := [.tmp 6]) (vs := [X]) (.inl rfl) rfl ⟨rfl, trivial⟩ hf_ hs_ ⟨X, rfl, hs_.pulls [0] rfl⟩
    · refine TW.cond_f rfl (decide_eq_false (by omega)) ?_
      refine TW.skip ?_
      refine TE.next ?_
      refine TW.openRows (α := KV) (by omega) hm1 ?_
      intro b cap e cur b2 cap2 e2 cur2 hV hU hbb hc1 hc2 hc3 hc4 hl1 hl2 ho1 ho2
      subst hV hU
      have hsz : Enc.sz KV = 2 := rfl
      rw [hsz] at hl1 hl2 ho1 ho2
      have e1 := wr2 s.length v.length h3
      refine TW.seq ?_
      refine TW.seq ?_
      refine TW.region ?_
      refine TO.y (Y.move rfl) rfl rfl rfl ?_
      refine TO.y (Y.move rfl) rfl rfl rfl ?_
      refine TO.y (Y.add rfl rfl) rfl rfl rfl ?_
      refine TO.y (Y.move rfl) rfl rfl rfl ?_
      refine TO.y (Y.capRaw ke39 rfl) rfl rfl rfl ?_
      refine TO.y (Y.gtr rfl rfl) rfl rfl rfl ?_
      refine TO.nil ?_
      refine TE.next ?_
      by_cases hroom : cap < s.length + v.length
      · refine TW.cond_t rfl (by rw [e1]; exact decide_eq_true (by omega)) ?_
        refine TW.seq ?_
        refine TW.region ?_
        refine TO.y (Y.move rfl) rfl rfl rfl ?_
        refine TO.y (Y.move rfl) rfl rfl rfl ?_
        refine TO.y (Y.toRaw (hi := I) ke39 (by omega) rfl rfl rfl) rfl rfl rfl ?_
        refine TO.y (Y.move rfl) rfl rfl rfl ?_
        refine TO.y (Y.move rfl) rfl rfl rfl ?_
        refine TO.y (Y.add rfl rfl) rfl rfl rfl ?_
        refine TO.y (Y.move rfl) rfl rfl rfl ?_
        refine TO.y (Y.sub rfl rfl) rfl rfl rfl ?_
        have e2 : IntKind.i64.wrap (IntKind.i64.wrap ((s.length : Int) + (v.length : Int)) - (I : Int)) = ((s.length + v.length - I : Nat) : Int) := by rw [e1, IntKind.wrap_i64]; omega
        refine TO.ef (Ef.rawGrow (N := s.length + v.length) (q := s.length + v.length - I) 0 ke39 ki3 kz100 rfl rfl rfl rfl rfl e2 (by omega) (by omega) hl1 (by omega) hroom (by omega) h2) rfl rfl rfl (fun X => ?_)
        refine TO.y (Y.assign rfl) rfl rfl rfl ?_
        refine TO.nil ?_
        refine TE.next ?_
        obtain ⟨⟨⟨g, gc⟩, ge, zs⟩, hz1, hz2, hz3⟩ := X
        dsimp only at hz1 hz2 hz3 ⊢
        obtain ⟨q1, q2, q3, q4, q5, q6⟩ := insA (G := gc) (zs := zs) h1n hc1 hc3 hl1 hl2 hz1 hz2
        have m1 : 0 + I * 2 + v.length * 2 ≤ gc * 2 := by omega
        have m2 : 0 + (I + v.length) * 2 + (s.length - I) * 2 ≤ gc * 2 := by omega
        have m3 : 0 + v.length * 2 ≤ cap2 * 2 := by omega
        have m4 : 0 + I * 2 + (s.length - I) * 2 ≤ cap * 2 := by omega
        refine TW.seq ?_
        refine TW.region ?_
        refine TO.y (Y.move rfl) rfl rfl rfl ?_
        refine TO.y (Y.move rfl) rfl rfl rfl ?_
        refine TO.y (Y.fromRaw (lo := I) ke39 (by omega) (by omega) rfl rfl rfl) rfl rfl rfl ?_
        refine TO.y (Y.move rfl) rfl rfl rfl ?_
        refine TO.ef (Ef.rawCopy (sl := v.length) 0 2 ke39 rfl rfl rfl rfl (by omega) (by rw [q3]; exact m1) (Nat.le_trans m3 hl2) (by rw [List.drop_zero]; exact ho2) rfl) rfl rfl rfl (fun _ => ?_)
        refine TO.nil ?_
        refine TE.next ?_
        refine TW.seq ?_
        refine TW.draw (isH := []) hMix ?_
        refine TA.y 0 [] rfl (Y.move rfl) rfl rfl rfl (by kernel_rfl) rfl ?_
        refine TA.y 1 [] rfl (Y.move rfl) rfl rfl rfl (by kernel_rfl) rfl ?_
        refine TA.y 2 [] rfl (Y.move rfl) rfl rfl rfl (by kernel_rfl) rfl ?_
        refine TA.y 3 [] rfl (Y.add rfl rfl) rfl rfl rfl (by kernel_rfl) rfl ?_
        refine TA.y 4 [] rfl (Y.fromRaw (lo := I + v.length) ke39 (by omega) (by omega) (wr2 I v.length (by omega)) rfl rfl) rfl rfl rfl (by kernel_rfl) rfl ?_
        refine TA.y 5 [] rfl (Y.move rfl) rfl rfl rfl (by kernel_rfl) rfl ?_
        refine TA.y 6 [] rfl (Y.move rfl) rfl rfl rfl (by kernel_rfl) rfl ?_
        refine TA.y 7 [] rfl (Y.fromRaw (lo := I) ke39 (by omega) (by omega) rfl rfl rfl) rfl rfl rfl (by kernel_rfl) rfl ?_
        refine TA.one 8 (by kernel_rfl) ?_
        refine TX.ef [] rfl (Ef.rawCopy (sl := s.length - I) 0 1 ke39 rfl rfl rfl rfl (by omega) (by rw [q4]; exact m2) (Nat.le_trans m4 hl1) (ins_one ho1 h1n) rfl) rfl rfl rfl (fun _ => rfl) (fun _ => ?_)
        refine TA.nil (by kernel_rfl) ?_
        refine TE.next ?_
        refine TW.seq ?_
        refine TW.region ?_
        refine TO.y (Y.move rfl) rfl rfl rfl ?_
        refine TO.y (Y.assign rfl) rfl rfl rfl ?_
        refine TO.nil ?_
        refine TE.next ?_
        refine TW.ret ?_
        refine TE.then_ret ?_
        refine TE.ghost (Gh.fold (α := KV) (l := s) (k := v) (i := I) [0, 2, 2, 0, 0] rfl h1n hz2 hz3 (Nat.le_of_eq q5.symm) q6) (fun _ => ?_)
        exact TE.leaf fun _ _ hf_ hs_ => ret_any (rs := [.tmp 6]) (vs := [.slice (some ⟨g, 0, none⟩) (s.length + v.length) gc]) (.inl rfl) rfl ⟨rfl, trivial⟩ hf_ hs_ ⟨(.slice (some ⟨g, 0, none⟩) (s.length + v.length) gc), rfl, hs_.pulls [0] rfl⟩
      · refine TW.cond_f rfl (by rw [e1]; exact decide_eq_false (by omega)) ?_
        refine TW.skip ?_
        refine TE.next ?_
        refine TW.seq ?_
        refine TW.region ?_
        refine TO.y (Y.move rfl) rfl rfl rfl ?_
        refine TO.y (Y.move rfl) rfl rfl rfl ?_
        refine TO.y (Y.move rfl) rfl rfl rfl ?_
        refine TO.y (Y.add rfl rfl) rfl rfl rfl ?_
        refine TO.y (Y.toRaw (hi := s.length + v.length) ke39 (by omega) e1 rfl rfl) rfl rfl rfl ?_
        refine TO.y (Y.assign rfl) rfl rfl rfl ?_
        refine TO.nil ?_
        refine TE.next ?_
        obtain ⟨q1, q2, q3, q4, q5⟩ := insB h1n (by omega) hc3 hl1 hl2
        have m1 : 0 + I * 2 + v.length * 2 ≤ cap * 2 := by omega
        have m2 : 0 + (I + v.length) * 2 + (s.length - I) * 2 ≤ cap * 2 := by omega
        have m3 : 0 + v.length * 2 ≤ cap2 * 2 := by omega
        have m4 : 0 + I * 2 + (s.length - I) * 2 ≤ cap * 2 := by omega
        have hne : cur ≠ [] := by intro e; rw [e] at hl1; simp at hl1; omega
        refine TW.seq ?_
        refine TW.seq ?_
        refine TW.region ?_
        refine TO.y (Y.move rfl) rfl rfl rfl ?_
        refine TO.y (Y.move rfl) rfl rfl rfl ?_
        refine TO.y (Y.move rfl) rfl rfl rfl ?_
        refine TO.y (Y.move rfl) rfl rfl rfl ?_
        refine TO.y (Y.add rfl rfl) rfl rfl rfl ?_
        refine TO.y (Y.fromRaw (lo := I + v.length) ke39 (by omega) (by omega) (wr2 I v.length (by omega)) rfl rfl) rfl rfl rfl ?_
        refine TO.ef (Ef.overlaps (tr := 4) 1 0 Tryz.func184 (by kernel_rfl) (by kernel_rfl) (by kernel_rfl) (by kernel_rfl) ke39 rfl rfl (Ne.symm hbb) rfl rfl hne) rfl rfl rfl (fun _ => ?_)
        refine TO.y (Y.not rfl) rfl rfl rfl ?_
        refine TO.nil ?_
        refine TE.next ?_
        refine TW.cond_true rfl ?_
        refine TW.seq ?_
        refine TW.draw (isH := []) hMix ?_
        refine TA.y 0 [] rfl (Y.move rfl) rfl rfl rfl (by kernel_rfl) rfl ?_
        refine TA.y 1 [] rfl (Y.move rfl) rfl rfl rfl (by kernel_rfl) rfl ?_
        refine TA.y 2 [] rfl (Y.move rfl) rfl rfl rfl (by kernel_rfl) rfl ?_
        refine TA.y 3 [] rfl (Y.add rfl rfl) rfl rfl rfl (by kernel_rfl) rfl ?_
        refine TA.y 4 [] rfl (Y.fromRaw (lo := I + v.length) ke39 (by omega) (by omega) (wr2 I v.length (by omega)) rfl rfl) rfl rfl rfl (by kernel_rfl) rfl ?_
        refine TA.y 5 [] rfl (Y.move rfl) rfl rfl rfl (by kernel_rfl) rfl ?_
        refine TA.y 6 [] rfl (Y.move rfl) rfl rfl rfl (by kernel_rfl) rfl ?_
        refine TA.y 7 [] rfl (Y.fromRaw (lo := I) ke39 (by omega) (by omega) rfl rfl rfl) rfl rfl rfl (by kernel_rfl) rfl ?_
        refine TA.one 8 (by kernel_rfl) ?_
        refine TX.ef [] rfl (Ef.rawCopy (sl := s.length - I) 0 0 ke39 rfl rfl rfl rfl (by omega) (Nat.le_trans m2 hl1) (Nat.le_trans m4 hl1) (ins_one ho1 h1n) rfl) rfl rfl rfl (fun _ => rfl) (fun _ => ?_)
        refine TA.nil (by kernel_rfl) ?_
        refine TE.next ?_
        refine TW.seq ?_
        refine TW.region ?_
        refine TO.y (Y.move rfl) rfl rfl rfl ?_
        refine TO.y (Y.move rfl) rfl rfl rfl ?_
        refine TO.y (Y.fromRaw (lo := I) ke39 (by omega) (by omega) rfl rfl rfl) rfl rfl rfl ?_
        refine TO.y (Y.move rfl) rfl rfl rfl ?_
        refine TO.ef (Ef.rawCopy (sl := v.length) 0 1 ke39 rfl rfl rfl rfl (by omega) (by rw [q3]; exact Nat.le_trans m1 hl1) (Nat.le_trans m3 hl2) (by rw [List.drop_zero]; exact ho2) rfl) rfl rfl rfl (fun _ => ?_)
        refine TO.nil ?_
        refine TE.next ?_
        refine TW.seq ?_
        refine TW.region ?_
        refine TO.y (Y.move rfl) rfl rfl rfl ?_
        refine TO.y (Y.assign rfl) rfl rfl rfl ?_
        refine TO.nil ?_
        refine TE.next ?_
        refine TW.ret ?_
        refine TE.then_ret ?_
        refine TE.ghost (Gh.fold (α := KV) (l := s) (k := v) (i := I) [0, 1, 1, 0] rfl h1n (by omega) hc2 (by rw [q4]; exact hl1) q5) (fun _ => ?_)
        exact TE.leaf fun _ _ hf_ hs_ => ret_any (rs := [.tmp 6]) (vs := [.slice (some ⟨b, 0, none⟩) (s.length + v.length) cap]) (.inl rfl) rfl ⟨rfl, trivial⟩ hf_ hs_ ⟨(.slice (some ⟨b, 0, none⟩) (s.length + v.length) cap), rfl, hs_.pulls [0] rfl⟩
theorem slices_Insert_74624_c {s : List KV} {i : Int} {v : List KV} {V_s0 V_v0 : Value} : Cn Tryz.prog 169 [V_s0, iv i, V_v0] [.own V_s0 (lc s), .own V_v0 (lc v)] [] (slices_Insert_74624 s i v) (fun _ (X : Value) => X) fun r X => [.own X (lc r)] := ⟨by kernel_rfl, fun _ h => slices_Insert_74624_con s i v _ _ _ h⟩
noncomputable def impl_setKey (m : List KV) (key : List UInt8) (val : List UInt8) : Option (List KV) :=
  (impl_findKey m key).bind fun R1 =>
  if R1.2 = true then ((idx m R1.1).bind fun E5 =>
  some (m.set R1.1.toNat ({ Key := E5.Key, Val := val : KV })))
  else ((slices_Insert_74624 m R1.1 ([{ Key := key, Val := val : KV }])).bind fun R8 =>
  some R8)
theorem impl_setKey_c {m : List KV} {key : List UInt8} {val : List UInt8} {U0 : Value} : Cn Tryz.prog 134 [U0, strV key, strV val] [.own U0 (lc m)] [] (impl_setKey m key val) (fun _ (X : Value) => X) fun r X => [.own X (lc r)] := by
  unfold impl_setKey
  refine Ci Tryz.func134 r r ?_
  rintro w S -
  refine Sr<|Qs 1 r<|Nx<|Sr<|Qs 2 r<|Bi fun R1 H2=>Fo (Cl [] impl_findKey_c H2 r r1 ⟨(Oc 0 r),⟨⟩⟩) fun _=>Qs 5 r<|Nx<|Sq<|Sr<|Qs 1 r<|Nx<|Wc r (fun H4=>Sr<|Qs 3 r<|Bi fun E5 H6=>Yo (Ix ke39 (Oc 0 r) H6 r)<|Yo (Fe kf100_1 (Oc 0 r) H6 r)<|Fu (Se ({ Key := E5.Key, Val := val : KV }) 0 kk9 H6 r (Cp r) r)<|Nx<|Sr<|Qs 2 r<|Nx<|Wr<|Tr<|Re U0 [0]) fun H4=>Sn<|Sr<|Qs 4 r<|Yo (Bd kp100 kz100 (Pc r (Cp r)<|Pc r (Cp r)<|Pz) r)<|Fo (Bs [{ Key := key, Val := val : KV }] ke39 kz100) fun B7=>Bi fun R8 H9=>Fo (Cl [1, 0] slices_Insert_74624_c H9 r r1) fun Y10=>?_
  exact Qs 1 r<|Nx<|Wr<|Re Y10 [0]
noncomputable def impl_applied (m : List KV) (l : List Op) : Option (List KV) :=
  (slices_Clone_74624 m).bind fun R1 =>
  bindC (loopO (fun (S4 : Int × List KV) => if (decide (S4.1 < ((l.length : Nat) : Int))) = true then ((idx l S4.1).bind fun E9 =>
  bindC (if E9.Del = true then ((impl_dropKey S4.2 E9.Key).bind fun R15 =>
  some (.go R15))
  else ((impl_setKey S4.2 E9.Key E9.Val).bind fun R18 =>
  some (.go R18)))
  (fun (T12 : List KV) => some (.go (IntKind.i64.wrap (S4.1 + (1 : Int)), T12))))
  else (some (.done (.go S4.2))))
  ((0 : Int), R1))
  (fun (T6 : List KV) => some T6)
theorem impl_applied_c {m : List KV} {l : List Op} {U0 U1 : Value} : Cn Tryz.prog 85 [U0, U1] [] [(U0, lc m), (U1, lc l)] (impl_applied m l) (fun _ (X : Value) => X) fun r X => [.own X (lc r)] := by
  unfold impl_applied
  refine Ci Tryz.func85 r r ?_
  rintro w S ⟨Z0,Z1,-⟩
  refine Sr<|Qs 1 r<|Nx<|Sr<|Qs 1 r<|Bi fun R1 H2=>Fo (Cl [] slices_Clone_74624_c H2 r r1 ⟨(Bc Z0),⟨⟩⟩) fun Y3=>Qs 1 r<|Nx<|Sq<|Sr<|Qs 1 r<|Yo (Ln ke44 (Bc Z1) r)<|Qs 1 r<|Nx<|Jn Value [] [] (fun _ X=>[(5, X)]) (fun T X=>[.own X (lc T)]) r2 r2 (?_) fun T6 X7=>?_
  ·refine Wb<|Lp Value [10,11] [] (fun T X=>[(5, X), (12, iv T.1)]) (fun T X=>[.own X (lc T.2)]) Y3 [0] r2 r2 fun S4 X5=>Sr<|Qs 1 r<|Nx<|Sq<|Wc r (fun H8=>?_) fun H8=>?_
   ·refine Sn<|Sq<|Wb<|Sr<|Bi fun E9 H10=>Yo (Ix ke44 (Bc Z1) H10 r)<|Yo (Le kk98 (Bc Z1) H10 r)<|Fo (Al kz98 r) fun B11=>Fu (Sb 0 kk98 r (Cp r) r)<|Nx<|Sr<|Yo (Fb kf98_1 r)<|Yo (Lb 0 kk4 r)<|Nx<|Jn Value [10,11,12] [] (fun _ X=>[(5, X)]) (fun T X=>[.own X (lc T)]) r2 r2 (?_) fun T12 X13=>?_
    ·exact Wc r (fun H14=>Rg<|Qs 1 r<|Yo (Fb kf98_0 r)<|Yo (Lb 0 kk9 r)<|Bi fun R15 H16=>Fo (Cl [1] impl_dropKey_c H16 r r1) fun Y17=>Qs 1 r<|Nl<|Jg Y17 [0]) fun H14=>Rg<|Qs 1 r<|Yo (Fb kf98_0 r)<|Yo (Lb 0 kk9 r)<|Yo (Fb kf98_2 r)<|Yo (Lb 0 kk9 r)<|Bi fun R18 H19=>Fo (Cl [1] impl_setKey_c H19 r r1) fun Y20=>Qs 1 r<|Nl<|Jg Y20 [0]
    exact Bn<|Ne<|Rg<|Qs 2 r<|Nl<|Lg X13 [0]
   exact Wx<|Tx<|Ex<|Be<|Jg X5 [0]
  exact Ne<|Sr<|Qs 2 r<|Nx<|Wr<|Re X7 [0]
noncomputable def impl_bytesOf (m : List KV) : Option Int :=
  bindC (loopO (fun (S1 : Int × Int) => if (decide (S1.2 < ((m.length : Nat) : Int))) = true then ((idx m S1.2).bind fun E6 =>
  some (.go (IntKind.i64.wrap (S1.1 + (IntKind.i64.wrap (((E6.Key.length : Nat) : Int) + ((E6.Val.length : Nat) : Int)))), IntKind.i64.wrap (S1.2 + (1 : Int)))))
  else (some (.done (.go S1.1))))
  ((0 : Int), (0 : Int)))
  (fun (T3 : Int) => some T3)
theorem impl_bytesOf_c {m : List KV} {U0 : Value} : Cn Tryz.prog 82 [U0] [] [(U0, lc m)] (impl_bytesOf m) (fun r (_ : Unit) => iv r) fun _ _ => [] := by
  unfold impl_bytesOf
  refine Ci Tryz.func82 r r ?_
  rintro w S ⟨Z0,-⟩
  refine Sr<|Qs 1 r<|Nx<|Sr<|Qs 1 r<|Nx<|Sq<|Sr<|Qs 1 r<|Yo (Ln ke39 (Bc Z0) r)<|Qs 1 r<|Nx<|Ju [] (fun T=>[(3, iv T)]) r1 (?_) fun T3=>?_
  ·refine Wb<|Lu [6,7] (fun T=>[(3, iv T.1), (8, iv T.2)]) r1 fun S1=>Sr<|Qs 1 r<|Nx<|Sq<|Wc r (fun H5=>?_) fun H5=>?_
   ·exact Sn<|Sq<|Wb<|Sr<|Bi fun E6 H7=>Yo (Ix ke39 (Bc Z0) H7 r)<|Yo (Le kk100 (Bc Z0) H7 r)<|Fo (Al kz100 r) fun B8=>Fu (Sb 0 kk100 r (Cp r) r)<|Nx<|Rg<|Qs 1 r<|Yo (Fb kf100_0 r)<|Yo (Lb 0 kk9 r)<|Yo (Y.slen ks9 r)<|Yo (Fb kf100_1 r)<|Yo (Lb 0 kk9 r)<|Yo (Y.slen ks9 r)<|Qs 3 r<|Nl<|Bn<|Ne<|Rg<|Qs 2 r<|Nl<|Lg () []
   exact Wx<|Tx<|Ex<|Be<|Jg () []
  exact Ne<|Sr<|Qs 2 r<|Nx<|Wr<|Re () []
noncomputable def impl_quotaOf (s : Shares) (tenant : Int) : Option Int :=
  bindC (loopO (fun (S2 : Int) => if (decide (S2 < ((s.List.length : Nat) : Int))) = true then ((idx s.List S2).bind fun E7 =>
  if (decide (E7.Tenant = tenant)) = true then (some (.done (.done E7.Quota)))
  else (some (.go (IntKind.i64.wrap (S2 + (1 : Int))))))
  else (some (.done (.go ()))))
  (0 : Int))
  (fun (T4 : Unit) => some (0 : Int))
theorem impl_quotaOf_c {s : Shares} {tenant : Int} {U0 : Value} : Cn Tryz.prog 127 [.agg #[iv s.Size, U0], iv tenant] [] [(U0, lc s.List)] (impl_quotaOf s tenant) (fun r (_ : Unit) => iv r) fun _ _ => [] := by
  unfold impl_quotaOf
  refine Ci Tryz.func127 r r ?_
  rintro w S ⟨Z0,-⟩
  refine Sr<|Fo (Bx r (Ca ⟨Op',Ob Z0,⟨⟩⟩)) fun B1=>Qs 1 r<|Nx<|Sq<|Sr<|Yo (Fb kf32_1 r)<|Yo (Lb 0 kk30 r)<|Yo (Ln ke30 (Bc Z0) r)<|Qs 1 r<|Nx<|Jn Unit [] [] (fun _ _=>[]) (fun _ _=>[]) r2 r2 (?_) fun T4 X5=>?_
  ·refine Wb<|Lp Unit [1,8,9] [] (fun T _=>[(10, iv T)]) (fun _ _=>[]) () [] r2 r2 fun S2 X3=>Sr<|Qs 1 r<|Nx<|Sq<|Wc r (fun H6=>?_) fun H6=>?_
   ·exact Sn<|Sq<|Wb<|Sr<|Bi fun E7 H8=>Yo (Ix ke30 (Bc Z0) H8 r)<|Yo (Le kk134 (Bc Z0) H8 r)<|Fo (Al kz134 r) fun B9=>Fu (Sb 0 kk134 r (Cp r) r)<|Nx<|Sr<|Yo (Fb kf134_0 r)<|Yo (Lb 0 kk3 r)<|Qs 2 r<|Nx<|Wc r (fun H10=>Sr<|Yo (Fb kf134_1 r)<|Yo (Lb 0 kk3 r)<|Qs 1 r<|Nx<|Wr<|Br<|Tr<|Er<|Br<|Jd<|Tr<|Re () []) fun H10=>Sk<|Bn<|Ne<|Rg<|Qs 2 r<|Nl<|Lg () []
   exact Wx<|Tx<|Ex<|Be<|Jg () []
  exact Ne<|Sr<|Qs 1 r<|Nx<|Wr<|Re () []
noncomputable def slices_Clone_6733 (s : List Op) : Option (List Op) :=
  (app 40 ([] : List Op) s).bind fun E4 =>
  some E4
theorem slices_Clone_6733_c {s : List Op} {U0 : Value} : Cn Tryz.prog 58 [U0] [] [(U0, lc s)] (slices_Clone_6733 s) (fun _ (X : Value) => X) fun r X => [.own X (lc r)] := by
  unfold slices_Clone_6733
  refine Ci Tryz.func58 r r ?_
  rintro w S ⟨Z0,-⟩
  exact Sr<|Qs 1 r<|Nx<|Sq<|Sr<|Qs 1 r<|Yo (Y.nileq ke44 (Bc Z0) r r)<|Nx<|TW.cond_nil (Bc Z0) r (fun hnil_=>by subst hnil_;show TW _ _ _ (some ([])) _ _ _ _ _;exact (Sr<|Qs 1 r<|Nx<|Wr<|Tr<|Ni 3<|Re (.slice none 0 0) [0]))<|Sn<|Sr<|Fo (Bs ([] : List Op) ke44 kz98) fun B2=>Qs 1 r<|Bi fun E4 H5=>Fo (Ap [0] H5 ke44 kz98 r (Bc Z0)) fun V3=>Qs 1 r<|Nx<|Wr<|Re V3 [0]
noncomputable def impl_lookUp (l : List KV) (key : List UInt8) : Option Reply :=
  (impl_findKey l key).bind fun R2 =>
  if (!R2.2) = true then ((impl_no (5 : Int)).bind fun R6 =>
  some R6)
  else ((idx l R2.1).bind fun E9 =>
  some ({ Code := (0 : Int), N := (0 : Int), Text := E9.Val, List := ([] : List KV) : Reply }))
theorem impl_lookUp_c {l : List KV} {key : List UInt8} {U0 : Value} : Cn Tryz.prog 79 [U0, strV key] [] [(U0, lc l)] (impl_lookUp l key) (fun r (X : Value) => .agg #[iv r.Code, iv r.N, strV r.Text, X]) fun r X => [.own X (lc r.List)] := by
  unfold impl_lookUp
  refine Ci Tryz.func79 r r ?_
  rintro w S ⟨Z0,-⟩
  refine Sr<|Fo (Al kz41 r) fun B1=>Nx<|Sr<|Qs 2 r<|Bi fun R2 H3=>Fo (Cl [] impl_findKey_c H3 r r1 ⟨(Bc Z0),⟨⟩⟩) fun _=>Qs 5 r<|Nx<|Sq<|Sr<|Qs 2 r<|Nx<|Wc r (fun H5=>?_) fun H5=>?_
  ·exact Sr<|Bi fun R6 H7=>Fo (Cl [] impl_no_c H7 r r1) fun Y8=>Fu (Sb 1 kk41 r (Ca ⟨Op',Op',Op',Ow' 0,⟨⟩⟩) r)<|Nx<|Wr<|Tr<|TE.leaf fun _ _ hf_ hs_ => ret_any (rs := [.cell 4 41]) (vs := [.agg #[iv R6.Code, iv R6.N, strV R6.Text, Y8]]) (.inl r) r (RV.cell 1 r r kk41 r ⟨⟩) hf_ hs_ ⟨Y8, r, hs_.pulls [0] r⟩
  exact Sn<|Sr<|Qs 2 r<|Bi fun E9 H10=>Yo (Ix ke39 (Bc Z0) H10 r)<|Yo (Fe kf100_1 (Bc Z0) H10 r)<|Yo (Le kk9 (Bc Z0) H10 r)<|Yo (Bd kp41 kz41 (Pc r (Cp r)<|Pz) r)<|Fu (Sb 0 kk41 r (Cp r) r)<|Nx<|Wr<|TE.leaf fun _ _ hf_ hs_ => ret_any (rs := [.cell 4 41]) (vs := [.agg #[iv (0 : Int), iv (0 : Int), strV E9.Val, .slice none 0 0]]) (.inl r) r (RV.cell 0 r r kk41 r ⟨⟩) hf_ hs_ ⟨(.slice none 0 0), r, (hs_.nilItem 2).pulls [0] r⟩
noncomputable def impl_within (key : List UInt8) (from_ : List UInt8) (to : List UInt8) : Option Bool :=
  (if (!(sLt key from_)) = true then (if (decide (to = ([]))) = true then (some true)
  else (some (sLt key to)))
  else (some false)).bind (fun (T1 : Bool) =>
  some T1)
theorem impl_within_c {key : List UInt8} {from_ : List UInt8} {to : List UInt8} : Cn Tryz.prog 129 [strV key, strV from_, strV to] [] [] (impl_within key from_ to) (fun r (_ : Unit) => .bool r) fun _ _ => [] := by
  unfold impl_within
  refine Ci Tryz.func129 r r ?_
  rintro w S -
  refine Sr<|Qs 1 r<|Nx<|Sq<|Jv [] (fun T=>[(6, .bool T)]) r1 (?_) fun T1=>?_
  ·exact Rg<|Qs 4 r<|It (fun H3=>Qg 3 (beq_tt H3) r r<|It (fun H4=>Of 3 (beq_tf H4) r r<|Yg (gdA (beq_tt H3)) (Pt H4 r)<|Yo (Pt H3 r)<|Qs 1 r<|Nl<|Bg () []) fun H4=>Qg 3 (beq_ff H4) r r<|Yg (gdA (beq_tt H3)) (Pf H4 r)<|Yo (Pt H3 r)<|Qs 1 r<|Nl<|Bg () []) fun H3=>Of 3 (beq_ft H3) r r<|Ou 3 r r<|Of 1 (beq_ft H3) r r<|Yo (Pf H3 r)<|Qs 1 r<|Nl<|Bg () []
  exact Ne<|Wr<|Re () []
noncomputable def impl_between (m : List KV) (from_ : List UInt8) (to : List UInt8) : Option (List KV) :=
  bindC (loopO (fun (S1 : Int × List KV) => if (decide (S1.1 < ((m.length : Nat) : Int))) = true then ((idx m S1.1).bind fun E6 =>
  (impl_within E6.Key from_ to).bind fun R9 =>
  bindC (if R9 = true then ((app 32 S1.2 ([E6])).bind fun E17 =>
  some (.go E17))
  else (some (.go S1.2)))
  (fun (T12 : List KV) => some (.go (IntKind.i64.wrap (S1.1 + (1 : Int)), T12))))
  else (some (.done (.go S1.2))))
  ((0 : Int), ([] : List KV)))
  (fun (T3 : List KV) => some T3)
theorem impl_between_c {m : List KV} {from_ : List UInt8} {to : List UInt8} {U0 : Value} : Cn Tryz.prog 80 [U0, strV from_, strV to] [] [(U0, lc m)] (impl_between m from_ to) (fun _ (X : Value) => X) fun r X => [.own X (lc r)] := by
  unfold impl_between
  refine Ci Tryz.func80 r r ?_
  rintro w S ⟨Z0,-⟩
  refine Sr<|Qs 1 r<|Nx<|Sr<|Qs 1 r<|Nx<|Sq<|Sr<|Qs 1 r<|Yo (Ln ke39 (Bc Z0) r)<|Qs 1 r<|Nx<|Jn Value [] [] (fun _ X=>[(7, X)]) (fun T X=>[.own X (lc T)]) r2 r2 (?_) fun T3 X4=>?_
  ·refine Wb<|Nw 2<|Lp Value [1,2,10,11] [] (fun T X=>[(7, X), (12, iv T.1)]) (fun T X=>[.own X (lc T.2)]) (.slice none 0 0) [0] r2 r2 fun S1 X2=>Sr<|Qs 1 r<|Nx<|Sq<|Wc r (fun H5=>?_) fun H5=>?_
   ·refine Sn<|Sq<|Wb<|Sr<|Bi fun E6 H7=>Yo (Ix ke39 (Bc Z0) H7 r)<|Yo (Le kk100 (Bc Z0) H7 r)<|Fo (Al kz100 r) fun B8=>Fu (Sb 0 kk100 r (Cp r) r)<|Nx<|Sr<|Yo (Fb kf100_0 r)<|Yo (Lb 0 kk9 r)<|Qs 2 r<|Bi fun R9 H10=>Fo (Cl [] impl_within_c H10 r r1) fun _=>Nx<|Jn Value [1,2,10,11,12] [] (fun _ X=>[(7, X)]) (fun T X=>[.own X (lc T)]) r2 r2 (Wc r (fun H14=>Rg<|Qs 1 r<|Yo (Lb 0 kk100 r)<|Fo (Bs [E6] ke39 kz100) fun B15=>Bi fun E17 H18=>Fo (Ap [2] H18 ke39 kz100 r (Oc 0 r)) fun V16=>Qs 1 r<|Nl<|Jg V16 [0]) fun H14=>Sk<|Jg X2 [1]) fun T12 X13=>?_
    exact Bn<|Ne<|Rg<|Qs 2 r<|Nl<|Lg X13 [0]
   exact Wx<|Tx<|Ex<|Be<|Jg X2 [0]
  exact Ne<|Sr<|Qs 2 r<|Nx<|Wr<|Re X4 [0]
end Go.Proofs.YtmigafjpdoeicaaGreat
