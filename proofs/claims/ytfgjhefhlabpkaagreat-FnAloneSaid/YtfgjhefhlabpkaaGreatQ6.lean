/-
  The functions that a law reaches, each as a pure function, with the proof that the program computes it, and the step from a pure law to the given statement. Conditions: none.
-/
import Derived.Test.YtfgjhefhlabpkaaGreatQ5
set_option linter.unusedVariables false
set_option maxRecDepth 100000
set_option maxHeartbeats 4000000
namespace Go.Proofs.YtfgjhefhlabpkaaGreat
open Go Sl
noncomputable def zbX (tl_:List STen) (t:Int):Option (Reply × List STen):=
 (idx tl_ t).bind fun E1=>
 (zb9 E1.Eng.Snaps E1.Eng.Seq).bind fun R6=>
 if R6=true then (some ((⟨0,E1.Eng.Seq,[],[]⟩:Reply),tl_))
 else (if decide ((E1.Eng.Snaps.length:Int)≥2) then ((zbq 4).bind fun R12=>
 some (R12,tl_))
 else ((app 8 E1.Eng.Snaps ([E1.Eng.Seq])).bind fun E17=>
 some ((⟨0,E1.Eng.Seq,[],[]⟩:Reply),(tl_.set t.toNat (⟨E1.Id,E1.Epoch,E1.Base,⟨E1.Eng.Mem,E1.Eng.Tables,E1.Eng.Seq,E17⟩⟩:STen)))))
theorem zg8 {tl_:List STen} {t:Int} {U0:Value} :Cn Tryz.prog 59 [elP U0 (t.toNat*7+0)] [.own U0 (lc tl_)] [] (zbX tl_ t) (fun r (X:Value)=>.agg #[iv r.1.Code,iv r.1.N,strV r.1.Text,X]) fun r X=>[.own U0 (lc r.2),.own X (lc r.1.List)]:=by
 unfold zbX
 refine Ci Tryz.func59 r r ?_
 rintro w S -
 refine Wi fun E1 H2=>TW.fact (zgc (Can.own 0 r) H2) fun H3=>Sr<|Fo (Al kz60 r) fun B4=>Nx<|Sr<|Qs 1 r<|Yo (Np H3 r)<|Yo (Fp zbh H3 r)<|Yo (Fp zcA H3 r)<|Yo (Le kk3 (Oc 1 r) H2 r)<|Qs 1 r<|Nx<|Sq<|Sr<|Qs 1 r<|Yo (Np H3 r)<|Yo (Fp zbh H3 r)<|Yo (Fp zfw H3 r)<|Gt (X:=Value × Value × Value) (Ho 3 [1] H2 r r1) fun X5=>Yo (Lh 0 kk53 H2 r)<|Qs 1 r<|Bi fun R6 H7=>Fo (Cl [] zhN H7 r r1 ⟨(Oc 3 r),⟨⟩⟩) fun _=>Nx<|Wc r (fun H9=>Sr<|Qs 1 r<|Yo (Bd kp60 kz60 (Pc r (Cp r)<|Pz) r)<|Fu (Sb 4 kk60 r (Cp r) r)<|Nx<|Wr<|Tr<|Ke (Hs [0,0,0,0] H2 r (Ck (Ck (Ck (Cf (Cf (Ck (Cf Cz))))))))<|Ni 2<|Rf (.slice none 0 0) [1,0] (RV.cell 2 r r kk60 r Rz)) fun H9=>?_
 refine Sn<|Sq<|Sr<|Qs 1 r<|Yo (Np H3 r)<|Yo (Fp zbh H3 r)<|Yo (Fp zfw H3 r)<|Yo (Lh 0 kk53 H2 r)<|Yo (Ln ke53 (Oc 3 r) r)<|Qs 1 r<|Nx<|Wc r (fun H11=>Sr<|Bi fun R12 H13=>Fo (Cl [] zbc H13 r r1) fun Y14=>Fu (Sb 5 kk60 r (Ca ⟨Op',Op',Op',Ow' 0,⟨⟩⟩) r)<|Nx<|Wr<|Tr<|Ke (Hs [1,1,1,1] H2 r (Ck (Ck (Ck (Cf (Cf (Ck (Cf Cz))))))))<|Rf Y14 [0,0] (RV.cell 2 r r kk60 r Rz)) fun H11=>Sn<|Sr<|Qs 2 r<|Yo (Np H3 r)<|Yo (Fp zbh H3 r)<|Yo (Fp zfw H3 r)<|Yo (Lh 0 kk53 H2 r)<|Qs 1 r<|Fo (Bs [E1.Eng.Seq] ke53 kz3) fun B15=>Bi fun E17 H18=>?_
 exact Fo (Ap [4] H18 ke53 kz3 r (Oc 0 r)) fun V16=>Yo (Np H3 r)<|Yo (Fp zbh H3 r)<|Yo (Fp zfw H3 r)<|Fu (Sh 2 [.raw V16] kk53 H2 r (Co 0) r)<|Nx<|Sr<|Qs 1 r<|Yo (Bd kp60 kz60 (Pc r (Cp r)<|Pz) r)<|Fu (Sb 5 kk60 r (Cp r) r)<|Nx<|Wr<|Ke (Hc [2,2,2,0] (⟨E1.Id,E1.Epoch,E1.Base,⟨E1.Eng.Mem,E1.Eng.Tables,E1.Eng.Seq,E17⟩⟩:STen) H2 r (Ck (Ck (Ck (Cf (Cf (Ck (Cf Cz))))))))<|Ni 2<|Rf (.slice none 0 0) [1,0] (RV.cell 3 r r kk60 r Rz)
noncomputable def zci (s:Store) (c:Call):Option (Reply × Store):=
 (zc7 s.Secret c.Token).bind fun R3=>
 (zbN s R3.1).bind fun R6=>
 (if !R3.2.2 then (some true)
 else (if decide (R6<0) then (some true)
 else ((idx s.Tens R6).bind fun E13=>
 some (!(decide (E13.Epoch=R3.2.1)))))).bind (fun (T9:Bool)=>
 if T9=true then ((zbq 2).bind fun R17=>
 some (R17,s))
 else ((idx s.Tens R6).bind fun E20=>
 if decide (c.Kind=5) then ((zbg s R6 c).bind fun R24=>
 some (R24.1,(⟨R24.2.Secret,⟨R24.2.Keys.Master,s.Keys.Slots,R24.2.Keys.Wiped⟩,⟨R24.2.Shares.Size,s.Shares.List⟩,R24.2.Tens,R24.2.Rows,R24.2.Hist,R24.2.Boot⟩:Store)))
 else (if decide (c.Kind=6) then ((zbf s.Tens R6 c.Key E20.Eng.Seq).bind fun R28=>
 some (R28,s))
 else (if decide (c.Kind=7) then ((zby s.Tens R6).bind fun R32=>
 (zeO R32 c.Key c.To).bind fun R35=>
 some ((⟨0,0,[],R35⟩:Reply),s))
 else (if decide (c.Kind=8) then ((zbX s.Tens R6).bind fun R39=>
 some (R39.1,(⟨s.Secret,s.Keys,s.Shares,R39.2,s.Rows,s.Hist,s.Boot⟩:Store)))
 else (if decide (c.Kind=11) then ((zby s.Tens R6).bind fun R43=>
 (zd3 R43).bind fun R46=>
 some ((⟨0,R46,[],[]⟩:Reply),s))
 else ((zbn E20.Eng.Snaps c.N).bind fun R54=>
 if decide (R54<0) then ((zbq 5).bind fun R58=>
 some (R58,s))
 else (if decide (c.Kind=10) then ((zbf s.Tens R6 c.Key c.N).bind fun R62=>
 some (R62,s))
 else ((zcm E20.Eng.Snaps R54 (IntKind.i64.wrap (R54+1))).bind fun R65=>
 some ((⟨0,0,[],[]⟩:Reply),(⟨s.Secret,s.Keys,s.Shares,s.Tens.set R6.toNat (⟨E20.Id,E20.Epoch,E20.Base,⟨E20.Eng.Mem,E20.Eng.Tables,E20.Eng.Seq,R65⟩⟩),s.Rows,s.Hist,s.Boot⟩:Store)))))))))))
theorem ziv {s:Store} {c:Call} {U0 U1 U2 U3 U4 U6:Value} {U5:Nat} :Cn Tryz.prog 32 [pt U5,.agg #[iv c.Kind,strV c.Token,iv c.Tenant,iv c.N,strV c.Key,strV c.To,U6]] [.box U5 39 [strV s.Secret,strV s.Keys.Master,U0,iv s.Keys.Wiped,iv s.Shares.Size,U1,U2,U3,U4,iv s.Boot],.own U2 (lc s.Tens),.own U3 (lc s.Rows),.own U4 (lc s.Hist)] [(U0,lc s.Keys.Slots),(U1,lc s.Shares.List),(U6,lc c.Ops)] (zci s c) (fun r (X:Value × Value × Value)=>.agg #[iv r.1.Code,iv r.1.N,strV r.1.Text,X.1]) fun r X=>[.box U5 39 [strV r.2.Secret,strV r.2.Keys.Master,U0,iv r.2.Keys.Wiped,iv r.2.Shares.Size,U1,U2,X.2.1,X.2.2,iv r.2.Boot],.own U2 (lc r.2.Tens),.own X.2.1 (lc r.2.Rows),.own X.2.2 (lc r.2.Hist),.own X.1 (lc r.1.List)]:=by
 unfold zci
 refine Ci Tryz.func32 r r ?_
 rintro w S ⟨Z0,Z1,Z2,-⟩
 refine Sr<|Fo (Bx r (Ca ⟨Op',Op',Op',Op',Op',Op',Ob Z2,⟨⟩⟩)) fun B1=>Fo (Al kz60 r) fun B2=>Nx<|Sq<|Dr [0,0,0,0,0,0] r hMix<|Aq [0,1] [0,0,0,0,0,0] r<|Ay 2 [0,0,0,0,0,0] r (Fb zov r)<|Ay 3 [0,0,0,0,0,0] r (Lb 2 kk9 r)<|Ay 4 [0,0,0,0,0,0] r (Fb zj9 r)<|Ay 5 [0,0,0,0,0,0] r (Lb 1 kk9 r)<|Ai fun R3 H4=>A1 6<|Xe [0,0,0,0,0,0] r (Cl [] zhx H4 r r1) fun _=>Aq [7,8,9,10,11,12,13] [0,0,0,0,0,0] r<|Az<|Ne<|Sr<|Qs 2 r<|Bi fun R6 H7=>Fo (Cl [2] zdF H7 r r1 ⟨(Oc 2 r),⟨⟩⟩) fun _=>Qs 1 r<|Nx<|Sq<|Sq<|Jv [0,3,4,8] (fun T=>[(42,.bool T)]) r1 (?_) fun T9=>?_
 ·exact Rg<|Qs 3 r<|It (fun H11=>Of 2 (zl H11) r r<|Yo (Pt H11 r)<|Qs 1 r<|Of 10 r r r<|Yo (Pt r r)<|Nl<|Bg () [0,0,0,0,0,0]) fun H11=>Qg 2 (za H11) r r<|Yo (Pf H11 r)<|Qs 1 r<|It (fun H12=>Of 10 (zl H12) r r<|Yo (Pt H12 r)<|Nl<|Bg () [0,0,0,0,0,0]) fun H12=>Qg 2 (za H12) r r<|Yg (gdA (za H12)) (Fb zdk r)<|Yg (gdA (za H12)) (Lb 0 kk36 r)<|Qg 1 (za H12) r r<|Bi fun E13 H14=>Yg (gdA (za H12)) (Ix ke36 (Oc 3 r) H14 r)<|TO.fact (zgc (Can.own 3 r) H14) fun H15=>Yg (gdA (za H12)) (Fp ziG H15 r)<|Yg (gdA (za H12)) (Le kk3 (Oc 3 r) H14 r)<|Qg 2 (za H12) r r<|Yo (Pf H12 r)<|Nl<|Bg () [0,0,0,0,0,0]
 refine Ne<|Wc r (fun H16=>Sr<|Bi fun R17 H18=>Fo (Cl [] zbc H18 r r1) fun Y19=>Fu (Sb 2 kk60 r (Ca ⟨Op',Op',Op',Ow' 0,⟨⟩⟩) r)<|Nx<|Wr<|Tr<|Rf (Y19,U3,U4) [1,3,3,3,0] (RV.cell 2 r r kk60 r Rz)) fun H16=>Sn<|Sr<|Qs 2 r<|Yo (Fb zdk r)<|Yo (Lb 0 kk36 r)<|Qs 1 r<|Bi fun E20 H21=>Yo (Ix ke36 (Oc 3 r) H21 r)<|TO.fact (zgc (Can.own 3 r) H21) fun H22=>Qs 1 r<|Nx<|Sq<|Sr<|Yo (Fb z7 r)<|Yo (Lb 2 kk3 r)<|Nx<|Wb<|Sr<|Qs 2 r<|Nx<|Wc r (fun H23=>?_) fun H23=>?_
 ·exact Sr<|Qs 2 r<|Yo (Lb 2 kk29 r)<|Bi fun R24 H25=>Fo (Cl [0,2,2,2] zf5 H25 r r1 ⟨(Bc Z0),(Bc Z1),(Bc Z2),⟨⟩⟩) fun Y26=>Fu (Sb 5 kk60 r (Ca ⟨Op',Op',Op',Ow' 4,⟨⟩⟩) r)<|Nx<|Wr<|Br<|Tr<|Rf (Y26.1,Y26.2.1,Y26.2.2) [0,0,0,0,0] (RV.cell 5 r r kk60 r Rz)
 refine Sr<|Qs 2 r<|Nx<|Wc r (fun H27=>?_) fun H27=>?_
 ·exact Sq<|Dr [0,1,1,1,1] r hMix<|Aq [0] [0,1,1,1,1] r<|Ay 1 [0,1,1,1,1] r (Fb zf8 r)<|Ay 2 [0,1,1,1,1] r (Lb 1 kk9 r)<|Aq [3] [0,1,1,1,1] r<|Ay 4 [0,1,1,1,1] r (Np H22 r)<|Ay 5 [0,1,1,1,1] r (Fp zbh H22 r)<|Ay 6 [0,1,1,1,1] r (Fp zcA H22 r)<|Ay 7 [0,1,1,1,1] r (Le kk3 (Oc 2 r) H21 r)<|Ai fun R28 H29=>A1 8<|Xe [1,2,2,2,2] r (Cl [] zep H29 r r1 ⟨(Oc 3 r),⟨⟩⟩) fun Y30=>A1 9<|Xu [1,2,2,2,2] r (Sb 2 kk60 r (Ca ⟨Op',Op',Op',Ow' 0,⟨⟩⟩) r)<|Az<|Ne<|Wr<|Br<|Tr<|Rf (Y30,U3,U4) [1,3,3,3,0] (RV.cell 2 r r kk60 r Rz)
 refine Sr<|Qs 2 r<|Nx<|Wc r (fun H31=>?_) fun H31=>?_
 ·exact Sq<|Dr [0,1,1,1,1] r hMix<|Aq [0] [0,1,1,1,1] r<|Ay 2 [0,1,1,1,1] r (Fb zf8 r)<|Ay 3 [0,1,1,1,1] r (Lb 1 kk9 r)<|Ay 4 [0,1,1,1,1] r (Fb zrw r)<|Ay 5 [0,1,1,1,1] r (Lb 1 kk9 r)<|Ai fun R32 H33=>A1 1<|Xe [1,2,2,2,2] r (Cl [] zd8 H33 r r1 ⟨(Oc 3 r),⟨⟩⟩) fun Y34=>Ai fun R35 H36=>A1 6<|Xe [2,3,3,3,3] r (Cl [] zmK H36 r r1 ⟨(Oc 0 r),⟨⟩⟩) fun Y37=>A1 7<|Xy [2,3,3,3,3] r (Bd kp60 kz60 (Pc r (Co 0)<|Pz) r)<|A1 8<|Xu [2,3,3,3,3] r (Sb 3 kk60 r (Ca ⟨Op',Op',Op',Ow' 0,⟨⟩⟩) r)<|Az<|Ne<|Wr<|Br<|Tr<|Rf (Y37,U3,U4) [2,4,4,4,0] (RV.cell 3 r r kk60 r Rz)
 refine Sr<|Qs 2 r<|Nx<|Wc r (fun H38=>Sr<|Qs 1 r<|Bi fun R39 H40=>Fo (Cl [3] zg8 H40 r r1) fun Y41=>Fu (Sb 3 kk60 r (Ca ⟨Op',Op',Op',Ow' 1,⟨⟩⟩) r)<|Nx<|Wr<|Br<|Tr<|Rf (Y41,U3,U4) [2,0,3,3,0] (RV.cell 3 r r kk60 r Rz)) fun H38=>Sr<|Qs 2 r<|Nx<|Wc r (fun H42=>?_) fun H42=>?_
 ·exact Sr<|Qs 1 r<|Bi fun R43 H44=>Fo (Cl [] zd8 H44 r r1 ⟨(Oc 3 r),⟨⟩⟩) fun Y45=>Bi fun R46 H47=>Fo (Cl [] ziw H47 r r1 ⟨(Oc 0 r),⟨⟩⟩) fun _=>Yo (Bd kp60 kz60 (Pc r (Cp r)<|Pz) r)<|Fu (Sb 2 kk60 r (Cp r) r)<|Nx<|Wr<|Br<|Tr<|Ni 2<|Rf ((.slice none 0 0),U3,U4) [2,4,4,4,0] (RV.cell 3 r r kk60 r Rz)
 refine Sk<|Bn<|Ne<|Sq<|Dr [0,0,0,1,1] r hMix<|Aq [0] [0,0,0,1,1] r<|Ay 1 [0,0,0,1,1] r (Np H22 r)<|Ay 2 [0,0,0,1,1] r (Fp zbh H22 r)<|Ay 3 [0,0,0,1,1] r (Fp zfw H22 r)<|Ay 5 [0,0,0,1,1] r (Fb zdI r)<|Ay 6 [0,0,0,1,1] r (Lb 2 kk3 r)<|Ga (X:=Value × Value × Value) (Ho 3 [3] H21 r r1) fun X53=>A1 4<|Xy [4,4,4,4,4] r (Lh 0 kk53 H21 r)<|Ai fun R54 H55=>A1 7<|Xe [4,4,4,4,4] r (Cl [] zgd H55 r r1 ⟨(Oc 3 r),⟨⟩⟩) fun _=>Aq [8] [4,4,4,4,4] r<|Az<|Ne<|Sq<|Sr<|Qs 2 r<|Nx<|Wc r (fun H57=>Sr<|Bi fun R58 H59=>Fo (Cl [] zbc H59 r r1) fun Y60=>Fu (Sb 6 kk60 r (Ca ⟨Op',Op',Op',Ow' 0,⟨⟩⟩) r)<|Nx<|Wr<|Tr<|Ke (Hs [1,1,1,1] H21 r (Ck (Ck (Ck (Cf (Cf (Ck (Cf Cz))))))))<|Rf (Y60,U3,U4) [2,0,3,3,0] (RV.cell 3 r r kk60 r Rz)) fun H57=>?_
 refine Sn<|Sq<|Sr<|Yo (Fb z7 r)<|Yo (Lb 6 kk3 r)<|Qs 1 r<|Nx<|Wc r (fun H61=>?_) fun H61=>?_
 ·exact Sr<|Qs 1 r<|Yo (Fb zf8 r)<|Yo (Lb 6 kk9 r)<|Yo (Fb zdI r)<|Yo (Lb 6 kk3 r)<|Kt (Hs [0,0,0,0] H21 r (Ck (Ck (Ck (Cf (Cf (Ck (Cf Cz))))))))<|Bi fun R62 H63=>Fo (Cl [] zep H63 r r1 ⟨(Oc 0 r),⟨⟩⟩) fun Y64=>Fu (Sb 3 kk60 r (Ca ⟨Op',Op',Op',Ow' 0,⟨⟩⟩) r)<|Nx<|Wr<|Tr<|Rf (Y64,U3,U4) [2,1,3,3,0] (RV.cell 3 r r kk60 r Rz)
 exact Sn<|Sr<|Qs 2 r<|Yo (Np H22 r)<|Yo (Fp zbh H22 r)<|Yo (Fp zfw H22 r)<|Yo (Lh 0 kk53 H21 r)<|Qs 3 r<|Bi fun R65 H66=>Fo (Cl [3] ziN H66 r r1) fun Y67=>Yo (Np H22 r)<|Yo (Fp zbh H22 r)<|Yo (Fp zfw H22 r)<|Fu (Sh 1 [.raw Y67] kk53 H21 r (Co 0) r)<|Nx<|Sr<|Yo (Bd kp60 kz60 (Pz) r)<|Fu (Sb 5 kk60 r (Cp r) r)<|Nx<|Wr<|Ke (Hc [1,1,1,0] (⟨E20.Id,E20.Epoch,E20.Base,⟨E20.Eng.Mem,E20.Eng.Tables,E20.Eng.Seq,R65⟩⟩:STen) H21 r (Ck (Ck (Ck (Cf (Cf (Ck (Cf Cz))))))))<|Ni 2<|Rf ((.slice none 0 0),U3,U4) [2,1,3,3,0] (RV.cell 3 r r kk60 r Rz)
noncomputable def zdG (s:Store):Option (Reply × Store):=
 bindC (loopO (fun (S2:Int × List LogRow)=>if decide (S2.1<(s.Rows.length:Int)) then ((idx S2.2 S2.1).bind fun E7=>
 some (.go (IntKind.i64.wrap (S2.1+1),(S2.2.set S2.1.toNat (⟨E7.Tenant,E7.Boot,E7.Seq,E7.Text,true⟩:LogRow)))))
 else (some (.done (.go S2.2))))
 ((0:Int),s.Rows))
 (fun (T4:List LogRow)=>some ((⟨0,0,[],[]⟩:Reply),(⟨s.Secret,s.Keys,s.Shares,s.Tens,T4,s.Hist,s.Boot⟩:Store)))
theorem zkO {s:Store} {U0 U1 U2 U3 U4:Value} {U5:Nat} :Cn Tryz.prog 33 [pt U5] [.box U5 39 [strV s.Secret,strV s.Keys.Master,U0,iv s.Keys.Wiped,iv s.Shares.Size,U1,U2,U3,U4,iv s.Boot],.own U3 (lc s.Rows)] [] (zdG s) (fun r (X:Value)=>.agg #[iv r.1.Code,iv r.1.N,strV r.1.Text,X]) fun r X=>[.box U5 39 [strV r.2.Secret,strV r.2.Keys.Master,U0,iv r.2.Keys.Wiped,iv r.2.Shares.Size,U1,U2,U3,U4,iv r.2.Boot],.own U3 (lc r.2.Rows),.own X (lc r.1.List)]:=by
 unfold zdG
 refine Ci Tryz.func33 r r ?_
 rintro w S -
 refine Sr<|Fo (Al kz60 r) fun B1=>Nx<|Sq<|Sr<|Qs 2 r<|Yo (Fb zfv r)<|Yo (Lb 1 kk37 r)<|Yo (Ln ke37 (Oc 2 r) r)<|Qs 1 r<|Nx<|Jn Unit [2] [0,0] (fun _ _=>[]) (fun T _=>[.own U3 (lc T)]) r2 r2 (?_) fun T4 X5=>?_
 ·refine Wb<|Lp Unit [0,2,8] [1,0] (fun T _=>[(9,iv T.1)]) (fun T _=>[.own U3 (lc T.2)]) () [1,0,0] r2 r2 fun S2 X3=>Sr<|Qs 1 r<|Nx<|Sq<|Wc r (fun H6=>?_) fun H6=>?_
  ·exact Sn<|Sq<|Wb<|Sr<|Qs 2 r<|Nx<|Rg<|Qs 2 r<|Yo (Fb zfv r)<|Yo (Lb 0 kk37 r)<|Qs 1 r<|Bi fun E7 H8=>Yo (Ix ke37 (Oc 2 r) H8 r)<|Yo (Fe zkv (Oc 2 r) H8 r)<|Fu (Se (⟨E7.Tenant,E7.Boot,E7.Seq,E7.Text,true⟩:LogRow) 2 kk4 H8 r (Cp r) r)<|Nl<|Bn<|Ne<|Rg<|Qs 2 r<|Nl<|Lg () [0,0,0]
  exact Wx<|Tx<|Ex<|Be<|Jg () [1,0,0]
 exact Ne<|Sr<|Yo (Bd kp60 kz60 (Pz) r)<|Fu (Sb 0 kk60 r (Cp r) r)<|Nx<|Wr<|Ni 2<|Rf (.slice none 0 0) [2,2,0] (RV.cell 1 r r kk60 r Rz)
noncomputable def zcp (r_:Reader):Option (Bool × Reader):=
 (zbt r_ 1).bind fun R1=>
 (if !(decide (R1.1=([0]))) then (some (!(decide (R1.1=([1])))))
 else (some false)).bind (fun (T4:Bool)=>
 bindC (if T4=true then (some (.go true))
 else (some (.go R1.2.bad)))
 (fun (T7:Bool)=>some (decide (R1.1=([1])),(⟨R1.2.text,R1.2.at_,T7⟩:Reader))))
theorem zj4 {r_:Reader} {U0:Nat} :Cn Tryz.prog 183 [pt U0] [.box U0 111 [strV r_.text,iv r_.at_,.bool r_.bad]] [] (zcp r_) (fun r (_:Unit)=>.bool r.1) fun r _=>[.box U0 111 [strV r.2.text,iv r.2.at_,.bool r.2.bad]]:=by
 unfold zcp
 refine Ci Tryz.func183 r r ?_
 rintro w S -
 exact Sr<|Qs 1 r<|Nx<|Sr<|Qs 1 r<|Bi fun R1 H2=>Fo (Cl [0] zey H2 r r1) fun _=>Qs 1 r<|Nx<|Sq<|Sq<|Jv [0,3] (fun T=>[(11,.bool T)]) r1 (Rg<|Qs 3 r<|It (fun H6=>Qg 2 (zd H6) r r<|Yo (Pt H6 r)<|Nl<|Bg () [0]) fun H6=>Of 2 (zt H6) r r<|Yo (Pf H6 r)<|Nl<|Bg () [0]) fun T4=>Ne<|Jn Unit [3] [] (fun _ _=>[]) (fun T _=>[.box U0 111 [strV R1.2.text,iv R1.2.at_,.bool T]]) r2 r2 (Wc r (fun H9=>Rg<|Qs 2 r<|Yo (Fb zgs r)<|Fu (Sb 0 kk4 r (Cp r) r)<|Nl<|Jg () [0]) fun H9=>Sk<|Jg () [0]) fun T7 X8=>Ne<|Sr<|Qs 3 r<|Nx<|Wr<|Re () [0]
noncomputable def zbu (r_:Reader):Option (List UInt8 × Reader):=
 (zZ r_).bind fun R1=>
 (zbt R1.2 R1.1).bind fun R4=>
 some (R4.1,R4.2)
theorem zgo {r_:Reader} {U0:Nat} :Cn Tryz.prog 184 [pt U0] [.box U0 111 [strV r_.text,iv r_.at_,.bool r_.bad]] [] (zbu r_) (fun r (_:Unit)=>strV r.1) fun r _=>[.box U0 111 [strV r.2.text,iv r.2.at_,.bool r.2.bad]]:=by
 unfold zbu
 refine Ci Tryz.func184 r r ?_
 rintro w S -
 exact Sr<|Qs 1 r<|Nx<|Sr<|Qs 1 r<|Bi fun R1 H2=>Fo (Cl [0] zcY H2 r r1) fun _=>Qs 1 r<|Nx<|Sr<|Qs 2 r<|Bi fun R4 H5=>Fo (Cl [0] zey H5 r r1) fun _=>Qs 1 r<|Nx<|Wr<|Re () [0]
noncomputable def zdX (s:List UInt8):Option (List Op × Bool):=
 (zZ (⟨s,0,false⟩:Reader)).bind fun R2=>
 bindC (loopO (fun (S5:List UInt8 × Int × Bool × Int × List Op)=>(if decide (S5.2.2.2.1<goMin R2.1 6) then (some (!S5.2.2.1))
 else (some false)).bind (fun (T9:Bool)=>
 if T9=true then ((zcp (⟨S5.1,S5.2.1,S5.2.2.1⟩:Reader)).bind fun R13=>
 (zbu R13.2).bind fun R17=>
 bindC (if !R13.1 then ((zbu R17.2).bind fun R23=>
 some (.go (R23.2.text,R23.2.at_,R23.2.bad,R23.1)))
 else (some (.go (R17.2.text,R17.2.at_,R17.2.bad,[]))))
 (fun (T20:List UInt8 × Int × Bool × List UInt8)=>(app 40 S5.2.2.2.2 ([(⟨R17.1,R13.1,T20.2.2.2⟩:Op)])).bind fun E28=>
 some (.go (T20.1,T20.2.1,T20.2.2.1,IntKind.i64.wrap (S5.2.2.2.1+1),E28))))
 else (some (.done (.go (S5.1,S5.2.1,S5.2.2.1,S5.2.2.2.2))))))
 (R2.2.text,R2.2.at_,R2.2.bad,(0:Int),([]:List Op)))
 (fun (T7:List UInt8 × Int × Bool × List Op)=>((zco (⟨T7.1,T7.2.1,T7.2.2.1⟩:Reader)).bind fun R32=>
 if !R32 then (some true)
 else (if !(decide ((T7.2.2.2.length:Int)=R2.1)) then (some true)
 else ((zcx T7.2.2.2).bind fun R37=>
 some (!R37)))).bind (fun (T30:Bool)=>
 if T30=true then (some ([],false))
 else (some (T7.2.2.2,true))))
theorem zll {s:List UInt8} :Cn Tryz.prog 152 [strV s] [] [] (zdX s) (fun r (X:Value)=>.tuple #[X,.bool r.2]) fun r X=>[.own X (lc r.1)]:=by
 unfold zdX
 refine Ci Tryz.func152 r r ?_
 rintro w S -
 refine Sr<|Qs 2 r<|Nx<|Sr<|Qs 1 r<|Yo (Bd kp111 kz111 (Pc r (Cp r)<|Pz) r)<|Fo (Al kz111 r) fun B1=>Fu (Sb 0 kk111 r (Cp r) r)<|Nx<|Sr<|Bi fun R2 H3=>Fo (Cl [0] zcY H3 r r1) fun _=>Qs 1 r<|Nx<|Sr<|Qs 1 r<|Nx<|Sq<|Sr<|Qs 1 r<|Nx<|Jn Value [4,5] [] (fun _ X=>[(6,X)]) (fun T X=>[.box B1 111 [strV T.1,iv T.2.1,.bool T.2.2.1],.own X (lc T.2.2.2)]) r2 r2 (?_) fun T7 X8=>?_
 ·refine Wb<|Nw 3<|Lp Value [4,5] [] (fun T X=>[(6,X),(7,iv T.2.2.2.1)]) (fun T X=>[.box B1 111 [strV T.1,iv T.2.1,.bool T.2.2.1],.own X (lc T.2.2.2.2)]) (.slice none 0 0) [1,0] r2 r2 fun S5 X6=>Sq<|Sq<|Jv [4,5,6,7] (fun T=>[(20,.bool T)]) r1 (Rg<|Qs 2 r<|Yo (Y.min2 r r)<|Qs 2 r<|It (fun H11=>Yg (gdA (zd H11)) (Fb zgs r)<|Yg (gdA (zd H11)) (Lb 0 kk4 r)<|Qg 1 (zd H11) r r<|Yo (Pt H11 r)<|Nl<|Bg () [0,0]) fun H11=>Of 3 (zt H11) r r<|Yo (Pf H11 r)<|Nl<|Bg () [0,0]) fun T9=>Ne<|Wc r (fun H12=>?_) fun H12=>?_
  ·refine Sn<|Sq<|Wb<|Sr<|Bi fun R13 H14=>Fo (Cl [0] zj4 H14 r r1) fun _=>Yo (Bd kp120 kz120 (Pc r (Cp r)<|Pz) r)<|Fo (Al kz120 r) fun B16=>Fu (Sb 0 kk120 r (Cp r) r)<|Nx<|Sr<|Bi fun R17 H18=>Fo (Cl [1] zgo H18 r r1) fun _=>Yo (Fb zev r)<|Fu (Sb 1 kk9 r (Cp r) r)<|Nx<|Sq<|Sr<|Yo (Fb zff r)<|Yo (Lb 1 kk4 r)<|Qs 1 r<|Nx<|Jn Unit [4,5,6,7,8] [2] (fun _ _=>[]) (fun T _=>[.box B1 111 [strV T.1,iv T.2.1,.bool T.2.2.1],.box B16 120 [strV R17.1,.bool R13.1,strV T.2.2.2]]) r2 r2 (Wc r (fun H22=>Rg<|Bi fun R23 H24=>Fo (Cl [0] zgo H24 r r1) fun _=>Yo (Fb zfg r)<|Fu (Sb 1 kk9 r (Cp r) r)<|Nl<|Jg () [2,0,0]) fun H22=>Sk<|Jg () [2,0,0]) fun T20 X21=>?_
   exact Ne<|Rg<|Qs 1 r<|Yo (Lb 2 kk120 r)<|Fo (Bs [(⟨R17.1,R13.1,T20.2.2.2⟩:Op)] ke27 kz120) fun B26=>Bi fun E28 H29=>Fo (Ap [1] H29 ke27 kz120 r (Oc 0 r)) fun V27=>Qs 1 r<|Nl<|Bn<|Ne<|Rg<|Qs 3 r<|Nl<|Lg V27 [2,0]
  exact Wx<|Tx<|Ex<|Be<|Jg X6 [0,0]
 refine Ne<|Sq<|Sq<|Jb Unit [6] [1] (fun T _=>[(48,.bool T)]) (fun _ _=>[]) r2 r2 (?_) fun T30 X31=>?_
 ·exact Rg<|Bi fun R32 H33=>Fo (Cl [0] zgB H33 r r1) fun _=>Qs 2 r<|It (fun H35=>Of 4 (zl H35) r r<|Yo (Pt H35 r)<|Qs 1 r<|Of 3 r r r<|Yo (Pt r r)<|Nl<|Bg () [1]) fun H35=>Qg 1 (za H35) r r<|Yg (gdA (za H35)) (Ln ke27 (Oc 1 r) r)<|Qg 2 (za H35) r r<|Yo (Pf H35 r)<|Qs 1 r<|It (fun H36=>Of 3 (zl H36) r r<|Yo (Pt H36 r)<|Nl<|Bg () [1]) fun H36=>Qg 1 (za H36) r r<|Bi fun R37 H38=>Fg (gdA (za H36)) (Cl [] ze6 H38 r r1 ⟨(Oc 1 r),⟨⟩⟩) fun _=>Qg 1 (za H36) r r<|Yo (Pf H36 r)<|Nl<|Bg () [1]
 exact Ne<|Wc r (fun H40=>Sr<|Qs 2 r<|Nx<|Wr<|Tr<|Ni 3<|Re (.slice none 0 0) [0]) fun H40=>Sn<|Sr<|Qs 3 r<|Nx<|Wr<|Re X8 [0]
noncomputable def zc6 (key:List UInt8) (boot:Int) (seq:Int) (s:List UInt8):Option (List Op × Bool):=
 (if !(decide ((key.length:Int)=32)) then (some true)
 else ((zd6 boot seq).bind fun R4=>
 if !R4 then (some true)
 else (some (decide ((s.length:Int)>300))))).bind (fun (T1:Bool)=>
 if T1=true then (some ([],false))
 else ((zdz boot seq).bind fun R10=>
 (zc5 key 0 R10 s).bind fun R13=>
 (zdX R13).bind fun R16=>
 some (R16.1,R16.2)))
theorem zlk {key:List UInt8} {boot:Int} {seq:Int} {s:List UInt8} :Cn Tryz.prog 109 [strV key,iv boot,iv seq,strV s] [] [] (zc6 key boot seq s) (fun r (X:Value)=>.tuple #[X,.bool r.2]) fun r X=>[.own X (lc r.1)]:=by
 unfold zc6
 refine Ci Tryz.func109 r r ?_
 rintro w S -
 refine Sr<|Qs 2 r<|Nx<|Sq<|Sq<|Jv [0,1,2,3] (fun T=>[(23,.bool T)]) r1 (?_) fun T1=>?_
 ·exact Rg<|Qs 1 r<|Yo (Y.slen ks9 r)<|Qs 2 r<|It (fun H3=>Of 4 (zl H3) r r<|Yo (Pt H3 r)<|Qs 1 r<|Of 3 r r r<|Yo (Pt r r)<|Nl<|Bg () []) fun H3=>Qg 2 (za H3) r r<|Bi fun R4 H5=>Fg (gdA (za H3)) (Cl [] ziy H5 r r1) fun _=>Qg 1 (za H3) r r<|Yo (Pf H3 r)<|Qs 1 r<|It (fun H7=>Of 3 (zl H7) r r<|Yo (Pt H7 r)<|Nl<|Bg () []) fun H7=>Qg 1 (za H7) r r<|Yg (gdA (za H7)) (Y.slen ks9 r)<|Qg 1 (za H7) r r<|Yo (Pf H7 r)<|Nl<|Bg () []
 exact Ne<|Wc r (fun H8=>Sr<|Qs 2 r<|Nx<|Wr<|Tr<|Ni 3<|Re (.slice none 0 0) [0]) fun H8=>Sn<|Sr<|Qs 3 r<|Bi fun R10 H11=>Fo (Cl [] zh8 H11 r r1) fun _=>Qs 1 r<|Bi fun R13 H14=>Fo (Cl [] zhu H14 r r1) fun _=>Bi fun R16 H17=>Fo (Cl [] zll H17 r r1) fun Y18=>Qs 4 r<|Nx<|Wr<|Re Y18 [0]
noncomputable def zcj (s:Store) (t:STen) (rows:List LogRow):Option (Eng × Bool):=
 (zd4 t.Eng).bind fun R3=>
 (ze9 s.Keys t.Id).bind fun R13=>
 bindC (loopO (fun (S16:Int × Int × List Ent)=>if decide (S16.2.1<(rows.length:Int)) then ((idx rows S16.2.1).bind fun E21=>
 (zc6 R13 E21.Boot E21.Seq E21.Text).bind fun R24=>
 (if !R24.2 then (some (S16.1,true,S16.2.2))
 else ((zcF (⟨S16.2.2,R3.Tables,S16.1,[]⟩:Eng) R24.1).bind fun R30=>
 some (R30.2.Seq,!R30.1,R30.2.Mem))).bind (fun (T27:Int × Bool × List Ent)=>
 if T27.2.1=true then (some (.done (.done ((⟨[],[],0,[]⟩:Eng),false))))
 else (some (.go (T27.1,IntKind.i64.wrap (S16.2.1+1),T27.2.2)))))
 else (some (.done (.go (S16.1,S16.2.2)))))
 (t.Base,(0:Int),([]:List Ent)))
 (fun (T18:Int × List Ent)=>some ((⟨T18.2,R3.Tables,T18.1,[]⟩:Eng),true))
theorem zd2 {s:Store} {t:STen} {rows:List LogRow} {U0 U1 U2 U3 U4 U6 U7 U8 U9:Value} {U5:Nat} :Cn Tryz.prog 63 [pt U5,.agg #[iv t.Id,iv t.Epoch,iv t.Base,U6,U7,iv t.Eng.Seq,U8],U9] [.box U5 39 [strV s.Secret,strV s.Keys.Master,U0,iv s.Keys.Wiped,iv s.Shares.Size,U1,U2,U3,U4,iv s.Boot]] [(U0,lc s.Keys.Slots),(U6,lc t.Eng.Mem),(U7,lc t.Eng.Tables),(U8,lc t.Eng.Snaps),(U9,lc rows)] (zcj s t rows) (fun r (X:Value × Value × Value)=>.tuple #[.agg #[X.1,X.2.1,iv r.1.Seq,X.2.2],.bool r.2]) fun r X=>[.box U5 39 [strV s.Secret,strV s.Keys.Master,U0,iv s.Keys.Wiped,iv s.Shares.Size,U1,U2,U3,U4,iv s.Boot],.own X.1 (lc r.1.Mem),.own X.2.1 (lc r.1.Tables),.own X.2.2 (lc r.1.Snaps)]:=by
 unfold zcj
 refine Ci Tryz.func63 r r ?_
 rintro w S ⟨Z0,Z1,Z2,Z3,Z4,-⟩
 refine Sr<|Fo (Bx r (Ca ⟨Op',Op',Op',Ob Z1,Ob Z2,Op',Ob Z3,⟨⟩⟩)) fun B1=>Fo (Al kz93 r) fun B2=>Qs 1 r<|Nx<|Sq<|Wi fun R3 H4=>Jw (Nat × Value) [0,2,4,6] [2,1,0] (fun X=>[(8,pt X.1)]) (fun X=>[.box X.1 93 [.slice none 0 0,X.2,iv t.Base,.slice none 0 0],.own X.2 (lc R3.Tables)]) r1 r1 (?_) fun X10=>?_
 ·refine Dr [0,0,0] r hMix<|Ay 0 [0,0,0] r (Fb zbh r)<|Ay 1 [0,0,0] r (Lb 1 kk93 r)<|Ay 4 [0,0,0] r (Fb zl5 r)<|Ay 5 [0,0,0] r (Lb 1 kk3 r)<|A2 2 7 (?_)<|?_
  ·exact Xe [3,3,3] r (Cl [] zfb H4 r r1 ⟨(Bc Z1),(Bc Z2),(Bc Z3),⟨⟩⟩) fun Y11=>Ay 3 [3,3,3] r (Fy zrC kk91 r r)<|A2 6 7 (Xy [3,3,3] r (Bd kp93 kz93 (Pc r (Co 1)<|Pc r (Cp r)<|Pz) r)<|A1 7<|Xe [4,4,4] r (Al kz93 r) fun B14=>A1 8<|Xu [4,4,4] r (Sb 0 kk93 r (Ca ⟨Op',Ow' 2,Op',Op',⟨⟩⟩) r)<|Az<|Bg (B14,Y11.2.1) [6,5,4,0,1])<|Xe [4,4,4] r (Al kz93 r) fun B13=>A1 6<|Xy [4,4,4] r (Bd kp93 kz93 (Pc r (Co 2)<|Pc r (Cp r)<|Pz) r)<|A1 8<|Xu [4,4,4] r (Sb 0 kk93 r (Ca ⟨Op',Ow' 2,Op',Op',⟨⟩⟩) r)<|Az<|Bg (B13,Y11.2.1) [6,5,4,0,1]
  exact Xe [1,1,1] r (Al kz93 r) fun B12=>A1 2<|Xe [4,4,4] r (Cl [] zfb H4 r r1 ⟨(Bc Z1),(Bc Z2),(Bc Z3),⟨⟩⟩) fun Y13=>Ay 3 [4,4,4] r (Fy zrC kk91 r r)<|A1 6<|Xy [4,4,4] r (Bd kp93 kz93 (Pc r (Co 1)<|Pc r (Cp r)<|Pz) r)<|A1 8<|Xu [4,4,4] r (Sb 3 kk93 r (Ca ⟨Op',Ow' 1,Op',Op',⟨⟩⟩) r)<|Az<|Bg (B12,Y13.2.1) [6,5,4,3,1]
 refine Ne<|Sq<|Dr [0,0,0,0,0] r hMix<|Aq [0,1] [0,0,0,0,0] r<|Ay 2 [0,0,0,0,0] r (Fb zhC r)<|Ay 3 [0,0,0,0,0] r (Lb 0 kk32 r)<|Ay 4 [0,0,0,0,0] r (Fb zeS r)<|Ay 5 [0,0,0,0,0] r (Lb 1 kk3 r)<|Ai fun R13 H14=>A1 6<|Xe [0,0,0,0,0] r (Cl [] zjW H14 r r1 ⟨(Bc Z0),⟨⟩⟩) fun _=>Aq [7] [0,0,0,0,0] r<|Az<|Ne<|Sq<|Sr<|Qs 1 r<|Yo (Ln ke37 (Bc Z4) r)<|Qs 1 r<|Nx<|Jn Value [6,8] [2,0,2] (fun _ _=>[]) (fun T X=>[.box X10.1 93 [X,X10.2,iv T.1,.slice none 0 0],.own X (lc T.2)]) r2 r2 (?_) fun T18 X19=>?_
 ·refine Wb<|Nw 4<|Lp Value [6,8,9,28,29] [3,1,3] (fun T _=>[(30,iv T.2.1)]) (fun T X=>[.box X10.1 93 [X,X10.2,iv T.1,.slice none 0 0],.own X (lc T.2.2)]) (.slice none 0 0) [3,1,3,2,0] r2 r2 fun S16 X17=>Sr<|Qs 1 r<|Nx<|Sq<|Wc r (fun H20=>?_) fun H20=>?_
  ·refine Sn<|Sq<|Wb<|Sr<|Bi fun E21 H22=>Yo (Ix ke37 (Bc Z4) H22 r)<|Yo (Le kk106 (Bc Z4) H22 r)<|Fo (Al kz106 r) fun B23=>Fu (Sb 0 kk106 r (Cp r) r)<|Nx<|Sr<|Qs 1 r<|Yo (Fb zto r)<|Yo (Lb 0 kk3 r)<|Yo (Fb ztp r)<|Yo (Lb 0 kk3 r)<|Yo (Fb ztq r)<|Yo (Lb 0 kk9 r)<|Bi fun R24 H25=>Fo (Cl [] zlk H25 r r1) fun Y26=>Qs 5 r<|Nx<|Sq<|Jb Value [6,8,9,28,29,30] [2,2,2] (fun T _=>[(51,.bool T.2.1)]) (fun T X=>[.box X10.1 93 [X,X10.2,iv T.1,.slice none 0 0],.own X (lc T.2.2)]) r2 r2 (?_) fun T27 X28=>?_
   ·exact Rg<|Qs 3 r<|It (fun H29=>Of 3 (zl H29) r r<|Yo (Pt H29 r)<|Nl<|Bg X17 [2,2,2,2,2]) fun H29=>Qg 1 (za H29) r r<|Bi fun R30 H31=>Fg (gdA (za H29)) (Cl [5,5] zkI H31 r r1 ⟨(Oc 4 r),(Oc 0 r),⟨⟩⟩) fun Y32=>Qg 1 (za H29) r r<|Yo (Pf H29 r)<|Nl<|Bg Y32 [4,4,4,0,0]
   exact Ne<|Wc r (fun H33=>Sr<|Yo (Bd kp93 kz93 (Pz) r)<|Fu (Sb 0 kk93 r (Cp r) r)<|Qs 1 r<|Nx<|Wr<|Br<|Tr<|Er<|Br<|Jd<|Tr<|Ni 4<|Ni 1<|Ni 1<|Rf ((.slice none 0 0),(.slice none 0 0),(.slice none 0 0)) [4,2,1,0] (RV.cell 3 r r kk93 r (Rt r Rz))) fun H33=>Sk<|Bn<|Ne<|Rg<|Qs 2 r<|Nl<|Lg X28 [0,0,0,0,0]
  exact Wx<|Tx<|Ex<|Be<|Jg X17 [0,0,0,0,0]
 exact Ne<|Sr<|Yo (Lb 3 kk93 r)<|Fu (Sb 0 kk93 r (Ca ⟨Ow' 4,Ow' 2,Op',Op',⟨⟩⟩) r)<|Qs 1 r<|Nx<|Wr<|Ni 1<|Rf (X19,X10.2,(.slice none 0 0)) [2,4,2,0] (RV.cell 1 r r kk93 r (Rt r Rz))
noncomputable def zdf (s:Store) (n:Int):Option (Reply × Store):=
 if decide (s.Boot≥1000) then ((zbq 4).bind fun R3=>
 some (R3,s))
 else (bindC (loopO (fun (S6:Int × Int × List LogRow)=>if decide (S6.2.1<(s.Rows.length:Int)) then ((idx s.Rows S6.2.1).bind fun E11=>
 bindC (if !E11.Synced then (some (.go (IntKind.i64.wrap (S6.1 - 1))))
 else (some (.go S6.1)))
 (fun (T14:Int)=>(if E11.Synced=true then (some true)
 else (some (decide (T14≥0)))).bind (fun (T17:Bool)=>
 bindC (if T17=true then ((app 48 S6.2.2 ([(⟨E11.Tenant,E11.Boot,E11.Seq,E11.Text,true⟩:LogRow)])).bind fun E25=>
 some (.go E25))
 else (some (.go S6.2.2)))
 (fun (T20:List LogRow)=>some (.go (T14,IntKind.i64.wrap (S6.2.1+1),T20))))))
 else (some (.done (.go S6.2.2))))
 (goMax n 0,(0:Int),([]:List LogRow)))
 (fun (T8:List LogRow)=>bindC (loopO (fun (S27:Int × List STen)=>if decide (S27.1<(s.Tens.length:Int)) then ((idx S27.2 S27.1).bind fun E32=>
 (zcd (⟨s.Secret,s.Keys,s.Shares,S27.2,T8,s.Hist,s.Boot⟩:Store) E32.Id).bind fun R41=>
 (zcj (⟨s.Secret,s.Keys,s.Shares,S27.2,T8,s.Hist,s.Boot⟩:Store) E32 R41).bind fun R44=>
 some (.go (IntKind.i64.wrap (S27.1+1),(S27.2.set S27.1.toNat (⟨E32.Id,E32.Epoch,E32.Base,R44.1⟩:STen)))))
 else (some (.done (.go S27.2))))
 ((0:Int),s.Tens))
 (fun (T29:List STen)=>some ((⟨0,0,[],[]⟩:Reply),(⟨s.Secret,s.Keys,s.Shares,T29,T8,s.Hist,IntKind.i64.wrap (s.Boot+1)⟩:Store)))))
theorem zjX {s:Store} {n:Int} {U0 U1 U2 U3 U4:Value} {U5:Nat} :Cn Tryz.prog 34 [pt U5,iv n] [.box U5 39 [strV s.Secret,strV s.Keys.Master,U0,iv s.Keys.Wiped,iv s.Shares.Size,U1,U2,U3,U4,iv s.Boot],.own U2 (lc s.Tens),.own U3 (lc s.Rows)] [(U0,lc s.Keys.Slots)] (zdf s n) (fun r (X:Value × Value)=>.agg #[iv r.1.Code,iv r.1.N,strV r.1.Text,X.1]) fun r X=>[.box U5 39 [strV r.2.Secret,strV r.2.Keys.Master,U0,iv r.2.Keys.Wiped,iv r.2.Shares.Size,U1,U2,X.2,U4,iv r.2.Boot],.own U2 (lc r.2.Tens),.own X.2 (lc r.2.Rows),.own X.1 (lc r.1.List)]:=by
 unfold zdf
 refine Ci Tryz.func34 r r ?_
 rintro w S ⟨Z0,-⟩
 refine Sr<|Fo (Al kz60 r) fun B1=>Nx<|Sq<|Sr<|Qs 2 r<|Yo (Fb zgC r)<|Yo (Lb 1 kk3 r)<|Qs 1 r<|Nx<|Wc r (fun H2=>Sr<|Bi fun R3 H4=>Fo (Cl [] zbc H4 r r1) fun Y5=>Fu (Sb 1 kk60 r (Ca ⟨Op',Op',Op',Ow' 0,⟨⟩⟩) r)<|Nx<|Wr<|Tr<|Rf (Y5,U3) [2,2,2,0] (RV.cell 1 r r kk60 r Rz)) fun H2=>Sn<|Sr<|Qs 1 r<|Nx<|Sr<|Qs 1 r<|Yo (Y.max2 r r)<|Qs 1 r<|Nx<|Sq<|Sr<|Qs 2 r<|Yo (Fb zfv r)<|Yo (Lb 1 kk37 r)<|Yo (Ln ke37 (Oc 3 r) r)<|Qs 1 r<|Nx<|Jn Value [0,4] [1,0,0,0] (fun _ X=>[(5,X)]) (fun T X=>[.own X (lc T)]) r2 r2 (?_) fun T8 X9=>?_
 ·refine Wb<|Nw 5<|Lp Value [0,4,21,22] [2,1,1,1] (fun T X=>[(1,iv T.1),(5,X),(23,iv T.2.1)]) (fun T X=>[.own X (lc T.2.2)]) (.slice none 0 0) [2,1,1,1,0] r2 r2 fun S6 X7=>Sr<|Qs 1 r<|Nx<|Sq<|Wc r (fun H10=>?_) fun H10=>?_
  ·refine Sn<|Sq<|Wb<|Sr<|Bi fun E11 H12=>Yo (Ix ke37 (Oc 3 r) H12 r)<|Yo (Le kk106 (Oc 3 r) H12 r)<|Fo (Al kz106 r) fun B13=>Fu (Sb 0 kk106 r (Cp r) r)<|Nx<|Sq<|Sr<|Yo (Fb zkv r)<|Yo (Lb 0 kk4 r)<|Qs 1 r<|Nx<|Ju [0,4,5,7,21,22,23] (fun T=>[(1,iv T)]) r1 (Wc r (fun H16=>Rg<|Qs 3 r<|Nl<|Jg () [0,0,0,0,0,0]) fun H16=>Sk<|Jg () [0,0,0,0,0,0]) fun T14=>Ne<|Sq<|Jv [0,1,4,5,7,21,22,23] (fun T=>[(37,.bool T)]) r1 (Rg<|Yo (Fb zkv r)<|Yo (Lb 0 kk4 r)<|Qs 1 r<|It (fun H19=>Of 2 (zl H19) r r<|Yo (Pt H19 r)<|Nl<|Bg () [0,0,0,0,0,0]) fun H19=>Qg 2 (za H19) r r<|Yo (Pf H19 r)<|Nl<|Bg () [0,0,0,0,0,0]) fun T17=>?_
   refine Ne<|Jn Value [0,1,4,21,22,23] [1,1,1,1] (fun _ X=>[(5,X)]) (fun T X=>[.own X (lc T)]) r2 r2 (?_) fun T20 X21=>?_
   ·refine Wc r (fun H22=>?_) fun H22=>?_
    ·exact Sr<|Yo (Fb zkv r)<|Fu (Sb 0 kk4 r (Cp r) r)<|Nx<|Rg<|Qs 1 r<|Yo (Lb 0 kk106 r)<|Fo (Bs [(⟨E11.Tenant,E11.Boot,E11.Seq,E11.Text,true⟩:LogRow)] ke37 kz106) fun B23=>Bi fun E25 H26=>Fo (Ap [6] H26 ke37 kz106 r (Oc 0 r)) fun V24=>Qs 1 r<|Nl<|Jg V24 [3,3,3,3,0]
    exact Sk<|Jg X7 [1,1,1,1,1]
   exact Bn<|Ne<|Rg<|Qs 2 r<|Nl<|Lg X21 [0,0,0,0,0]
  exact Wx<|Tx<|Ex<|Be<|Jg X7 [0,0,0,0,0]
 refine Ne<|Sr<|Qs 3 r<|Yo (Fb zfv r)<|Fu (Sb 0 kk37 r (Co 4) r)<|Nx<|Sq<|Sr<|Qs 2 r<|Yo (Fb zdk r)<|Yo (Lb 0 kk36 r)<|Yo (Ln ke36 (Oc 2 r) r)<|Qs 1 r<|Nx<|Jn Unit [0,4] [0,0,2] (fun _ _=>[]) (fun T _=>[.own U2 (lc T)]) r2 r2 (?_) fun T29 X30=>?_
 ·refine Wb<|Lp Unit [0,4,52] [0,0,2] (fun T _=>[(53,iv T.1)]) (fun T _=>[.own U2 (lc T.2)]) () [0,0,2,0] r2 r2 fun S27 X28=>Sr<|Qs 1 r<|Nx<|Sq<|Wc r (fun H31=>?_) fun H31=>?_
  ·refine Sn<|Sq<|Wb<|Sr<|Qs 2 r<|Nx<|Sr<|Qs 2 r<|Yo (Fb zdk r)<|Yo (Lb 0 kk36 r)<|Qs 1 r<|Bi fun E32 H33=>Yo (Ix ke36 (Oc 3 r) H33 r)<|TO.fact (zgc (Can.own 3 r) H33) fun H34=>Qs 1 r<|Nx<|Wi fun R41 H42=>Wi fun R44 H45=>Jw Unit [0,4,52,53] [0,0,0] (fun _=>[]) (fun _=>[.own U2 (lc (S27.2.set S27.1.toNat (⟨E32.Id,E32.Epoch,E32.Base,R44.1⟩:STen)))]) r1 r1 (?_) fun X48=>?_
   ·refine Dr [0,0,0] r hMix<|Aq [0,1,2] [0,0,0] r<|Ay 3 [0,0,0] r (Np H34 r)<|Aq [5,6] [0,0,0] r<|Ay 7 [0,0,0] r (Np H34 r)<|Ay 8 [0,0,0] r (Fp zeS H34 r)<|Ga (X:=Value × Value × Value) (Ho 3 [3] H33 r r1) fun X54=>A2 4 9 (?_)<|?_
    ·exact Xy [4,4,4] r (Lh 0 kk95 H33 r)<|A1 9<|Xy [4,4,4] r (Lh 0 kk3 H33 r)<|A1 10<|Xe [0,5,5] r (Cl [4] zdr H42 r r1 ⟨(Oc 5 r),⟨⟩⟩) fun Y55=>A1 11<|Xe [0,8,8] r (Cl [0] zd2 H45 r r1 ⟨(Bc Z0),(Oc 2 r),(Oc 3 r),(Oc 4 r),(Oc 0 r),⟨⟩⟩) fun Y56=>Aq [12,13,14] [0,8,8] r<|Ay 15 [0,8,8] r (Np H34 r)<|Ay 16 [0,8,8] r (Fp zbh H34 r)<|A1 17<|Xu [0,8,8] r (Sh 5 [.raw Y56.1,.raw Y56.2.1,ic R44.1.Seq,.raw Y56.2.2] kk93 H33 r (Ca ⟨Ow' 1,Ow' 2,Op',Ow' 3,⟨⟩⟩) r)<|Az<|Ke (Hc [5,1,1,1] (⟨E32.Id,E32.Epoch,E32.Base,R44.1⟩:STen) H33 r (Ck (Ck (Ck (Cf (Cf (Ck (Cf Cz))))))))<|Bg () [1,5,5,0]
    refine Xy [4,4,4] r (Lh 0 kk3 H33 r)<|A2 4 10 (?_)<|?_
    ·exact Xy [4,4,4] r (Lh 0 kk95 H33 r)<|A1 10<|Xe [0,5,5] r (Cl [4] zdr H42 r r1 ⟨(Oc 5 r),⟨⟩⟩) fun Y56=>A1 11<|Xe [0,8,8] r (Cl [0] zd2 H45 r r1 ⟨(Bc Z0),(Oc 2 r),(Oc 3 r),(Oc 4 r),(Oc 0 r),⟨⟩⟩) fun Y57=>Aq [12,13,14] [0,8,8] r<|Ay 15 [0,8,8] r (Np H34 r)<|Ay 16 [0,8,8] r (Fp zbh H34 r)<|A1 17<|Xu [0,8,8] r (Sh 5 [.raw Y57.1,.raw Y57.2.1,ic R44.1.Seq,.raw Y57.2.2] kk93 H33 r (Ca ⟨Ow' 1,Ow' 2,Op',Ow' 3,⟨⟩⟩) r)<|Az<|Ke (Hc [5,1,1,1] (⟨E32.Id,E32.Epoch,E32.Base,R44.1⟩:STen) H33 r (Ck (Ck (Ck (Cf (Cf (Ck (Cf Cz))))))))<|Bg () [1,5,5,0]
    exact Xe [0,5,5] r (Cl [4] zdr H42 r r1 ⟨(Oc 5 r),⟨⟩⟩) fun Y55=>A1 4<|Xy [0,5,5] r (Lh 2 kk95 H33 r)<|A1 11<|Xe [0,8,8] r (Cl [0] zd2 H45 r r1 ⟨(Bc Z0),(Oc 2 r),(Oc 3 r),(Oc 4 r),(Oc 0 r),⟨⟩⟩) fun Y56=>Aq [12,13,14] [0,8,8] r<|Ay 15 [0,8,8] r (Np H34 r)<|Ay 16 [0,8,8] r (Fp zbh H34 r)<|A1 17<|Xu [0,8,8] r (Sh 5 [.raw Y56.1,.raw Y56.2.1,ic R44.1.Seq,.raw Y56.2.2] kk93 H33 r (Ca ⟨Ow' 1,Ow' 2,Op',Ow' 3,⟨⟩⟩) r)<|Az<|Ke (Hc [5,1,1,1] (⟨E32.Id,E32.Epoch,E32.Base,R44.1⟩:STen) H33 r (Ck (Ck (Ck (Cf (Cf (Ck (Cf Cz))))))))<|Bg () [1,5,5,0]
   exact Bn<|Ne<|Rg<|Qs 2 r<|Nl<|Lg () [0,0,0,0]
  exact Wx<|Tx<|Ex<|Be<|Jg () [0,0,0,0]
 exact Ne<|Sr<|Qs 2 r<|Yo (Fb zgC r)<|Yo (Lb 0 kk3 r)<|Qs 2 r<|Yo (Fb zgC r)<|Fu (Sb 0 kk3 r (Cp r) r)<|Nx<|Sr<|Yo (Bd kp60 kz60 (Pz) r)<|Fu (Sb 1 kk60 r (Cp r) r)<|Nx<|Wr<|Ni 2<|Rf ((.slice none 0 0),X9) [1,3,2,0] (RV.cell 2 r r kk60 r Rz)
noncomputable def zcz (s:Store) (c:Call):Option (Reply × Store):=
 if decide (c.Kind=1) then ((zcR s c).bind fun R4=>
 some (R4.1,(⟨R4.2.Secret,R4.2.Keys,R4.2.Shares,R4.2.Tens,s.Rows,s.Hist,R4.2.Boot⟩:Store)))
 else (((zB c.Kind 2 4).bind fun R9=>
 if R9=true then (some true)
 else (some (decide (c.Kind=13)))).bind (fun (T7:Bool)=>
 if T7=true then ((zcy s c).bind fun R14=>
 some (R14.1,(⟨R14.2.Secret,R14.2.Keys,R14.2.Shares,R14.2.Tens,R14.2.Rows,s.Hist,R14.2.Boot⟩:Store)))
 else ((zB c.Kind 5 11).bind fun R17=>
 if R17=true then ((zci s c).bind fun R21=>
 some (R21.1,(⟨R21.2.Secret,⟨R21.2.Keys.Master,s.Keys.Slots,R21.2.Keys.Wiped⟩,⟨R21.2.Shares.Size,s.Shares.List⟩,R21.2.Tens,R21.2.Rows,R21.2.Hist,R21.2.Boot⟩:Store)))
 else (if decide (c.Kind=12) then ((zdG s).bind fun R25=>
 some (R25.1,(⟨R25.2.Secret,⟨R25.2.Keys.Master,s.Keys.Slots,R25.2.Keys.Wiped⟩,⟨R25.2.Shares.Size,s.Shares.List⟩,s.Tens,R25.2.Rows,s.Hist,R25.2.Boot⟩:Store)))
 else (if decide (c.Kind=14) then ((zdf s c.N).bind fun R29=>
 some (R29.1,(⟨R29.2.Secret,⟨R29.2.Keys.Master,s.Keys.Slots,R29.2.Keys.Wiped⟩,⟨R29.2.Shares.Size,s.Shares.List⟩,R29.2.Tens,R29.2.Rows,s.Hist,R29.2.Boot⟩:Store)))
 else ((zbq 1).bind fun R32=>
 some (R32,s)))))))
theorem zi4 {s:Store} {c:Call} {U0 U1 U2 U3 U4 U6:Value} {U5:Nat} :Cn Tryz.prog 21 [pt U5,.agg #[iv c.Kind,strV c.Token,iv c.Tenant,iv c.N,strV c.Key,strV c.To,U6]] [.box U5 39 [strV s.Secret,strV s.Keys.Master,U0,iv s.Keys.Wiped,iv s.Shares.Size,U1,U2,U3,U4,iv s.Boot],.own U0 (lc s.Keys.Slots),.own U1 (lc s.Shares.List),.own U2 (lc s.Tens),.own U3 (lc s.Rows),.own U4 (lc s.Hist)] [(U6,lc c.Ops)] (zcz s c) (fun r (X:Value × Value × Value × Value × Value × Value)=>.agg #[iv r.1.Code,iv r.1.N,strV r.1.Text,X.1]) fun r X=>[.box U5 39 [strV r.2.Secret,strV r.2.Keys.Master,X.2.1,iv r.2.Keys.Wiped,iv r.2.Shares.Size,X.2.2.1,X.2.2.2.1,X.2.2.2.2.1,X.2.2.2.2.2,iv r.2.Boot],.own X.2.1 (lc r.2.Keys.Slots),.own X.2.2.1 (lc r.2.Shares.List),.own X.2.2.2.1 (lc r.2.Tens),.own X.2.2.2.2.1 (lc r.2.Rows),.own X.2.2.2.2.2 (lc r.2.Hist),.own X.1 (lc r.1.List)]:=by
 unfold zcz
 refine Ci Tryz.func21 r r ?_
 rintro w S ⟨Z0,-⟩
 refine Sr<|Fo (Bx r (Ca ⟨Op',Op',Op',Op',Op',Op',Ob Z0,⟨⟩⟩)) fun B1=>Fo (Al kz60 r) fun B2=>Nx<|Sq<|Wb<|Sr<|Yo (Fb z7 r)<|Yo (Lb 1 kk3 r)<|Qs 2 r<|Nx<|Wc r (fun H3=>?_) fun H3=>?_
 ·exact Sr<|Qs 1 r<|Yo (Lb 1 kk29 r)<|Bi fun R4 H5=>Fo (Cl [2,2,2,2] zjF H5 r r1 ⟨(Bc Z0),⟨⟩⟩) fun Y6=>Fu (Sb 5 kk60 r (Ca ⟨Op',Op',Op',Ow' 4,⟨⟩⟩) r)<|Nx<|Wr<|Br<|Tr<|Rf (Y6.1,Y6.2.1,Y6.2.2.1,Y6.2.2.2,U3,U4) [0,0,0,0,3,3,0] (RV.cell 5 r r kk60 r Rz)
 refine Sq<|Jv [0,3,4] (fun T=>[(12,.bool T)]) r1 (?_) fun T7=>?_
 ·exact Rg<|Yo (Fb z7 r)<|Yo (Lb 1 kk3 r)<|Bi fun R9 H10=>Fo (Cl [] zF H10 r r1) fun _=>Qs 1 r<|It (fun H12=>Of 3 (zl H12) r r<|Yo (Pt H12 r)<|Qs 1 r<|Nl<|Bg () [0,0,0,0,0,0,0,0]) fun H12=>Yg (gdA (za H12)) (Fb z7 r)<|Yg (gdA (za H12)) (Lb 1 kk3 r)<|Qg 1 (za H12) r r<|Yo (Pf H12 r)<|Qs 1 r<|Nl<|Bg () [0,0,0,0,0,0,0,0]
 refine Ne<|Wc r (fun H13=>?_) fun H13=>?_
 ·exact Sr<|Qs 1 r<|Yo (Lb 1 kk29 r)<|Bi fun R14 H15=>Fo (Cl [2,2,2,2,2] zi3 H15 r r1 ⟨(Bc Z0),⟨⟩⟩) fun Y16=>Fu (Sb 6 kk60 r (Ca ⟨Op',Op',Op',Ow' 5,⟨⟩⟩) r)<|Nx<|Wr<|Br<|Tr<|Rf (Y16.1,Y16.2.1,Y16.2.2.1,Y16.2.2.2.1,Y16.2.2.2.2,U4) [0,0,0,0,0,3,0] (RV.cell 6 r r kk60 r Rz)
 refine Sr<|Yo (Fb z7 r)<|Yo (Lb 1 kk3 r)<|Bi fun R17 H18=>Fo (Cl [] zF H18 r r1) fun _=>Qs 1 r<|Nx<|Wc r (fun H20=>?_) fun H20=>?_
 ·exact Sr<|Qs 1 r<|Yo (Lb 1 kk29 r)<|Bi fun R21 H22=>Fo (Cl [2,4,4,4] ziv H22 r r1 ⟨(Oc 2 r),(Oc 3 r),(Bc Z0),⟨⟩⟩) fun Y23=>Fu (Sb 5 kk60 r (Ca ⟨Op',Op',Op',Ow' 4,⟨⟩⟩) r)<|Nx<|Wr<|Br<|Tr<|Rf (Y23.1,U0,U1,U2,Y23.2.1,Y23.2.2) [0,6,6,0,0,0,0] (RV.cell 5 r r kk60 r Rz)
 refine Sr<|Yo (Fb z7 r)<|Yo (Lb 1 kk3 r)<|Qs 2 r<|Nx<|Wc r (fun H24=>Sr<|Qs 1 r<|Bi fun R25 H26=>Fo (Cl [2,5] zkO H26 r r1) fun Y27=>Fu (Sb 3 kk60 r (Ca ⟨Op',Op',Op',Ow' 2,⟨⟩⟩) r)<|Nx<|Wr<|Br<|Tr<|Rf (Y27,U0,U1,U2,U3,U4) [0,4,4,4,0,3,0] (RV.cell 3 r r kk60 r Rz)) fun H24=>Sr<|Yo (Fb z7 r)<|Yo (Lb 1 kk3 r)<|Qs 2 r<|Nx<|Wc r (fun H28=>?_) fun H28=>?_
 ·exact Sr<|Qs 1 r<|Yo (Fb zdI r)<|Yo (Lb 1 kk3 r)<|Bi fun R29 H30=>Fo (Cl [2,4,4] zjX H30 r r1 ⟨(Oc 2 r),⟨⟩⟩) fun Y31=>Fu (Sb 4 kk60 r (Ca ⟨Op',Op',Op',Ow' 3,⟨⟩⟩) r)<|Nx<|Wr<|Br<|Tr<|Rf (Y31.1,U0,U1,U2,Y31.2,U4) [0,5,5,0,0,3,0] (RV.cell 4 r r kk60 r Rz)
 exact Sk<|Bn<|Ne<|Sr<|Bi fun R32 H33=>Fo (Cl [] zbc H33 r r1) fun Y34=>Fu (Sb 1 kk60 r (Ca ⟨Op',Op',Op',Ow' 0,⟨⟩⟩) r)<|Nx<|Wr<|Rf (Y34,U0,U1,U2,U3,U4) [3,3,3,3,3,3,0] (RV.cell 1 r r kk60 r Rz)
noncomputable def zc8 (secret:List UInt8) (master:List UInt8) (size:Int) (l:List Call):Option (Store × List Reply):=
 (zeq secret master size).bind fun R2=>
 (if !R2.2 then (some true)
 else (some (decide ((l.length:Int)>120)))).bind (fun (T6:Bool)=>
 if T6=true then (some ((⟨[],⟨[],[],0⟩,⟨0,[]⟩,[],[],[],0⟩:Store),[]))
 else (bindC (loopO (fun (S16:List UInt8 × List UInt8 × Int × Int × Int × Int × List KeySlot × List Share × List STen × List LogRow × List LogRow × List Reply)=>if decide (S16.2.2.2.2.2.1<(l.length:Int)) then ((idx l S16.2.2.2.2.2.1).bind fun E21=>
 (zcz (⟨S16.1,⟨S16.2.1,S16.2.2.2.2.2.2.1,S16.2.2.1⟩,⟨S16.2.2.2.1,S16.2.2.2.2.2.2.2.1⟩,S16.2.2.2.2.2.2.2.2.1,S16.2.2.2.2.2.2.2.2.2.1,S16.2.2.2.2.2.2.2.2.2.2.1,S16.2.2.2.2.1⟩:Store) E21).bind fun R25=>
 (app 56 S16.2.2.2.2.2.2.2.2.2.2.2 ([R25.1])).bind fun E31=>
 some (.go (R25.2.Secret,R25.2.Keys.Master,R25.2.Keys.Wiped,R25.2.Shares.Size,R25.2.Boot,IntKind.i64.wrap (S16.2.2.2.2.2.1+1),R25.2.Keys.Slots,R25.2.Shares.List,R25.2.Tens,R25.2.Rows,R25.2.Hist,E31)))
 else (some (.done (.go (S16.1,S16.2.1,S16.2.2.1,S16.2.2.2.1,S16.2.2.2.2.1,S16.2.2.2.2.2.2.1,S16.2.2.2.2.2.2.2.1,S16.2.2.2.2.2.2.2.2.1,S16.2.2.2.2.2.2.2.2.2.1,S16.2.2.2.2.2.2.2.2.2.2.1,S16.2.2.2.2.2.2.2.2.2.2.2)))))
 (R2.1.Secret,R2.1.Keys.Master,R2.1.Keys.Wiped,R2.1.Shares.Size,R2.1.Boot,(0:Int),R2.1.Keys.Slots,R2.1.Shares.List,R2.1.Tens,R2.1.Rows,R2.1.Hist,([]:List Reply)))
 (fun (T18:List UInt8 × List UInt8 × Int × Int × Int × List KeySlot × List Share × List STen × List LogRow × List LogRow × List Reply)=>some ((⟨T18.1,⟨T18.2.1,T18.2.2.2.2.2.1,T18.2.2.1⟩,⟨T18.2.2.2.1,T18.2.2.2.2.2.2.1⟩,T18.2.2.2.2.2.2.2.1,T18.2.2.2.2.2.2.2.2.1,T18.2.2.2.2.2.2.2.2.2.1,T18.2.2.2.2.1⟩:Store),T18.2.2.2.2.2.2.2.2.2.2))))
theorem zhy {secret:List UInt8} {master:List UInt8} {size:Int} {l:List Call} {U0:Value} :Cn Tryz.prog 6 [strV secret,strV master,iv size,U0] [] [(U0,lc l)] (zc8 secret master size l) (fun r (X:Value × Value × Value × Value × Value × Value)=>.tuple #[.agg #[strV r.1.Secret,strV r.1.Keys.Master,X.1,iv r.1.Keys.Wiped,iv r.1.Shares.Size,X.2.1,X.2.2.1,X.2.2.2.1,X.2.2.2.2.1,iv r.1.Boot],X.2.2.2.2.2]) fun r X=>[.own X.1 (lc r.1.Keys.Slots),.own X.2.1 (lc r.1.Shares.List),.own X.2.2.1 (lc r.1.Tens),.own X.2.2.2.1 (lc r.1.Rows),.own X.2.2.2.2.1 (lc r.1.Hist),.own X.2.2.2.2.2 (lc r.2)]:=by
 unfold zc8
 refine Ci Tryz.func6 r r ?_
 rintro w S ⟨Z0,-⟩
 refine Sr<|Fo (Al kz39 r) fun B1=>Qs 1 r<|Nx<|Sr<|Qs 3 r<|Bi fun R2 H3=>Fo (Cl [] zlT H3 r r1) fun Y4=>Qs 3 r<|Fo (Al kz39 r) fun B5=>Fu (Sb 0 kk39 r (Ca ⟨Op',Op',Ow' 1,Op',Op',Ow' 2,Ow' 3,Ow' 4,Ow' 5,Op',⟨⟩⟩) r)<|Qs 1 r<|Nx<|Sq<|Sq<|Jv [3,8,10] (fun T=>[(29,.bool T)]) r1 (Rg<|Qs 3 r<|It (fun H8=>Of 3 (zl H8) r r<|Yo (Pt H8 r)<|Nl<|Bg () [0,0,0,0,0,0,0]) fun H8=>Qg 1 (za H8) r r<|Yg (gdA (za H8)) (Ln ke24 (Bc Z0) r)<|Qg 1 (za H8) r r<|Yo (Pf H8 r)<|Nl<|Bg () [0,0,0,0,0,0,0]) fun T6=>Ne<|Wc r (fun H9=>?_) fun H9=>?_
 ·exact Sr<|Yo (Bd kp39 kz39 (Pz) r)<|Fu (Sb 6 kk39 r (Cp r) r)<|Qs 1 r<|Nx<|Wr<|Tr<|Ni 2<|Ni 2<|Ni 7<|Ni 5<|Ni 5<|Ni 4<|Rf ((.slice none 0 0),(.slice none 0 0),(.slice none 0 0),(.slice none 0 0),(.slice none 0 0),(.slice none 0 0)) [5,4,3,2,1,0] (RV.cell 12 r r kk39 r (Rt r Rz))
 refine Sn<|Sr<|Qs 1 r<|Nx<|Sq<|Sr<|Qs 1 r<|Yo (Ln ke24 (Bc Z0) r)<|Qs 1 r<|Nx<|Jn (Value × Value × Value × Value × Value × Value) [8,10] [6] (fun _ X=>[(12,X.2.2.2.2.2)]) (fun T X=>[.box B5 39 [strV T.1,strV T.2.1,X.1,iv T.2.2.1,iv T.2.2.2.1,X.2.1,X.2.2.1,X.2.2.2.1,X.2.2.2.2.1,iv T.2.2.2.2.1],.own X.1 (lc T.2.2.2.2.2.1),.own X.2.1 (lc T.2.2.2.2.2.2.1),.own X.2.2.1 (lc T.2.2.2.2.2.2.2.1),.own X.2.2.2.1 (lc T.2.2.2.2.2.2.2.2.1),.own X.2.2.2.2.1 (lc T.2.2.2.2.2.2.2.2.2.1),.own X.2.2.2.2.2 (lc T.2.2.2.2.2.2.2.2.2.2)]) r2 r2 (?_) fun T18 X19=>?_
 ·refine Wb<|Nw 4<|Lp (Value × Value × Value × Value × Value × Value) [8,10,31,32] [7] (fun T X=>[(12,X.2.2.2.2.2),(33,iv T.2.2.2.2.2.1)]) (fun T X=>[.box B5 39 [strV T.1,strV T.2.1,X.1,iv T.2.2.1,iv T.2.2.2.1,X.2.1,X.2.2.1,X.2.2.2.1,X.2.2.2.2.1,iv T.2.2.2.2.1],.own X.1 (lc T.2.2.2.2.2.2.1),.own X.2.1 (lc T.2.2.2.2.2.2.2.1),.own X.2.2.1 (lc T.2.2.2.2.2.2.2.2.1),.own X.2.2.2.1 (lc T.2.2.2.2.2.2.2.2.2.1),.own X.2.2.2.2.1 (lc T.2.2.2.2.2.2.2.2.2.2.1),.own X.2.2.2.2.2 (lc T.2.2.2.2.2.2.2.2.2.2.2)]) (Y4.1,Y4.2.1,Y4.2.2.1,Y4.2.2.2.1,Y4.2.2.2.2,.slice none 0 0) [7,1,1,1,1,1,1,0] r2 r2 fun S16 X17=>?_
  refine Sr<|Qs 1 r<|Nx<|Sq<|Wc r (fun H20=>?_) fun H20=>?_
  ·refine Sn<|Sq<|Wb<|Sr<|Bi fun E21 H22=>Yo (Ix ke24 (Bc Z0) H22 r)<|?_
   have Q23:Base w S (elv w U0 (S16.2.2.2.2.2.1.toNat*7+6)) (lc E21.Ops):=Base.el Z0 (zz H22).2.2 r r
   refine Yo (Lz kk29 Z0 H22 r)<|Fo (Al kz29 r) fun B24=>Fu (Sb 0 kk29 r (Ca ⟨Op',Op',Op',Op',Op',Op',Ob Q23,⟨⟩⟩) r)<|Nx<|Sr<|Yo (Lb 0 kk29 r)<|Bi fun R25 H26=>Fo (Cl [2,2,2,2,2,2] zi4 H26 r r1 ⟨(Bc Q23),⟨⟩⟩) fun Y27=>Fo (Al kz60 r) fun B28=>Fu (Sb 0 kk60 r (Ca ⟨Op',Op',Op',Ow' 7,⟨⟩⟩) r)<|Nx<|Rg<|Qs 1 r<|Yo (Lb 0 kk60 r)<|Fo (Bk [ic R25.1.Code,ic R25.1.N,.str R25.1.Text,.raw Y27.1] ke40 kz60 r (Qc (Ca ⟨Op',Op',Op',Ow' 7,⟨⟩⟩)<|Qz)) fun B29=>Kt (Ha [0,7] ([R25.1]:List Reply) r (Ck (Ck (Ck (Cf Cz)))))<|Bi fun E31 H32=>?_
   exact Fo (Aw [10,0] H32 ke40 kz60 r) fun V30=>Qs 1 r<|Nl<|Bn<|Ne<|Rg<|Qs 2 r<|Nl<|Lg (Y27.2.1,Y27.2.2.1,Y27.2.2.2.1,Y27.2.2.2.2.1,Y27.2.2.2.2.2,V30) [9,2,2,2,2,2,2,0]
  exact Wx<|Tx<|Ex<|Be<|Jg (X17.1,X17.2.1,X17.2.2.1,X17.2.2.2.1,X17.2.2.2.2.1,X17.2.2.2.2.2) [0,0,0,0,0,0,0,0]
 exact Ne<|Sr<|Yo (Lb 1 kk39 r)<|Qs 1 r<|Fu (Sb 0 kk39 r (Ca ⟨Op',Op',Ow' 2,Op',Op',Ow' 3,Ow' 4,Ow' 5,Ow' 6,Op',⟨⟩⟩) r)<|Qs 1 r<|Nx<|Wr<|Rf (X19.1,X19.2.1,X19.2.2.1,X19.2.2.2.1,X19.2.2.2.2.1,X19.2.2.2.2.2) [2,2,2,2,2,2] (RV.cell 0 r r kk39 r (Rt r Rz))
noncomputable def zdV (l:List Call):Option Bool:=
 bindC (loopO (fun (S1:Int)=>if decide (S1<(l.length:Int)) then ((idx l S1).bind fun E6=>
 (if decide (E6.Kind=14) then (some (decide (E6.N>0)))
 else (some false)).bind (fun (T10:Bool)=>
 if T10=true then (some (.done (.done false)))
 else (some (.go (IntKind.i64.wrap (S1+1))))))
 else (some (.done (.go ()))))
 (0:Int))
 (fun (T3:Unit)=>some true)
theorem zit {l:List Call} {U0:Value} :Cn Tryz.prog 7 [U0] [] [(U0,lc l)] (zdV l) (fun r (_:Unit)=>.bool r) fun _ _=>[]:=by
 unfold zdV
 refine Ci Tryz.func7 r r ?_
 rintro w S ⟨Z0,-⟩
 refine Sr<|Qs 1 r<|Nx<|Sq<|Sr<|Qs 1 r<|Yo (Ln ke24 (Bc Z0) r)<|Qs 1 r<|Nx<|Ju [] (fun _=>[]) r1 (?_) fun T3=>?_
 ·refine Wb<|Lu [5,6] (fun T=>[(7,iv T)]) r1 fun S1=>Sr<|Qs 1 r<|Nx<|Sq<|Wc r (fun H5=>?_) fun H5=>?_
  ·refine Sn<|Sq<|Wb<|Sr<|Bi fun E6 H7=>Yo (Ix ke24 (Bc Z0) H7 r)<|?_
   have Q8:Base w S (elv w U0 (S1.toNat*7+6)) (lc E6.Ops):=Base.el Z0 (zz H7).2.2 r r
   exact Yo (Lz kk29 Z0 H7 r)<|Fo (Al kz29 r) fun B9=>Fu (Sb 0 kk29 r (Ca ⟨Op',Op',Op',Op',Op',Op',Ob Q8,⟨⟩⟩) r)<|Nx<|Sq<|Jb Unit [5,6,7] [] (fun T _=>[(18,.bool T)]) (fun _ _=>[]) r2 r2 (Rg<|Yo (Fb z7 r)<|Yo (Lb 0 kk3 r)<|Qs 2 r<|It (fun H12=>Yg (gdA (zd H12)) (Fb zdI r)<|Yg (gdA (zd H12)) (Lb 0 kk3 r)<|Qg 1 (zd H12) r r<|Yo (Pt H12 r)<|Nl<|Bg () []) fun H12=>Of 3 (zt H12) r r<|Yo (Pf H12 r)<|Nl<|Bg () []) fun T10 X11=>Ne<|Wc r (fun H13=>Sr<|Qs 1 r<|Nx<|Wr<|Br<|Tr<|Er<|Br<|Jd<|Tr<|Re () []) fun H13=>Sk<|Bn<|Ne<|Rg<|Qs 2 r<|Nl<|Lg () []
  exact Wx<|Tx<|Ex<|Be<|Jg () []
 exact Ne<|Sr<|Qs 1 r<|Nx<|Wr<|Re () []
noncomputable def zeD (kind:Int):Option Bool:=
 (zB kind 5 11).bind fun R1=>
 some R1
theorem zkR {kind:Int} :Cn Tryz.prog 36 [iv kind] [] [] (zeD kind) (fun r (_:Unit)=>.bool r) fun _ _=>[]:=by
 unfold zeD
 refine Ci Tryz.func36 r r ?_
 rintro w S -
 exact Sr<|Qs 1 r<|Nx<|Sr<|Qs 1 r<|Bi fun R1 H2=>Fo (Cl [] zF H2 r r1) fun _=>Qs 1 r<|Nx<|Wr<|Re () []
noncomputable def zfa (secret:List UInt8) (c:Call):Option Int:=
 (zeD c.Kind).bind fun R2=>
 if !R2 then (some (0:Int))
 else ((zc7 secret c.Token).bind fun R6=>
 some R6.1)
theorem zj1 {secret:List UInt8} {c:Call} {U0:Value} :Cn Tryz.prog 22 [strV secret,.agg #[iv c.Kind,strV c.Token,iv c.Tenant,iv c.N,strV c.Key,strV c.To,U0]] [] [(U0,lc c.Ops)] (zfa secret c) (fun r (_:Unit)=>iv r) fun _ _=>[]:=by
 unfold zfa
 refine Ci Tryz.func22 r r ?_
 rintro w S ⟨Z0,-⟩
 exact Sr<|Fo (Bx r (Ca ⟨Op',Op',Op',Op',Op',Op',Ob Z0,⟨⟩⟩)) fun B1=>Qs 1 r<|Nx<|Sq<|Sr<|Yo (Fb z7 r)<|Yo (Lb 0 kk3 r)<|Bi fun R2 H3=>Fo (Cl [] zkR H3 r r1) fun _=>Qs 1 r<|Nx<|Wc r (fun H5=>Sr<|Qs 1 r<|Nx<|Wr<|Tr<|Re () []) fun H5=>Sn<|Sr<|Qs 1 r<|Yo (Fb zj9 r)<|Yo (Lb 0 kk9 r)<|Bi fun R6 H7=>Fo (Cl [] zhx H7 r r1) fun _=>Qs 7 r<|Nx<|Sr<|Qs 2 r<|Nx<|Wr<|Re () []
noncomputable def zfY (secret:List UInt8) (l:List Call) (tenant:Int):Option (List Call):=
 bindC (loopO (fun (S1:Int × List Call)=>if decide (S1.1<(l.length:Int)) then (bindC ((idx l S1.1).bind fun E8=>
 (zfa secret E8).bind fun R12=>
 (if !(decide (R12=0)) then (if !(decide (R12=tenant)) then (some true)
 else (if decide (E8.Kind=13) then (some (!(decide (E8.Tenant=tenant))))
 else (some false)))
 else (if decide (E8.Kind=13) then (some (!(decide (E8.Tenant=tenant))))
 else (some false))).bind (fun (T15:Bool)=>
 if T15=true then (some (.go S1.2))
 else ((app 40 ([]:List Op) E8.Ops).bind fun E23=>
 (app 96 S1.2 ([(⟨E8.Kind,E8.Token,E8.Tenant,E8.N,E8.Key,E8.To,E23⟩:Call)])).bind fun E27=>
 some (.go E27))))
 (fun (T6:List Call)=>some (.go (IntKind.i64.wrap (S1.1+1),T6))))
 else (some (.done (.go S1.2))))
 ((0:Int),([]:List Call)))
 (fun (T3:List Call)=>some T3)
theorem zol {secret:List UInt8} {l:List Call} {tenant:Int} {U0:Value} :Cn Tryz.prog 8 [strV secret,U0,iv tenant] [] [(U0,lc l)] (zfY secret l tenant) (fun _ (X:Value)=>X) fun r X=>[.own X (lc r)]:=by
 unfold zfY
 refine Ci Tryz.func8 r r ?_
 rintro w S ⟨Z0,-⟩
 refine Sr<|Qs 1 r<|Nx<|Sr<|Qs 1 r<|Nx<|Sq<|Sr<|Qs 1 r<|Yo (Ln ke24 (Bc Z0) r)<|Qs 1 r<|Nx<|Jn Value [] [] (fun _ X=>[(7,X)]) (fun T X=>[.own X (lc T)]) r2 r2 (?_) fun T3 X4=>?_
 ·refine Wb<|Nw 7<|Lp Value [0,2,12,13] [] (fun T X=>[(7,X),(14,iv T.1)]) (fun T X=>[.own X (lc T.2)]) (.slice none 0 0) [0] r2 r2 fun S1 X2=>Sr<|Qs 1 r<|Nx<|Sq<|Wc r (fun H5=>?_) fun H5=>?_
  ·refine Sn<|Sq<|Jn Value [0,2,12,13,14] [] (fun _ X=>[(7,X)]) (fun T X=>[.own X (lc T)]) r2 r2 (?_) fun T6 X7=>?_
   ·refine Wb<|Sr<|Bi fun E8 H9=>Yo (Ix ke24 (Bc Z0) H9 r)<|?_
    have Q10:Base w S (elv w U0 (S1.1.toNat*7+6)) (lc E8.Ops):=Base.el Z0 (zz H9).2.2 r r
    refine Yo (Lz kk29 Z0 H9 r)<|Fo (Al kz29 r) fun B11=>Fu (Sb 0 kk29 r (Ca ⟨Op',Op',Op',Op',Op',Op',Ob Q10,⟨⟩⟩) r)<|Nx<|Sr<|Qs 1 r<|Yo (Lb 0 kk29 r)<|Bi fun R12 H13=>Fo (Cl [] zj1 H13 r r1 ⟨(Bc Q10),⟨⟩⟩) fun _=>Qs 1 r<|Nx<|Sq<|Sq<|Jv [0,2,7,9,12,13,14] (fun T=>[(38,.bool T)]) r1 (?_) fun T15=>?_
    ·refine Rg<|Qs 3 r<|It (fun H17=>?_) fun H17=>?_
     ·exact Qg 3 (zd H17) r r<|Yo (Pt H17 r)<|Qs 1 r<|It (fun H18=>Of 4 (zl H18) r r<|Ou 4 r r<|Of 1 (zl H18) r r<|Yo (Pt H18 r)<|Nl<|Bg () [0,0]) fun H18=>Yg (gdA (za H18)) (Fb z7 r)<|Yg (gdA (za H18)) (Lb 0 kk3 r)<|Qg 2 (za H18) r r<|It (fun H19=>Yg (gdA (zd H19)) (Fb zcU r)<|Yg (gdA (zd H19)) (Lb 0 kk3 r)<|Qg 2 (zd H19) r r<|Yg (gdA (za H18)) (Pt H19 r)<|Yo (Pf H18 r)<|Nl<|Bg () [0,0]) fun H19=>Of 4 (zt H19) r r<|Yg (gdA (za H18)) (Pf H19 r)<|Yo (Pf H18 r)<|Nl<|Bg () [0,0]
     exact Of 3 (zt H17) r r<|Yo (Pf H17 r)<|Qs 1 r<|Yg (gdA r) (Fb z7 r)<|Yg (gdA r) (Lb 0 kk3 r)<|Qg 2 r r r<|It (fun H20=>Yg (gdA (zd H20)) (Fb zcU r)<|Yg (gdA (zd H20)) (Lb 0 kk3 r)<|Qg 2 (zd H20) r r<|Yg (gdA r) (Pt H20 r)<|Yo (Pf r r)<|Nl<|Bg () [0,0]) fun H20=>Of 4 (zt H20) r r<|Yg (gdA r) (Pf H20 r)<|Yo (Pf r r)<|Nl<|Bg () [0,0]
    refine Ne<|Wc r (fun H21=>Wx<|Tx<|Be<|Jg X2 [1]) fun H21=>Sn<|Sr<|Yo (Fb zf9 r)<|Yo (Lb 0 kk27 r)<|Bi fun E23 H24=>Fo (An H24 ke27 kz120 r (Bc Q10)) fun V22=>Qs 1 r<|Nx<|Sr<|Qs 1 r<|Yo (Fb zf9 r)<|Fu (Sb 1 kk27 r (Co 0) r)<|Nx<|Rg<|Qs 1 r<|Yo (Lb 1 kk29 r)<|Fo (Bk [ic E8.Kind,.str E8.Token,ic E8.Tenant,ic E8.N,.str E8.Key,.str E8.To,.raw V22] ke24 kz29 r (Qc (Ca ⟨Op',Op',Op',Op',Op',Op',Ow' 0,⟨⟩⟩)<|Qz)) fun B25=>Kt (Ha [0,0] ([(⟨E8.Kind,E8.Token,E8.Tenant,E8.N,E8.Key,E8.To,E23⟩:Call)]:List Call) r (Ck (Ck (Ck (Ck (Ck (Ck (Cf Cz))))))))<|Bi fun E27 H28=>?_
    exact Fo (Aw [2,0] H28 ke24 kz29 r) fun V26=>Qs 1 r<|Nl<|Bn<|Jg V26 [0]
   exact Ne<|Rg<|Qs 2 r<|Nl<|Lg X7 [0]
  exact Wx<|Tx<|Ex<|Be<|Jg X2 [0]
 exact Ne<|Sr<|Qs 2 r<|Nx<|Wr<|Re X4 [0]
noncomputable def zfJ (secret:List UInt8) (l:List Call) (r_:List Reply) (tenant:Int):Option (List Reply):=
 (if decide (tenant=0) then (some true)
 else (some (!(decide ((l.length:Int)=(r_.length:Int)))))).bind (fun (T1:Bool)=>
 if T1=true then (some ([]))
 else (bindC (loopO (fun (S6:Int × List Reply)=>if decide (S6.1<(l.length:Int)) then ((idx l S6.1).bind fun E11=>
 (zfa secret E11).bind fun R15=>
 bindC (if decide (R15=tenant) then ((idx r_ S6.1).bind fun E21=>
 (app 32 ([]:List KV) E21.List).bind fun E27=>
 (app 56 S6.2 ([(⟨E21.Code,E21.N,E21.Text,E27⟩:Reply)])).bind fun E31=>
 some (.go E31))
 else (some (.go S6.2)))
 (fun (T18:List Reply)=>some (.go (IntKind.i64.wrap (S6.1+1),T18))))
 else (some (.done (.go S6.2))))
 ((0:Int),([]:List Reply)))
 (fun (T8:List Reply)=>some T8)))
theorem zkX {secret:List UInt8} {l:List Call} {r_:List Reply} {tenant:Int} {U0 U1:Value} :Cn Tryz.prog 9 [strV secret,U0,U1,iv tenant] [] [(U0,lc l),(U1,lc r_)] (zfJ secret l r_ tenant) (fun _ (X:Value)=>X) fun r X=>[.own X (lc r)]:=by
 unfold zfJ
 refine Ci Tryz.func9 r r ?_
 rintro w S ⟨Z0,Z1,-⟩
 refine Sr<|Qs 1 r<|Nx<|Sq<|Sq<|Jv [0,1,2,3] (fun T=>[(21,.bool T)]) r1 (Rg<|Qs 3 r<|It (fun H3=>Of 5 (zl H3) r r<|Yo (Pt H3 r)<|Nl<|Bg () []) fun H3=>Qg 1 (za H3) r r<|Yg (gdA (za H3)) (Ln ke24 (Bc Z0) r)<|Qg 1 (za H3) r r<|Yg (gdA (za H3)) (Ln ke40 (Bc Z1) r)<|Qg 1 (za H3) r r<|Yo (Pf H3 r)<|Nl<|Bg () []) fun T1=>Ne<|Wc r (fun H4=>Sr<|Qs 1 r<|Nx<|Wr<|Tr<|Ni 4<|Re (.slice none 0 0) [0]) fun H4=>Sn<|Sr<|Qs 1 r<|Nx<|Sq<|Sr<|Qs 1 r<|Yo (Ln ke24 (Bc Z0) r)<|Qs 1 r<|Nx<|Jn Value [] [] (fun _ X=>[(9,X)]) (fun T X=>[.own X (lc T)]) r2 r2 (?_) fun T8 X9=>?_
 ·refine Wb<|Nw 4<|Lp Value [0,2,3,22,23] [] (fun T X=>[(9,X),(24,iv T.1)]) (fun T X=>[.own X (lc T.2)]) (.slice none 0 0) [0] r2 r2 fun S6 X7=>Sr<|Qs 1 r<|Nx<|Sq<|Wc r (fun H10=>?_) fun H10=>?_
  ·refine Sn<|Sq<|Wb<|Sr<|Qs 1 r<|Bi fun E11 H12=>Yo (Ix ke24 (Bc Z0) H12 r)<|?_
   have Q13:Base w S (elv w U0 (S6.1.toNat*7+6)) (lc E11.Ops):=Base.el Z0 (zz H12).2.2 r r
   refine Yo (Lz kk29 Z0 H12 r)<|Fo (Al kz29 r) fun B14=>Qs 1 r<|Fu (Sb 0 kk29 r (Ca ⟨Op',Op',Op',Op',Op',Op',Ob Q13,⟨⟩⟩) r)<|Nx<|Sr<|Qs 1 r<|Yo (Lb 0 kk29 r)<|Bi fun R15 H16=>Fo (Cl [] zj1 H16 r r1 ⟨(Bc Q13),⟨⟩⟩) fun _=>Qs 2 r<|Nx<|Jn Value [0,2,3,22,23,24] [] (fun _ X=>[(9,X)]) (fun T X=>[.own X (lc T)]) r2 r2 (?_) fun T18 X19=>?_
   ·refine Wc r (fun H20=>?_) fun H20=>?_
    ·refine Sr<|Qs 2 r<|Bi fun E21 H22=>Yo (Ix ke40 (Bc Z1) H22 r)<|?_
     have Q23:Base w S (elv w U1 (S6.1.toNat*4+3)) (lc E21.List):=Base.el Z1 (zz H22).2.2 r r
     refine Yo (Lz kk60 Z1 H22 r)<|Fo (Al kz60 r) fun B24=>Fu (Sb 0 kk60 r (Ca ⟨Op',Op',Op',Ob Q23,⟨⟩⟩) r)<|Nx<|Sr<|Qs 2 r<|Yo (Ix ke40 (Bc Z1) H22 r)<|Yo (Fe ziF (Bc Z1) H22 r)<|?_
     have Q25:Base w S (elv w U1 (S6.1.toNat*4+3)) (lc E21.List):=Base.el Z1 (zz H22).2.2 r r
     exact Yo (Lz kk58 Z1 H22 r)<|Bi fun E27 H28=>Fo (An H28 ke58 kz78 r (Bc Q25)) fun V26=>Yo (Fb ziF r)<|Fu (Sb 1 kk58 r (Co 0) r)<|Nx<|Rg<|Qs 1 r<|Yo (Lb 1 kk60 r)<|Fo (Bk [ic E21.Code,ic E21.N,.str E21.Text,.raw V26] ke40 kz60 r (Qc (Ca ⟨Op',Op',Op',Ow' 0,⟨⟩⟩)<|Qz)) fun B29=>Kt (Ha [0,0] ([(⟨E21.Code,E21.N,E21.Text,E27⟩:Reply)]:List Reply) r (Ck (Ck (Ck (Cf Cz)))))<|Bi fun E31 H32=>Fo (Aw [3,0] H32 ke40 kz60 r) fun V30=>Qs 1 r<|Nl<|Jg V30 [0]
    exact Sk<|Jg X7 [1]
   exact Bn<|Ne<|Rg<|Qs 2 r<|Nl<|Lg X19 [0]
  exact Wx<|Tx<|Ex<|Be<|Jg X7 [0]
 exact Ne<|Sr<|Qs 2 r<|Nx<|Wr<|Re X9 [0]
noncomputable def zeV (a:List KV) (b:List KV):Option Bool:=
 if !(decide ((a.length:Int)=(b.length:Int))) then (some false)
 else (bindC (loopO (fun (S2:Int)=>if decide (S2<(a.length:Int)) then ((idx a S2).bind fun E7=>
 (idx b S2).bind fun E9=>
 if !(decide (E7.Key=E9.Key)&&(decide (E7.Val=E9.Val)&&true)) then (some (.done (.done false)))
 else (some (.go (IntKind.i64.wrap (S2+1)))))
 else (some (.done (.go ()))))
 (0:Int))
 (fun (T4:Unit)=>some true))
theorem zmT {a:List KV} {b:List KV} {U0 U1:Value} :Cn Tryz.prog 23 [U0,U1] [] [(U0,lc a),(U1,lc b)] (zeV a b) (fun r (_:Unit)=>.bool r) fun _ _=>[]:=by
 unfold zeV
 refine Ci Tryz.func23 r r ?_
 rintro w S ⟨Z0,Z1,-⟩
 refine Sr<|Qs 1 r<|Nx<|Sq<|Sr<|Qs 1 r<|Yo (Ln ke58 (Bc Z0) r)<|Qs 1 r<|Yo (Ln ke58 (Bc Z1) r)<|Qs 1 r<|Nx<|Wc r (fun H1=>Sr<|Qs 1 r<|Nx<|Wr<|Tr<|Re () []) fun H1=>Sn<|Sq<|Sr<|Qs 1 r<|Nx<|Ju [] (fun _=>[]) r1 (?_) fun T4=>?_
 ·refine Wb<|Lu [0,1] (fun T=>[(5,iv T)]) r1 fun S2=>Sq<|Sr<|Qs 2 r<|Yo (Ln ke58 (Bc Z0) r)<|Qs 1 r<|Nx<|Wc r (fun H6=>?_) fun H6=>?_
  ·exact Sn<|Sq<|Wb<|Sq<|Dr [] r hMix<|Aq [0,1] [] r<|Ai fun E7 H8=>Ay 2 [] r (Ix ke58 (Bc Z0) H8 r)<|Ay 3 [] r (Le kk78 (Bc Z0) H8 r)<|Aq [4,5] [] r<|Ai fun E9 H10=>Ay 6 [] r (Ix ke58 (Bc Z1) H10 r)<|Ay 7 [] r (Le kk78 (Bc Z1) H10 r)<|Ay 8 [] r (Y.neqA keq78 (EqA.str (EqA.str EqA.nil)) r r)<|Az<|Ne<|Wc r (fun H11=>Sr<|Qs 1 r<|Nx<|Wr<|Br<|Tr<|Er<|Br<|Jd<|Tr<|Re () []) fun H11=>Sk<|Bn<|Ne<|Rg<|Qs 3 r<|Nl<|Lg () []
  exact Wx<|Tx<|Ex<|Be<|Jg () []
 exact Ne<|Sr<|Qs 1 r<|Nx<|Wr<|Re () []
noncomputable def zdl (a:List Reply) (b:List Reply):Option Bool:=
 if !(decide ((a.length:Int)=(b.length:Int))) then (some false)
 else (bindC (loopO (fun (S2:Int)=>if decide (S2<(a.length:Int)) then (((idx a S2).bind fun E9=>
 (idx b S2).bind fun E11=>
 if !(decide (E9.Code=E11.Code)) then (some true)
 else (if !(decide (E9.N=E11.N)) then (some true)
 else (if !(decide (E9.Text=E11.Text)) then (some true)
 else ((zeV E9.List E11.List).bind fun R18=>
 some (!R18))))).bind (fun (T7:Bool)=>
 if T7=true then (some (.done (.done false)))
 else (some (.go (IntKind.i64.wrap (S2+1))))))
 else (some (.done (.go ()))))
 (0:Int))
 (fun (T4:Unit)=>some true))
theorem zkd {a:List Reply} {b:List Reply} {U0 U1:Value} :Cn Tryz.prog 10 [U0,U1] [] [(U0,lc a),(U1,lc b)] (zdl a b) (fun r (_:Unit)=>.bool r) fun _ _=>[]:=by
 unfold zdl
 refine Ci Tryz.func10 r r ?_
 rintro w S ⟨Z0,Z1,-⟩
 refine Sr<|Qs 1 r<|Nx<|Sq<|Sr<|Qs 1 r<|Yo (Ln ke40 (Bc Z0) r)<|Qs 1 r<|Yo (Ln ke40 (Bc Z1) r)<|Qs 1 r<|Nx<|Wc r (fun H1=>Sr<|Qs 1 r<|Nx<|Wr<|Tr<|Re () []) fun H1=>Sn<|Sq<|Sr<|Qs 1 r<|Nx<|Ju [] (fun _=>[]) r1 (?_) fun T4=>?_
 ·refine Wb<|Lu [0,1] (fun T=>[(5,iv T)]) r1 fun S2=>Sq<|Sr<|Qs 2 r<|Yo (Ln ke40 (Bc Z0) r)<|Qs 1 r<|Nx<|Wc r (fun H6=>?_) fun H6=>?_
  ·refine Sn<|Sq<|Wb<|Sq<|Jv [0,1,5] (fun T=>[(67,.bool T)]) r1 (?_) fun T7=>?_
   ·refine Dr [] r hMix<|Aq [0,1] [] r<|Ai fun E9 H10=>Ay 2 [] r (Ix ke40 (Bc Z0) H10 r)<|Ay 3 [] r (Fe zrx (Bc Z0) H10 r)<|Ay 4 [] r (Le kk3 (Bc Z0) H10 r)<|Aq [5,6] [] r<|Ai fun E11 H12=>Ay 7 [] r (Ix ke40 (Bc Z1) H12 r)<|Ay 8 [] r (Fe zrx (Bc Z1) H12 r)<|Ay 9 [] r (Le kk3 (Bc Z1) H12 r)<|Aq [10,11] [] r<|Ia (fun H13=>Ax [12,13,14,15,16,17,18,19,20,21,22] [] (zl H13) r r<|Ay 23 [] r (Pt H13 r)<|Aq [24] [] r<|Ax [25,26,27,28,29,30,31,32,33,34,35] [] r r r<|Ay 36 [] r (Pt r r)<|Aq [37] [] r<|Ax [38,39,40,41,42,43,44,45,46,47,48,49] [] r r r<|Ay 50 [] r (Pt r r)<|Az<|Bg () []) fun H13=>?_
    refine Ag 12 [] (gdA (za H13)) r (Y.move r)<|Ag 13 [] (gdA (za H13)) r (Y.move r)<|Ag 14 [] (gdA (za H13)) r (Ix ke40 (Bc Z0) H10 r)<|Ag 15 [] (gdA (za H13)) r (Fe zry (Bc Z0) H10 r)<|Ag 16 [] (gdA (za H13)) r (Le kk3 (Bc Z0) H10 r)<|Ag 17 [] (gdA (za H13)) r (Y.move r)<|Ag 18 [] (gdA (za H13)) r (Y.move r)<|Ag 19 [] (gdA (za H13)) r (Ix ke40 (Bc Z1) H12 r)<|Ag 20 [] (gdA (za H13)) r (Fe zry (Bc Z1) H12 r)<|Ag 21 [] (gdA (za H13)) r (Le kk3 (Bc Z1) H12 r)<|Ag 22 [] (gdA (za H13)) r (Y.neq r r)<|Ay 23 [] r (Pf H13 r)<|Aq [24] [] r<|Ia (fun H14=>Ax [25,26,27,28,29,30,31,32,33,34,35] [] (zl H14) r r<|Ay 36 [] r (Pt H14 r)<|Aq [37] [] r<|Ax [38,39,40,41,42,43,44,45,46,47,48,49] [] r r r<|Ay 50 [] r (Pt r r)<|Az<|Bg () []) fun H14=>?_
    refine Ag 25 [] (gdA (za H14)) r (Y.move r)<|Ag 26 [] (gdA (za H14)) r (Y.move r)<|Ag 27 [] (gdA (za H14)) r (Ix ke40 (Bc Z0) H10 r)<|Ag 28 [] (gdA (za H14)) r (Fe zrz (Bc Z0) H10 r)<|Ag 29 [] (gdA (za H14)) r (Le kk9 (Bc Z0) H10 r)<|Ag 30 [] (gdA (za H14)) r (Y.move r)<|Ag 31 [] (gdA (za H14)) r (Y.move r)<|Ag 32 [] (gdA (za H14)) r (Ix ke40 (Bc Z1) H12 r)<|Ag 33 [] (gdA (za H14)) r (Fe zrz (Bc Z1) H12 r)<|Ag 34 [] (gdA (za H14)) r (Le kk9 (Bc Z1) H12 r)<|Ag 35 [] (gdA (za H14)) r (Y.sneq r r)<|Ay 36 [] r (Pf H14 r)<|Aq [37] [] r<|Ia (fun H15=>Ax [38,39,40,41,42,43,44,45,46,47,48,49] [] (zl H15) r r<|Ay 50 [] r (Pt H15 r)<|Az<|Bg () []) fun H15=>?_
    refine Ag 38 [] (gdA (za H15)) r (Y.move r)<|Ag 39 [] (gdA (za H15)) r (Y.move r)<|Ag 40 [] (gdA (za H15)) r (Ix ke40 (Bc Z0) H10 r)<|Ag 41 [] (gdA (za H15)) r (Fe ziF (Bc Z0) H10 r)<|?_
    have Q16:Base w S (elv w U0 (S2.toNat*4+3)) (lc E9.List):=Base.el Z0 (zz H10).2.2 r r
    refine Ag 42 [] (gdA (za H15)) r (Lz kk58 Z0 H10 r)<|Ag 43 [] (gdA (za H15)) r (Y.move r)<|Ag 44 [] (gdA (za H15)) r (Y.move r)<|Ag 45 [] (gdA (za H15)) r (Ix ke40 (Bc Z1) H12 r)<|Ag 46 [] (gdA (za H15)) r (Fe ziF (Bc Z1) H12 r)<|?_
    have Q17:Base w S (elv w U1 (S2.toNat*4+3)) (lc E11.List):=Base.el Z1 (zz H12).2.2 r r
    exact Ag 47 [] (gdA (za H15)) r (Lz kk58 Z1 H12 r)<|Ai fun R18 H19=>A1 48<|Xeg [] (gdA (za H15)) r (Cl [] zmT H19 r r1 ⟨(Bc Q16),(Bc Q17),⟨⟩⟩) fun _=>Ag 49 [] (gdA (za H15)) r (Y.not r)<|Ay 50 [] r (Pf H15 r)<|Az<|Bg () []
   exact Ne<|Wc r (fun H21=>Sr<|Qs 1 r<|Nx<|Wr<|Br<|Tr<|Er<|Br<|Jd<|Tr<|Re () []) fun H21=>Sk<|Bn<|Ne<|Rg<|Qs 3 r<|Nl<|Lg () []
  exact Wx<|Tx<|Ex<|Be<|Jg () []
 exact Ne<|Sr<|Qs 1 r<|Nx<|Wr<|Re () []
noncomputable def zef (s:List UInt8):Option (Int × Int):=
 bindC (loopO (fun (S1:Int)=>(if decide (S1≤7) then (some (decide (S1≤(s.length:Int))))
 else (some false)).bind (fun (T5:Bool)=>
 if T5=true then (bindC (loopO (fun (S9:Int × Int)=>if decide (S9.2≥0) then ((sidx s S9.2).bind fun E14=>
 some (.go (IntKind.i64.wrap (IntKind.i64.wrap (S9.1*128)+(Int.tmod (IntKind.i64.wrap (E14.toNat:Int)) 128)),IntKind.i64.wrap (S9.2 - 1))))
 else (some (.done (.go S9.1))))
 ((0:Int),IntKind.i64.wrap (S1 - 1)))
 (fun (T11:Int)=>(ssub s 0 S1).bind fun E16=>
 (zeZ T11).bind fun R18=>
 if decide (R18=E16) then (some (.done (.done (T11,S1))))
 else (some (.go (IntKind.i64.wrap (S1+1))))))
 else (some (.done (.go ())))))
 (1:Int))
 (fun (T3:Unit)=>some ((0:Int),(0:Int)))
theorem zm1 {s:List UInt8} :Cn Tryz.prog 111 [strV s] [] [] (zef s) (fun r (_:Unit)=>.tuple #[iv r.1,iv r.2]) fun _ _=>[]:=by
 unfold zef
 refine Ci Tryz.func111 r r ?_
 rintro w S -
 refine Sr<|Qs 2 r<|Nx<|Sq<|Sr<|Qs 1 r<|Nx<|Ju [] (fun _=>[]) r1 (?_) fun T3=>?_
 ·refine Wb<|Lu [0] (fun T=>[(4,iv T)]) r1 fun S1=>Sq<|Sq<|Jv [0,4] (fun T=>[(14,.bool T)]) r1 (Rg<|Qs 3 r<|It (fun H7=>Qg 2 (zd H7) r r<|Yg (gdA (zd H7)) (Y.slen ks9 r)<|Qg 1 (zd H7) r r<|Yo (Pt H7 r)<|Nl<|Bg () []) fun H7=>Of 4 (zt H7) r r<|Yo (Pf H7 r)<|Nl<|Bg () []) fun T5=>Ne<|Wc r (fun H8=>?_) fun H8=>?_
  ·refine Sn<|Sq<|Wb<|Sr<|Qs 1 r<|Nx<|Sq<|Sr<|Qs 3 r<|Nx<|Ju [0,4] (fun T=>[(5,iv T)]) r1 (?_) fun T11=>?_
   ·exact Wb<|Lu [0,4] (fun T=>[(5,iv T.1),(6,iv T.2)]) r1 fun S9=>Sq<|Sr<|Qs 2 r<|Nx<|Wc r (fun H13=>Sn<|Sq<|Wb<|Rg<|Qs 4 r<|Bi fun E14 H15=>Yo (Y.sidx H15 ks9 r r)<|Yo (Y.conv ki5 ki3 r)<|Yo (Y.rem (by decide) r r)<|Qs 2 r<|Nl<|Bn<|Ne<|Rg<|Qs 3 r<|Nl<|Lg () []) fun H13=>Wx<|Tx<|Ex<|Be<|Jg () []
   exact Ne<|Sq<|Dr [] r hMix<|Aq [0,2,3] [] r<|Ai fun E16 H17=>Ay 4 [] r (Y.ssub_to H17 ks9 r r)<|Ai fun R18 H19=>A1 1<|Xe [] r (Cl [] zjp H19 r r1) fun _=>Aq [5] [] r<|Az<|Ne<|Wc r (fun H21=>Sr<|Qs 4 r<|Nx<|Wr<|Br<|Tr<|Er<|Br<|Jd<|Tr<|Re () []) fun H21=>Sk<|Bn<|Ne<|Rg<|Qs 3 r<|Nl<|Lg () []
  exact Wx<|Tx<|Ex<|Be<|Jg () []
 exact Ne<|Sr<|Qs 2 r<|Nx<|Wr<|Re () []
noncomputable def zex (s:List UInt8) (at_:Int) (n:Int):Option (List Int × Int):=
 bindC (loopO (fun (S2:Int × Int × List Int)=>if decide (S2.2.1<n) then ((if decide (S2.1<0) then (some true)
 else (some (decide (S2.1>(s.length:Int))))).bind (fun (T7:Bool)=>
 if T7=true then (some (.done (.done (S2.2.2,(-1:Int)))))
 else ((ssub s S2.1 (s.length:Int)).bind fun E11=>
 (zef E11).bind fun R13=>
 if decide (R13.2=0) then (some (.done (.done (S2.2.2,(-1:Int)))))
 else ((app 8 S2.2.2 ([R13.1])).bind fun E19=>
 some (.go (IntKind.i64.wrap (S2.1+R13.2),IntKind.i64.wrap (S2.2.1+1),E19))))))
 else (some (.done (.go (S2.1,S2.2.2)))))
 (at_,(0:Int),([]:List Int)))
 (fun (T4:Int × List Int)=>some (T4.2,T4.1))
theorem zn7 {s:List UInt8} {at_:Int} {n:Int} :Cn Tryz.prog 68 [strV s,iv at_,iv n] [] [] (zex s at_ n) (fun r (X:Value)=>.tuple #[X,iv r.2]) fun r X=>[.own X (lc r.1)]:=by
 unfold zex
 refine Ci Tryz.func68 r r ?_
 rintro w S -
 refine Sr<|Qs 2 r<|Nx<|Sr<|Fo (Bs ([]:List Int) ke53 kz3) fun B1=>Qs 1 r<|Nx<|Sq<|Sr<|Qs 1 r<|Nx<|Jn Value [] [] (fun T X=>[(1,iv T.1),(8,X)]) (fun T X=>[.own X (lc T.2)]) r2 r2 (?_) fun T4 X5=>?_
 ·refine Wb<|Lp Value [0,2] [] (fun T X=>[(1,iv T.1),(8,X),(9,iv T.2.1)]) (fun T X=>[.own X (lc T.2.2)]) (.slice (some ⟨B1,0,none⟩) 0 0) [0] r2 r2 fun S2 X3=>Sq<|Sr<|Qs 3 r<|Nx<|Wc r (fun H6=>?_) fun H6=>?_
  ·refine Sn<|Sq<|Wb<|Sq<|Sq<|Jv [0,1,2,8,9] (fun T=>[(25,.bool T)]) r1 (Rg<|Qs 3 r<|It (fun H9=>Of 4 (zl H9) r r<|Yo (Pt H9 r)<|Nl<|Bg () [0]) fun H9=>Qg 2 (za H9) r r<|Yg (gdA (za H9)) (Y.slen ks9 r)<|Qg 1 (za H9) r r<|Yo (Pf H9 r)<|Nl<|Bg () [0]) fun T7=>Ne<|Wc r (fun H10=>Sr<|Qs 3 r<|Nx<|Wr<|Tr<|Br<|Tr<|Er<|Br<|Jd<|Tr<|Re X3 [0]) fun H10=>Sn<|Sr<|Qs 2 r<|Bi fun E11 H12=>Yo (Y.ssub_from H12 ks9 r r)<|Bi fun R13 H14=>Fo (Cl [] zm1 H14 r r1) fun _=>Qs 5 r<|Nx<|Sq<|Sr<|Qs 2 r<|Nx<|Wc r (fun H16=>Sr<|Qs 3 r<|Nx<|Wr<|Tr<|Br<|Tr<|Er<|Br<|Jd<|Tr<|Re X3 [0]) fun H16=>?_
   exact Sn<|Sr<|Qs 2 r<|Fo (Bs [R13.1] ke53 kz3) fun B17=>Bi fun E19 H20=>Fo (Ap [1] H20 ke53 kz3 r (Oc 0 r)) fun V18=>Qs 1 r<|Nx<|Rg<|Qs 4 r<|Nl<|Bn<|Ne<|Rg<|Qs 3 r<|Nl<|Lg V18 [0]
  exact Wx<|Tx<|Ex<|Be<|Jg X3 [0]
 exact Ne<|Sr<|Qs 4 r<|Nx<|Wr<|Re X5 [0]
noncomputable def zee (secret:List UInt8) (s:List UInt8):Option (Int × Int × Bool):=
 (zex s 0 2).bind fun R1=>
 (if decide (R1.2<0) then (some true)
 else (if decide (s=([])) then (some true)
 else ((idx R1.1 0).bind fun E8=>
 (idx R1.1 1).bind fun E10=>
 (zdd secret E8 E10).bind fun R12=>
 some (!(decide (R12=s)))))).bind (fun (T4:Bool)=>
 if T4=true then (some ((0:Int),(0:Int),false))
 else ((idx R1.1 0).bind fun E16=>
 (idx R1.1 1).bind fun E18=>
 some (E16,E18,true)))
theorem zlD {secret:List UInt8} {s:List UInt8} :Cn Tryz.prog 38 [strV secret,strV s] [] [] (zee secret s) (fun r (_:Unit)=>.tuple #[iv r.1,iv r.2.1,.bool r.2.2]) fun _ _=>[]:=by
 unfold zee
 refine Ci Tryz.func38 r r ?_
 rintro w S -
 refine Sr<|Qs 3 r<|Nx<|Sr<|Qs 1 r<|Bi fun R1 H2=>Fo (Cl [] zn7 H2 r r1) fun Y3=>Qs 5 r<|Nx<|Sq<|Sq<|Jv [7] (fun T=>[(31,.bool T)]) r1 (?_) fun T4=>?_
 ·refine Dr [0] r hMix<|Aq [0,1,2] [0] r<|Ia (fun H6=>Ax [3,4] [0] (zl H6) r r<|Ay 5 [0] r (Pt H6 r)<|Aq [6] [0] r<|Ax [7,8,9,10,11,12,13,14,15,16] [0] r r r<|Ay 17 [0] r (Pt r r)<|Az<|Bg () [0]) fun H6=>Ag 3 [0] (gdA (za H6)) r (Y.move r)<|Ag 4 [0] (gdA (za H6)) r (Y.seql r r)<|Ay 5 [0] r (Pf H6 r)<|Aq [6] [0] r<|Ia (fun H7=>Ax [7,8,9,10,11,12,13,14,15,16] [0] (zl H7) r r<|Ay 17 [0] r (Pt H7 r)<|Az<|Bg () [0]) fun H7=>Ag 7 [0] (gdA (za H7)) r (Y.move r)<|Ag 8 [0] (gdA (za H7)) r (Y.move r)<|Ai fun E8 H9=>Ag 9 [0] (gdA (za H7)) r (Ix ke53 (Oc 0 r) H9 r)<|Ag 10 [0] (gdA (za H7)) r (Le kk3 (Oc 0 r) H9 r)<|Ag 11 [0] (gdA (za H7)) r (Y.move r)<|Ai fun E10 H11=>?_
  exact Ag 12 [0] (gdA (za H7)) r (Ix ke53 (Oc 0 r) H11 r)<|Ag 13 [0] (gdA (za H7)) r (Le kk3 (Oc 0 r) H11 r)<|Ag 15 [0] (gdA (za H7)) r (Y.move r)<|Ai fun R12 H13=>A1 14<|Xeg [0] (gdA (za H7)) r (Cl [] zhI H13 r r1) fun _=>Ag 16 [0] (gdA (za H7)) r (Y.sneq r r)<|Ay 17 [0] r (Pf H7 r)<|Az<|Bg () [0]
 exact Ne<|Wc r (fun H15=>Sr<|Qs 3 r<|Nx<|Wr<|Tr<|Re () []) fun H15=>Sn<|Sq<|Dr [0] r hMix<|Aq [0] [0] r<|Ai fun E16 H17=>Ay 1 [0] r (Ix ke53 (Oc 0 r) H17 r)<|Ay 2 [0] r (Le kk3 (Oc 0 r) H17 r)<|Aq [3] [0] r<|Ai fun E18 H19=>Ay 4 [0] r (Ix ke53 (Oc 0 r) H19 r)<|Ay 5 [0] r (Le kk3 (Oc 0 r) H19 r)<|Aq [6,7,8] [0] r<|Az<|Ne<|Wr<|Re () []
noncomputable def zfi (secret:List UInt8) (c:Call):Option Int:=
 (zee secret c.Token).bind fun R2=>
 (if !R2.2.2 then (some true)
 else ((zbd c.Kind 5 11).bind fun R8=>
 some (!R8))).bind (fun (T5:Bool)=>
 if T5=true then (some (0:Int))
 else (some R2.1))
theorem zkl {secret:List UInt8} {c:Call} {U0:Value} :Cn Tryz.prog 24 [strV secret,.agg #[iv c.Kind,strV c.Token,iv c.Tenant,iv c.N,strV c.Key,strV c.To,U0]] [] [(U0,lc c.Ops)] (zfi secret c) (fun r (_:Unit)=>iv r) fun _ _=>[]:=by
 unfold zfi
 refine Ci Tryz.func24 r r ?_
 rintro w S ⟨Z0,-⟩
 refine Sr<|Fo (Bx r (Ca ⟨Op',Op',Op',Op',Op',Op',Ob Z0,⟨⟩⟩)) fun B1=>Qs 1 r<|Nx<|Sr<|Qs 1 r<|Yo (Fb zj9 r)<|Yo (Lb 0 kk9 r)<|Bi fun R2 H3=>Fo (Cl [] zlD H3 r r1) fun _=>Qs 7 r<|Nx<|Sq<|Sq<|Jb Unit [5] [] (fun T _=>[(23,.bool T)]) (fun _ _=>[]) r2 r2 (?_) fun T5 X6=>?_
 ·exact Rg<|Qs 3 r<|It (fun H7=>Of 4 (zl H7) r r<|Yo (Pt H7 r)<|Nl<|Bg () []) fun H7=>Yg (gdA (za H7)) (Fb z7 r)<|Yg (gdA (za H7)) (Lb 0 kk3 r)<|Bi fun R8 H9=>Fg (gdA (za H7)) (Cl [] zc3 H9 r r1) fun _=>Qg 1 (za H7) r r<|Yo (Pf H7 r)<|Nl<|Bg () []
 exact Ne<|Wc r (fun H11=>Sr<|Qs 1 r<|Nx<|Wr<|Tr<|Re () []) fun H11=>Sn<|Sr<|Qs 2 r<|Nx<|Wr<|Re () []
noncomputable def zgh (c:Call):Option Call:=
 (app 40 ([]:List Op) c.Ops).bind fun E5=>
 some (⟨c.Kind,c.Token,c.Tenant,c.N,c.Key,c.To,E5⟩:Call)
theorem zm4 {c:Call} {U0:Value} :Cn Tryz.prog 25 [.agg #[iv c.Kind,strV c.Token,iv c.Tenant,iv c.N,strV c.Key,strV c.To,U0]] [] [(U0,lc c.Ops)] (zgh c) (fun r (X:Value)=>.agg #[iv r.Kind,strV r.Token,iv r.Tenant,iv r.N,strV r.Key,strV r.To,X]) fun r X=>[.own X (lc r.Ops)]:=by
 unfold zgh
 refine Ci Tryz.func25 r r ?_
 rintro w S ⟨Z0,-⟩
 exact Sr<|Fo (Bx r (Ca ⟨Op',Op',Op',Op',Op',Op',Ob Z0,⟨⟩⟩)) fun B1=>Fo (Al kz29 r) fun B2=>Nx<|Sr<|Fo (Bs ([]:List Op) ke27 kz120) fun B3=>Yo (Fb zf9 r)<|Yo (Lb 2 kk27 r)<|Bi fun E5 H6=>Fo (Ap [0] H6 ke27 kz120 r (Bc Z0)) fun V4=>Yo (Fb zf9 r)<|Fu (Sb 2 kk27 r (Co 0) r)<|Nx<|Sr<|Yo (Lb 2 kk29 r)<|Fu (Sb 1 kk29 r (Ca ⟨Op',Op',Op',Op',Op',Op',Ow' 0,⟨⟩⟩) r)<|Nx<|Wr<|Rf V4 [0] (RV.cell 1 r r kk29 r Rz)
noncomputable def zge (secret:List UInt8) (l:List Call) (tenant:Int):Option (List Call):=
 bindC (loopO (fun (S2:Int × List Call)=>if decide (S2.1<(l.length:Int)) then (bindC ((idx l S2.1).bind fun E9=>
 (zfi secret E9).bind fun R12=>
 (if !(decide (R12=0)) then (if !(decide (R12=tenant)) then (some true)
 else (if decide (E9.Kind=13) then (some (!(decide (E9.Tenant=tenant))))
 else (some false)))
 else (if decide (E9.Kind=13) then (some (!(decide (E9.Tenant=tenant))))
 else (some false))).bind (fun (T15:Bool)=>
 if T15=true then (some (.go S2.2))
 else ((zgh E9).bind fun R23=>
 (app 96 S2.2 ([R23])).bind fun E28=>
 some (.go E28))))
 (fun (T7:List Call)=>some (.go (IntKind.i64.wrap (S2.1+1),T7))))
 else (some (.done (.go S2.2))))
 ((0:Int),([]:List Call)))
 (fun (T4:List Call)=>some T4)
theorem zoP {secret:List UInt8} {l:List Call} {tenant:Int} {U0:Value} :Cn Tryz.prog 11 [strV secret,U0,iv tenant] [] [(U0,lc l)] (zge secret l tenant) (fun _ (X:Value)=>X) fun r X=>[.own X (lc r)]:=by
 unfold zge
 refine Ci Tryz.func11 r r ?_
 rintro w S ⟨Z0,-⟩
 refine Sr<|Qs 1 r<|Nx<|Sr<|Fo (Bk [] ke24 kz29 r (Qz)) fun B1=>Kt (Ha [0] ([]:List Call) r Cz)<|Qs 1 r<|Nx<|Sq<|Sr<|Qs 1 r<|Nx<|Jn Value [] [] (fun _ X=>[(7,X)]) (fun T X=>[.own X (lc T)]) r2 r2 (?_) fun T4 X5=>?_
 ·refine Wb<|Lp Value [0,1,2] [] (fun T X=>[(7,X),(8,iv T.1)]) (fun T X=>[.own X (lc T.2)]) (.slice (some ⟨B1,0,none⟩) 0 0) [0] r2 r2 fun S2 X3=>Sq<|Sr<|Qs 2 r<|Yo (Ln ke24 (Bc Z0) r)<|Qs 1 r<|Nx<|Wc r (fun H6=>?_) fun H6=>?_
  ·refine Sn<|Sq<|Jn Value [0,1,2,8] [] (fun _ X=>[(7,X)]) (fun T X=>[.own X (lc T)]) r2 r2 (?_) fun T7 X8=>?_
   ·refine Wb<|Sr<|Qs 3 r<|Bi fun E9 H10=>Yo (Ix ke24 (Bc Z0) H10 r)<|?_
    have Q11:Base w S (elv w U0 (S2.1.toNat*7+6)) (lc E9.Ops):=Base.el Z0 (zz H10).2.2 r r
    refine Yo (Lz kk29 Z0 H10 r)<|Bi fun R12 H13=>Fo (Cl [] zkl H13 r r1 ⟨(Bc Q11),⟨⟩⟩) fun _=>Qs 1 r<|Nx<|Sq<|Sq<|Jv [0,1,2,7,8] (fun T=>[(46,.bool T)]) r1 (?_) fun T15=>?_
    ·refine Rg<|Qs 3 r<|It (fun H17=>?_) fun H17=>?_
     ·refine Qg 3 (zd H17) r r<|Yo (Pt H17 r)<|Qs 1 r<|It (fun H18=>Of 7 (zl H18) r r<|Ou 7 r r<|Of 1 (zl H18) r r<|Yo (Pt H18 r)<|Nl<|Bg () [0]) fun H18=>Qg 2 (za H18) r r<|Yg (gdA (za H18)) (Ix ke24 (Bc Z0) H10 r)<|Yg (gdA (za H18)) (Fe z7 (Bc Z0) H10 r)<|Yg (gdA (za H18)) (Le kk3 (Bc Z0) H10 r)<|Qg 2 (za H18) r r<|It (fun H19=>Qg 2 (zd H19) r r<|Yg (gdA (zd H19)) (Ix ke24 (Bc Z0) H10 r)<|Yg (gdA (zd H19)) (Fe zcU (Bc Z0) H10 r)<|Yg (gdA (zd H19)) (Le kk3 (Bc Z0) H10 r)<|Qg 2 (zd H19) r r<|Yg (gdA (za H18)) (Pt H19 r)<|Yo (Pf H18 r)<|Nl<|Bg () [0]) fun H19=>?_
      exact Of 7 (zt H19) r r<|Yg (gdA (za H18)) (Pf H19 r)<|Yo (Pf H18 r)<|Nl<|Bg () [0]
     exact Of 3 (zt H17) r r<|Yo (Pf H17 r)<|Qs 1 r<|Qg 2 r r r<|Yg (gdA r) (Ix ke24 (Bc Z0) H10 r)<|Yg (gdA r) (Fe z7 (Bc Z0) H10 r)<|Yg (gdA r) (Le kk3 (Bc Z0) H10 r)<|Qg 2 r r r<|It (fun H20=>Qg 2 (zd H20) r r<|Yg (gdA (zd H20)) (Ix ke24 (Bc Z0) H10 r)<|Yg (gdA (zd H20)) (Fe zcU (Bc Z0) H10 r)<|Yg (gdA (zd H20)) (Le kk3 (Bc Z0) H10 r)<|Qg 2 (zd H20) r r<|Yg (gdA r) (Pt H20 r)<|Yo (Pf r r)<|Nl<|Bg () [0]) fun H20=>Of 7 (zt H20) r r<|Yg (gdA r) (Pf H20 r)<|Yo (Pf r r)<|Nl<|Bg () [0]
    refine Ne<|Wc r (fun H21=>Wx<|Tx<|Be<|Jg X3 [0]) fun H21=>Sn<|Rg<|Qs 3 r<|Yo (Ix ke24 (Bc Z0) H10 r)<|?_
    have Q22:Base w S (elv w U0 (S2.1.toNat*7+6)) (lc E9.Ops):=Base.el Z0 (zz H10).2.2 r r
    exact Yo (Lz kk29 Z0 H10 r)<|Bi fun R23 H24=>Fo (Cl [] zm4 H24 r r1 ⟨(Bc Q22),⟨⟩⟩) fun Y25=>Fo (Bk [ic R23.Kind,.str R23.Token,ic R23.Tenant,ic R23.N,.str R23.Key,.str R23.To,.raw Y25] ke24 kz29 r (Qc (Ca ⟨Op',Op',Op',Op',Op',Op',Ow' 0,⟨⟩⟩)<|Qz)) fun B26=>Kt (Ha [0,0] ([R23]:List Call) r (Ck (Ck (Ck (Ck (Ck (Ck (Cf Cz))))))))<|Bi fun E28 H29=>Fo (Aw [1,0] H29 ke24 kz29 r) fun V27=>Qs 1 r<|Nl<|Bn<|Jg V27 [0]
   exact Ne<|Rg<|Qs 3 r<|Nl<|Lg X8 [0]
  exact Wx<|Tx<|Ex<|Be<|Jg X3 [0]
 exact Ne<|Sr<|Qs 2 r<|Nx<|Wr<|Re X5 [0]
noncomputable def zgI (secret:List UInt8) (l:List Call) (r_:List Reply) (tenant:Int):Option (List Reply):=
 bindC (loopO (fun (S2:Int × List Reply)=>(if decide (S2.1<(l.length:Int)) then (some (decide ((l.length:Int)=(r_.length:Int))))
 else (some false)).bind (fun (T6:Bool)=>
 if T6=true then ((if !(decide (tenant=0)) then ((idx l S2.1).bind fun E13=>
 (zfi secret E13).bind fun R16=>
 some (decide (R16=tenant)))
 else (some false)).bind (fun (T10:Bool)=>
 bindC (if T10=true then ((idx r_ S2.1).bind fun E22=>
 (app 32 ([]:List KV) E22.List).bind fun E28=>
 (app 56 S2.2 ([(⟨E22.Code,E22.N,E22.Text,E28⟩:Reply)])).bind fun E32=>
 some (.go E32))
 else (some (.go S2.2)))
 (fun (T19:List Reply)=>some (.go (IntKind.i64.wrap (S2.1+1),T19)))))
 else (some (.done (.go S2.2)))))
 ((0:Int),([]:List Reply)))
 (fun (T4:List Reply)=>some T4)
theorem zpp {secret:List UInt8} {l:List Call} {r_:List Reply} {tenant:Int} {U0 U1:Value} :Cn Tryz.prog 12 [strV secret,U0,U1,iv tenant] [] [(U0,lc l),(U1,lc r_)] (zgI secret l r_ tenant) (fun _ (X:Value)=>X) fun r X=>[.own X (lc r)]:=by
 unfold zgI
 refine Ci Tryz.func12 r r ?_
 rintro w S ⟨Z0,Z1,-⟩
 refine Sr<|Qs 1 r<|Nx<|Sr<|Fo (Bk [] ke40 kz60 r (Qz)) fun B1=>Kt (Ha [0] ([]:List Reply) r Cz)<|Qs 1 r<|Nx<|Sq<|Sr<|Qs 1 r<|Nx<|Jn Value [] [] (fun _ X=>[(9,X)]) (fun T X=>[.own X (lc T)]) r2 r2 (?_) fun T4 X5=>?_
 ·refine Wb<|Lp Value [0,1,2,3] [] (fun T X=>[(9,X),(10,iv T.1)]) (fun T X=>[.own X (lc T.2)]) (.slice (some ⟨B1,0,none⟩) 0 0) [0] r2 r2 fun S2 X3=>Sq<|Sq<|Jv [0,1,2,3,9,10] (fun T=>[(23,.bool T)]) r1 (?_) fun T6=>?_
  ·exact Rg<|Qs 2 r<|Yo (Ln ke24 (Bc Z0) r)<|Qs 2 r<|It (fun H8=>Qg 1 (zd H8) r r<|Yg (gdA (zd H8)) (Ln ke24 (Bc Z0) r)<|Qg 1 (zd H8) r r<|Yg (gdA (zd H8)) (Ln ke40 (Bc Z1) r)<|Qg 1 (zd H8) r r<|Yo (Pt H8 r)<|Nl<|Bg () [0]) fun H8=>Of 5 (zt H8) r r<|Yo (Pf H8 r)<|Nl<|Bg () [0]
  refine Ne<|Wc r (fun H9=>?_) fun H9=>?_
  ·refine Sn<|Sq<|Wb<|Sq<|Jv [0,1,2,3,9,10] (fun T=>[(37,.bool T)]) r1 (?_) fun T10=>?_
   ·refine Rg<|Qs 3 r<|It (fun H12=>?_) fun H12=>?_
    ·refine Qg 3 (zd H12) r r<|Bi fun E13 H14=>Yg (gdA (zd H12)) (Ix ke24 (Bc Z0) H14 r)<|?_
     have Q15:Base w S (elv w U0 (S2.1.toNat*7+6)) (lc E13.Ops):=Base.el Z0 (zz H14).2.2 r r
     exact Yg (gdA (zd H12)) (Lz kk29 Z0 H14 r)<|Bi fun R16 H17=>Fg (gdA (zd H12)) (Cl [] zkl H17 r r1 ⟨(Bc Q15),⟨⟩⟩) fun _=>Qg 2 (zd H12) r r<|Yo (Pt H12 r)<|Nl<|Bg () [0]
    exact Of 8 (zt H12) r r<|Yo (Pf H12 r)<|Nl<|Bg () [0]
   refine Ne<|Jn Value [0,1,2,3,10] [] (fun _ X=>[(9,X)]) (fun T X=>[.own X (lc T)]) r2 r2 (?_) fun T19 X20=>?_
   ·refine Wc r (fun H21=>?_) fun H21=>?_
    ·refine Sr<|Qs 2 r<|Bi fun E22 H23=>Yo (Ix ke40 (Bc Z1) H23 r)<|?_
     have Q24:Base w S (elv w U1 (S2.1.toNat*4+3)) (lc E22.List):=Base.el Z1 (zz H23).2.2 r r
     refine Yo (Lz kk60 Z1 H23 r)<|Fo (Al kz60 r) fun B25=>Fu (Sb 0 kk60 r (Ca ⟨Op',Op',Op',Ob Q24,⟨⟩⟩) r)<|Nx<|Sr<|Fo (Bs ([]:List KV) ke58 kz78) fun B26=>Yo (Fb ziF r)<|Yo (Lb 1 kk58 r)<|Bi fun E28 H29=>Fo (Ap [0] H29 ke58 kz78 r (Bc Q24)) fun V27=>Yo (Fb ziF r)<|Fu (Sb 1 kk58 r (Co 0) r)<|Nx<|Rg<|Qs 1 r<|Yo (Lb 1 kk60 r)<|Fo (Bk [ic E22.Code,ic E22.N,.str E22.Text,.raw V27] ke40 kz60 r (Qc (Ca ⟨Op',Op',Op',Ow' 0,⟨⟩⟩)<|Qz)) fun B30=>Kt (Ha [0,0] ([(⟨E22.Code,E22.N,E22.Text,E28⟩:Reply)]:List Reply) r (Ck (Ck (Ck (Cf Cz)))))<|Bi fun E32 H33=>?_
     exact Fo (Aw [2,0] H33 ke40 kz60 r) fun V31=>Qs 1 r<|Nl<|Jg V31 [0]
    exact Sk<|Jg X3 [0]
   exact Bn<|Ne<|Rg<|Qs 3 r<|Nl<|Lg X20 [0]
  exact Wx<|Tx<|Ex<|Be<|Jg X3 [0]
 exact Ne<|Sr<|Qs 2 r<|Nx<|Wr<|Re X5 [0]
noncomputable def zec (code:List UInt8):Option Bool:=
 (zi9 code).bind fun R1=>
 if R1=true then (some true)
 else ((zcD code).bind fun R5=>
 bindC (loopO (fun (S9:Int × List (Option Call) × List Call)=>if decide (S9.1<(S9.2.1.length:Int)) then ((idx S9.2.1 S9.1).bind fun E14=>
 (E14).bind fun E17=>
 bindC (if decide (E17.Kind=14) then (some (.go (0:Int)))
 else (some (.go E17.N)))
 (fun (T21:Int)=>(app 96 S9.2.2 ([(⟨E17.Kind,E17.Token,E17.Tenant,T21,E17.Key,E17.To,E17.Ops⟩:Call)])).bind fun E26=>
 some (.go (IntKind.i64.wrap (S9.1+1),(S9.2.1.set S9.1.toNat none),E26))))
 else (some (.done (.go S9.2.2))))
 ((0:Int),(R5.2.2.2.map some),([]:List Call)))
 (fun (T11:List Call)=>(zc8 R5.1 R5.2.1 R5.2.2.1 T11).bind fun R28=>
 ((zdV T11).bind fun R34=>
 if !R34 then (some true)
 else (some (!(decide ((R28.2.length:Int)=(T11.length:Int)))))).bind (fun (T32:Bool)=>
 if T32=true then ((if decide ((R28.2.length:Int)=0) then ((zdV T11).bind fun R42=>
 some R42)
 else (some false)).bind (fun (T39:Bool)=>
 some T39))
 else (bindC (loopO (fun (S45:Int)=>if decide (S45≤3) then ((zfY R5.1 T11 S45).bind fun R50=>
 (zc8 R5.1 R5.2.1 R5.2.2.1 R50).bind fun R53=>
 (zfJ R5.1 T11 R28.2 S45).bind fun R57=>
 (zfJ R5.1 R50 R53.2 S45).bind fun R60=>
 ((zdl R57 R60).bind fun R65=>
 if !R65 then (some true)
 else ((zge R5.1 T11 S45).bind fun R69=>
 if !(decide ((R50.length:Int)=(R69.length:Int))) then (some true)
 else ((zgI R5.1 T11 R28.2 S45).bind fun R73=>
 some (!(decide ((R57.length:Int)=(R73.length:Int))))))).bind (fun (T63:Bool)=>
 if T63=true then (some (.done (.done false)))
 else (some (.go (IntKind.i64.wrap (S45+1))))))
 else (some (.done (.go ()))))
 (1:Int))
 (fun (T47:Unit)=>some true)))))
theorem zmS {code:List UInt8} {U0:Value} :Cn Tryz.prog 3 [U0] [] [(U0,lc code)] (zec code) (fun r (_:Unit)=>.bool r) fun _ _=>[]:=by
 unfold zec
 refine Ci Tryz.func3 r r ?_
 rintro w S ⟨Z0,-⟩
 refine Sr<|Qs 1 r<|Nx<|Sq<|Sr<|Qs 1 r<|Bi fun R1 H2=>Fo (Cl [] zqy H2 r r1 ⟨(Bc Z0),⟨⟩⟩) fun _=>Nx<|Wc r (fun H4=>Sr<|Qs 1 r<|Nx<|Wr<|Tr<|Re () []) fun H4=>Sn<|Sr<|Qs 1 r<|Bi fun R5 H6=>Fo (Cl [] zjo H6 r r1 ⟨(Bc Z0),⟨⟩⟩) fun Y7=>Qs 9 r<|Nx<|Sr<|Fo (Bk [] ke24 kz29 r (Qz)) fun B8=>Kt (Ha [0] ([]:List Call) r Cz)<|Qs 1 r<|Nx<|Sq<|Sr<|Qs 1 r<|Nx<|Jn Value [3,4,5] [] (fun _ X=>[(7,X)]) (fun T X=>[.own X (lc T)]) r2 r2 (?_) fun T11 X12=>?_
 ·refine Wb<|Kw (Hm [1] r)<|Lp Value [3,4,5,6] [] (fun T X=>[(7,X),(8,iv T.1)]) (fun T X=>[.own Y7 (lc T.2.1),.own X (lc T.2.2)]) (.slice (some ⟨B8,0,none⟩) 0 0) [0,0] r2 r2 fun S9 X10=>Sq<|Sr<|Qs 2 r<|Yo (Ln ke24 (Oc 0 r) r)<|Qs 1 r<|Nx<|Wc r (fun H13=>?_) fun H13=>?_
  ·refine Sn<|Sq<|Wb<|Sr<|Qs 2 r<|Bi fun E14 H15=>Yo (Ix ke24 (Oc 0 r) H15 r)<|TO.fact (zgc (Can.own 0 r) H15) fun H16=>Bi fun E17 H18=>Gt (X:=Value) (Ho 1 [0] (zgq H15 H18) r r1) fun X19=>Yo (Lh 0 kk29 (zgq H15 H18) r)<|Fo (Al kz29 r) fun B20=>Fu (Sb 0 kk29 r (Ca ⟨Op',Op',Op',Op',Op',Op',Ow' 2,⟨⟩⟩) r)<|Nx<|Sq<|Sr<|Yo (Fb z7 r)<|Yo (Lb 0 kk3 r)<|Qs 1 r<|Nx<|Jn Unit [3,4,5,6,7,8,9] [1,2,1] (fun _ _=>[]) (fun T _=>[.box B20 29 [iv E17.Kind,strV E17.Token,iv E17.Tenant,iv T,strV E17.Key,strV E17.To,X19]]) r2 r2 (Wc r (fun H23=>Rg<|Yo (Fb zdI r)<|Fu (Sb 0 kk3 r (Cp r) r)<|Nl<|Jg () [1,2,1,0]) fun H23=>Sk<|Jg () [1,2,1,0]) fun T21 X22=>?_
   exact Ne<|Rg<|Qs 1 r<|Yo (Lb 3 kk29 r)<|Fo (Bk [ic E17.Kind,.str E17.Token,ic E17.Tenant,ic T21,.str E17.Key,.str E17.To,.raw X19] ke24 kz29 r (Qc (Ca ⟨Op',Op',Op',Op',Op',Op',Ow' 2,⟨⟩⟩)<|Qz)) fun B24=>Kt (Ha [0,2] ([(⟨E17.Kind,E17.Token,E17.Tenant,T21,E17.Key,E17.To,E17.Ops⟩:Call)]:List Call) r (Ck (Ck (Ck (Ck (Ck (Ck (Cf Cz))))))))<|Bi fun E26 H27=>Fo (Aw [2,0] H27 ke24 kz29 r) fun V25=>Qs 1 r<|Nl<|Bn<|Ne<|Rg<|Qs 3 r<|Nl<|Ke (Hc (α:=(Option Call)) [1] none (zgq H15 H18) r (Cd (Cd (Cd (Cd (Cd (Cd (Cd Cz))))))))<|Lg V25 [0,0]
  exact Wx<|Tx<|Ex<|Be<|Jg X10 [1]
 refine Ne<|Sr<|Qs 4 r<|Bi fun R28 H29=>Fo (Cl [] zhy H29 r r1 ⟨(Oc 0 r),⟨⟩⟩) fun Y30=>Qs 3 r<|Fo (Al kz39 r) fun B31=>Fu (Sb 0 kk39 r (Ca ⟨Op',Op',Ow' 1,Op',Op',Ow' 2,Ow' 3,Ow' 4,Ow' 5,Op',⟨⟩⟩) r)<|Qs 1 r<|Nx<|Sq<|Sq<|Jb Unit [3,4,5,7,11] [7,6] (fun T _=>[(63,.bool T)]) (fun _ _=>[]) r2 r2 (?_) fun T32 X33=>?_
 ·exact Rg<|Qs 1 r<|Bi fun R34 H35=>Fo (Cl [] zit H35 r r1 ⟨(Oc 7 r),⟨⟩⟩) fun _=>Qs 2 r<|It (fun H37=>Of 5 (zl H37) r r<|Yo (Pt H37 r)<|Nl<|Bg () [7,6]) fun H37=>Qg 1 (za H37) r r<|Yg (gdA (za H37)) (Ln ke40 (Oc 6 r) r)<|Qg 1 (za H37) r r<|Yg (gdA (za H37)) (Ln ke24 (Oc 7 r) r)<|Qg 1 (za H37) r r<|Yo (Pf H37 r)<|Nl<|Bg () [7,6]
 refine Ne<|Wc r (fun H38=>?_) fun H38=>?_
 ·refine Sq<|Jb Unit [] [] (fun T _=>[(2,.bool T)]) (fun _ _=>[]) r2 r2 (?_) fun T39 X40=>?_
  ·exact Rg<|Qs 1 r<|Yo (Ln ke40 (Oc 1 r) r)<|Qs 2 r<|It (fun H41=>Qg 1 (zd H41) r r<|Bi fun R42 H43=>Fg (gdA (zd H41)) (Cl [] zit H43 r r1 ⟨(Oc 0 r),⟨⟩⟩) fun _=>Yo (Pt H41 r)<|Qs 1 r<|Nl<|Bg () []) fun H41=>Of 2 (zt H41) r r<|Yo (Pf H41 r)<|Qs 1 r<|Nl<|Bg () []
  exact Ne<|Wr<|Tr<|Re () []
 refine Sn<|Sq<|Sr<|Qs 1 r<|Nx<|Jn Unit [] [] (fun _ _=>[]) (fun _ _=>[]) r2 r2 (?_) fun T47 X48=>?_
 ·refine Wb<|Lu [3,4,5,7,11] (fun T=>[(12,iv T)]) r1 fun S45=>Sq<|Sr<|Qs 2 r<|Nx<|Wc r (fun H49=>?_) fun H49=>?_
  ·refine Sn<|Sq<|Wb<|Sr<|Qs 3 r<|Bi fun R50 H51=>Fo (Cl [] zol H51 r r1 ⟨(Oc 0 r),⟨⟩⟩) fun Y52=>Qs 1 r<|Nx<|Sr<|Qs 4 r<|Bi fun R53 H54=>Fo (Cl [] zhy H54 r r1 ⟨(Oc 0 r),⟨⟩⟩) fun Y55=>Qs 3 r<|Fo (Al kz39 r) fun B56=>Fu (Sb 0 kk39 r (Ca ⟨Op',Op',Ow' 1,Op',Op',Ow' 2,Ow' 3,Ow' 4,Ow' 5,Op',⟨⟩⟩) r)<|Qs 1 r<|Nx<|Sr<|Qs 4 r<|Bi fun R57 H58=>Fo (Cl [] zkX H58 r r1 ⟨(Oc 8 r),(Oc 9 r),⟨⟩⟩) fun Y59=>Qs 1 r<|Nx<|Sr<|Qs 4 r<|Bi fun R60 H61=>Fo (Cl [] zkX H61 r r1 ⟨(Oc 8 r),(Oc 7 r),⟨⟩⟩) fun Y62=>Qs 1 r<|Nx<|Sq<|Jb Unit [3,4,5,7,11,12] [10,10] (fun T _=>[(121,.bool T)]) (fun _ _=>[]) r2 r2 (?_) fun T63 X64=>?_
   ·refine Rg<|Qs 2 r<|Bi fun R65 H66=>Fo (Cl [] zkd H66 r r1 ⟨(Oc 1 r),(Oc 0 r),⟨⟩⟩) fun _=>Qs 2 r<|It (fun H68=>Of 8 (zl H68) r r<|Yo (Pt H68 r)<|Qs 1 r<|Of 9 r r r<|Yo (Pt r r)<|Nl<|Bg () [10,10]) fun H68=>Qg 1 (za H68) r r<|Yg (gdA (za H68)) (Ln ke24 (Oc 9 r) r)<|Qg 3 (za H68) r r<|Bi fun R69 H70=>Fg (gdA (za H68)) (Cl [] zoP H70 r r1 ⟨(Oc 10 r),⟨⟩⟩) fun Y71=>Yg (gdA (za H68)) (Ln ke24 (Oc 0 r) r)<|Qg 1 (za H68) r r<|Yo (Pf H68 r)<|Qs 1 r<|It (fun H72=>Of 9 (zl H72) r r<|Yo (Pt H72 r)<|Nl<|Bg () [11,11]) fun H72=>?_
    exact Qg 1 (za H72) r r<|Yg (gdA (za H72)) (Ln ke40 (Oc 2 r) r)<|Qg 4 (za H72) r r<|Bi fun R73 H74=>Fg (gdA (za H72)) (Cl [] zpp H74 r r1 ⟨(Oc 11 r),(Oc 12 r),⟨⟩⟩) fun Y75=>Yg (gdA (za H72)) (Ln ke40 (Oc 0 r) r)<|Qg 1 (za H72) r r<|Yo (Pf H72 r)<|Nl<|Bg () [12,12]
   exact Ne<|Wc r (fun H76=>Sr<|Qs 1 r<|Nx<|Wr<|Br<|Tr<|Er<|Br<|Jd<|Tr<|Re () []) fun H76=>Sk<|Bn<|Ne<|Rg<|Qs 3 r<|Nl<|Lg () [0,0]
  exact Wx<|Tx<|Ex<|Be<|Jg () []
 exact Ne<|Sr<|Qs 1 r<|Nx<|Wr<|Re () []
end Go.Proofs.YtfgjhefhlabpkaaGreat
