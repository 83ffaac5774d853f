/-
  The functions that a law reaches, each as a pure function, with the proof that the program computes it, and the step from a pure law to the given statement. Conditions: none.
-/
import Derived.Test.YtfgjhefhlabpkaaGreatQ1
set_option linter.unusedVariables false
set_option maxRecDepth 100000
set_option maxHeartbeats 4000000
namespace Go.Proofs.YtfgjhefhlabpkaaGreat
open Go Sl
noncomputable def zet (c:L1Cur) (secret:List UInt8) (most:Int):Option (List Call × L1Cur):=
 bindC (loopO (fun (S2:Int × Int × Int × List Call)=>if decide (S2.2.2.1≤2) then ((z9 (⟨c.b,S2.1,S2.2.1⟩:L1Cur) (8:Int)).bind fun R7=>
 bindC (if !R7.1 then ((zcE (toU8 S2.2.2.1)).bind fun R13=>
 (app 96 S2.2.2.2 ([(⟨1,[],S2.2.2.1,40,R13,[],[]⟩:Call)])).bind fun E19=>
 some (.go E19))
 else (some (.go S2.2.2.2)))
 (fun (T10:List Call)=>some (.go (R7.2.i,R7.2.h,IntKind.i64.wrap (S2.2.2.1+1),T10))))
 else (some (.done (.go (S2.1,S2.2.1,S2.2.2.2)))))
 (c.i,c.h,(1:Int),([]:List Call)))
 (fun (T4:Int × Int × List Call)=>(zx (⟨c.b,T4.1,T4.2.1⟩:L1Cur) most).bind fun R21=>
 bindC (loopO (fun (S24:Int × Int × Int × List Call)=>if decide (S24.2.2.1>0) then ((ze1 (⟨c.b,S24.1,S24.2.1⟩:L1Cur) secret).bind fun R29=>
 (app 96 S24.2.2.2 ([R29.1])).bind fun E34=>
 some (.go (R29.2.i,R29.2.h,IntKind.i64.wrap (S24.2.2.1 - 1),E34)))
 else (some (.done (.go (S24.1,S24.2.1,S24.2.2.2)))))
 (R21.2.i,R21.2.h,R21.1,T4.2.2))
 (fun (T26:Int × Int × List Call)=>(z9 (⟨c.b,T26.1,T26.2.1⟩:L1Cur) (60:Int)).bind fun R36=>
 bindC (if R36.1=true then ((zx (⟨c.b,R36.2.i,R36.2.h⟩:L1Cur) (2:Int)).bind fun R42=>
 bindC (loopO (fun (S45:List Call)=>if decide ((S45.length:Int)<IntKind.i64.wrap ((120:Int)+R42.1)) then ((app 96 S45 ([(⟨12,[],0,0,[],[],[]⟩:Call)])).bind fun E53=>
 some (.go E53))
 else (some (.done (.go S45))))
 T26.2.2)
 (fun (T47:List Call)=>some (.go (R42.2.i,R42.2.h,T47))))
 else (some (.go (R36.2.i,R36.2.h,T26.2.2))))
 (fun (T39:Int × Int × List Call)=>some (T39.2.2,(⟨c.b,T39.1,T39.2.1⟩:L1Cur)))))
theorem zmn {c:L1Cur} {secret:List UInt8} {most:Int} {U0:Value} {U1:Nat} :Cn Tryz.prog 18 [pt U1,strV secret,iv most] [.box U1 66 [U0,iv c.i,iv c.h]] [(U0,lc c.b)] (zet c secret most) (fun _ (X:Value)=>X) fun r X=>[.box U1 66 [U0,iv r.2.i,iv r.2.h],.own X (lc r.1)]:=by
 unfold zet
 refine Ci Tryz.func18 r r ?_
 rintro w S ⟨Z0,-⟩
 refine Sr<|Qs 1 r<|Nx<|Sr<|Fo (Bk [] ke24 kz29 r (Qz)) fun B1=>Kt (Ha [0] ([]:List Call) r Cz)<|Qs 1 r<|Nx<|Sq<|Sr<|Qs 1 r<|Nx<|Jn Value [0,1,2] [] (fun _ X=>[(7,X)]) (fun T X=>[.box U1 66 [U0,iv T.1,iv T.2.1],.own X (lc T.2.2)]) r2 r2 (?_) fun T4 X5=>?_
 ·refine Wb<|Lp Value [0,1,2] [] (fun T X=>[(7,X),(8,iv T.2.2.1)]) (fun T X=>[.box U1 66 [U0,iv T.1,iv T.2.1],.own X (lc T.2.2.2)]) (.slice (some ⟨B1,0,none⟩) 0 0) [1,0] r2 r2 fun S2 X3=>Sq<|Sr<|Qs 2 r<|Nx<|Wc r (fun H6=>?_) fun H6=>?_
  ·refine Sn<|Sq<|Wb<|Sr<|Qs 1 r<|Bi fun R7 H8=>Fo (Cl [0] zbe H8 r r1 ⟨(Bc Z0),⟨⟩⟩) fun _=>Qs 1 r<|Nx<|Jn Value [0,1,2,8] [0] (fun _ X=>[(7,X)]) (fun T X=>[.own X (lc T)]) r2 r2 (?_) fun T10 X11=>?_
   ·refine Wc r (fun H12=>?_) fun H12=>?_
    ·refine Rg<|Qs 3 r<|Yo (Y.conv8 ki3 ki5 r)<|Bi fun R13 H14=>Fo (Cl [] zfj H14 r r1) fun _=>Yo (Bd kp29 kz29 (Pc r (Cp r)<|Pc r (Cp r)<|Pc r (Cp r)<|Pc r (Cp r)<|Pz) r)<|Fo (Bk [ic 1,.str ([]),ic S2.2.2.1,ic 40,.str R13,.str ([]),.raw (.slice none 0 0)] ke24 kz29 r (Qc (Cp r)<|Qz)) fun B16=>No 3<|Kt (Ha [1,0] ([(⟨1,[],S2.2.2.1,40,R13,[],[]⟩:Call)]:List Call) r (Ck (Ck (Ck (Ck (Ck (Ck (Cf Cz))))))))<|Bi fun E19 H20=>?_
     exact Fo (Aw [2,0] H20 ke24 kz29 r) fun V18=>Qs 1 r<|Nl<|Jg V18 [1,0]
    exact Sk<|Jg X3 [0,0]
   exact Bn<|Ne<|Rg<|Qs 3 r<|Nl<|Lg X11 [0,0]
  exact Wx<|Tx<|Ex<|Be<|Jg X3 [0,0]
 refine Ne<|Sq<|Sr<|Qs 2 r<|Bi fun R21 H22=>Fo (Cl [0] zA H22 r r1 ⟨(Bc Z0),⟨⟩⟩) fun _=>Qs 1 r<|Nx<|Jn Value [0] [] (fun _ X=>[(7,X)]) (fun T X=>[.box U1 66 [U0,iv T.1,iv T.2.1],.own X (lc T.2.2)]) r2 r2 (?_) fun T26 X27=>?_
 ·refine Wb<|Lp Value [0,1] [] (fun T X=>[(7,X),(9,iv T.2.2.1)]) (fun T X=>[.box U1 66 [U0,iv T.1,iv T.2.1],.own X (lc T.2.2.2)]) X5 [0,0] r2 r2 fun S24 X25=>Sq<|Sr<|Qs 2 r<|Nx<|Wc r (fun H28=>?_) fun H28=>?_
  ·exact Sn<|Sq<|Wb<|Rg<|Qs 3 r<|Bi fun R29 H30=>Fo (Cl [0] zm3 H30 r r1 ⟨(Bc Z0),⟨⟩⟩) fun Y31=>Fo (Bk [ic R29.1.Kind,.str R29.1.Token,ic R29.1.Tenant,ic R29.1.N,.str R29.1.Key,.str R29.1.To,.raw Y31] ke24 kz29 r (Qc (Ca ⟨Op',Op',Op',Op',Op',Op',Ow' 1,⟨⟩⟩)<|Qz)) fun B32=>Kt (Ha [0,1] ([R29.1]:List Call) r (Ck (Ck (Ck (Ck (Ck (Ck (Cf Cz))))))))<|Bi fun E34 H35=>Fo (Aw [2,0] H35 ke24 kz29 r) fun V33=>Qs 1 r<|Nl<|Bn<|Ne<|Rg<|Qs 3 r<|Nl<|Lg V33 [1,0]
  exact Wx<|Tx<|Ex<|Be<|Jg X25 [0,0]
 refine Ne<|Sq<|Sr<|Qs 1 r<|Bi fun R36 H37=>Fo (Cl [0] zbe H37 r r1 ⟨(Bc Z0),⟨⟩⟩) fun _=>Nx<|Jn Value [] [] (fun _ X=>[(7,X)]) (fun T X=>[.box U1 66 [U0,iv T.1,iv T.2.1],.own X (lc T.2.2)]) r2 r2 (?_) fun T39 X40=>?_
 ·refine Wc r (fun H41=>?_) fun H41=>?_
  ·refine Sr<|Qs 1 r<|Bi fun R42 H43=>Fo (Cl [0] zA H43 r r1 ⟨(Bc Z0),⟨⟩⟩) fun _=>Qs 2 r<|Nx<|Jn Value [] [0] (fun _ X=>[(7,X)]) (fun T X=>[.own X (lc T)]) r2 r2 (?_) fun T47 X48=>?_
   ·refine Wb<|Lp Value [10] [0] (fun _ X=>[(7,X)]) (fun T X=>[.own X (lc T)]) X27 [0,0] r2 r2 fun S45 X46=>Sq<|Sr<|Qs 1 r<|Yo (Ln ke24 (Oc 1 r) r)<|Qs 2 r<|Nx<|Wc r (fun H49=>?_) fun H49=>?_
    ·exact Sn<|Wb<|Rg<|Qs 1 r<|Yo (Bd kp29 kz29 (Pc r (Cp r)<|Pz) r)<|Fo (Bk [ic 12,.str ([]),ic 0,ic 0,.str ([]),.str ([]),.raw (.slice none 0 0)] ke24 kz29 r (Qc (Cp r)<|Qz)) fun B50=>No 3<|Kt (Ha [1,0] ([(⟨12,[],0,0,[],[],[]⟩:Call)]:List Call) r (Ck (Ck (Ck (Ck (Ck (Ck (Cf Cz))))))))<|Bi fun E53 H54=>Fo (Aw [2,0] H54 ke24 kz29 r) fun V52=>Qs 1 r<|Nl<|Bn<|Lg V52 [1,0]
    exact Wx<|Tx<|Ex<|Be<|Jg X46 [0,0]
   exact Jg X48 [0,0]
  exact Sk<|Jg X27 [0,0]
 exact Ne<|Sr<|Qs 2 r<|Nx<|Wr<|Re X40 [0,0]
noncomputable def zcD (code:List UInt8):Option (List UInt8 × List UInt8 × Int × List Call):=
 (zgg code).bind fun R1=>
 (zcE (115:UInt8)).bind fun R4=>
 (zcE (109:UInt8)).bind fun R7=>
 (z9 (⟨code,R1.i,R1.h⟩:L1Cur) (30:Int)).bind fun R10=>
 bindC (if R10.1=true then ((zgj (⟨code,R10.2.i,R10.2.h⟩:L1Cur)).bind fun R16=>
 some (.go (R16.2.i,R16.2.h,R16.1)))
 else (some (.go (R10.2.i,R10.2.h,R7))))
 (fun (T13:Int × Int × List UInt8)=>(zbs (⟨code,T13.1,T13.2.1⟩:L1Cur) ([(100:Int),(100:Int),(12:Int),(20:Int),(1001:Int)])).bind fun R20=>
 (zfy code 36).bind fun R23=>
 (zet (⟨code,R20.2.i,R20.2.h⟩:L1Cur) R4 R23).bind fun R26=>
 some (R4,T13.2.2,R20.1,R26.1))
theorem zjo {code:List UInt8} {U0:Value} :Cn Tryz.prog 5 [U0] [] [(U0,lc code)] (zcD code) (fun r (X:Value)=>.tuple #[strV r.1,strV r.2.1,iv r.2.2.1,X]) fun r X=>[.own X (lc r.2.2.2)]:=by
 unfold zcD
 refine Ci Tryz.func5 r r ?_
 rintro w S ⟨Z0,-⟩
 refine Sr<|Qs 4 r<|Nx<|Sr<|Qs 1 r<|Bi fun R1 H2=>Fo (Cl [] zoR H2 r r1 ⟨(Bc Z0),⟨⟩⟩) fun Y3=>Qs 1 r<|Nx<|Sr<|Bi fun R4 H5=>Fo (Cl [] zfj H5 r r1) fun _=>Qs 1 r<|Nx<|Sr<|Bi fun R7 H8=>Fo (Cl [] zfj H8 r r1) fun _=>Qs 1 r<|Nx<|Sq<|Sr<|Qs 1 r<|Bi fun R10 H11=>Fo (Cl [0] zbe H11 r r1 ⟨(Bc Z0),⟨⟩⟩) fun _=>Nx<|Jn Unit [0,6,7] [] (fun T _=>[(8,strV T.2.2)]) (fun T _=>[.box Y3 66 [U0,iv T.1,iv T.2.1]]) r2 r2 (Wc r (fun H15=>Rg<|Qs 1 r<|Bi fun R16 H17=>Fo (Cl [0] zoS H17 r r1 ⟨(Bc Z0),⟨⟩⟩) fun _=>Qs 1 r<|Nl<|Jg () [0]) fun H15=>Sk<|Jg () [0]) fun T13 X14=>?_
 exact Ne<|Sr<|Qs 1 r<|Fo (Bs [(100:Int),(100:Int),(12:Int),(20:Int),(1001:Int)] ke53 kz3) fun B19=>Bi fun R20 H21=>Fo (Cl [1] zcs H21 r r1 ⟨(Bc Z0),(Oc 0 r),⟨⟩⟩) fun _=>Qs 1 r<|Nx<|Sr<|Qs 6 r<|Bi fun R23 H24=>Fo (Cl [] zn6 H24 r r1 ⟨(Bc Z0),⟨⟩⟩) fun _=>Bi fun R26 H27=>Fo (Cl [0] zmn H27 r r1 ⟨(Bc Z0),⟨⟩⟩) fun Y28=>Qs 4 r<|Nx<|Wr<|Re Y28 [1]
noncomputable def zB (n:Int) (least:Int) (most:Int):Option Bool:=
 (if decide (n≥least) then (some (decide (n≤most)))
 else (some false)).bind (fun (T1:Bool)=>
 some T1)
theorem zF {n:Int} {least:Int} {most:Int} :Cn Tryz.prog 29 [iv n,iv least,iv most] [] [] (zB n least most) (fun r (_:Unit)=>.bool r) fun _ _=>[]:=by
 unfold zB
 refine Ci Tryz.func29 r r ?_
 rintro w S -
 exact Sr<|Qs 1 r<|Nx<|Sq<|Jv [] (fun T=>[(6,.bool T)]) r1 (Rg<|Qs 4 r<|It (fun H3=>Qg 3 (zd H3) r r<|Yo (Pt H3 r)<|Qs 1 r<|Nl<|Bg () []) fun H3=>Of 3 (zt H3) r r<|Yo (Pf H3 r)<|Qs 1 r<|Nl<|Bg () []) fun T1=>Ne<|Wr<|Re () []
noncomputable def zeq (secret:List UInt8) (master:List UInt8) (size:Int):Option (Store × Bool):=
 (if !(decide ((secret.length:Int)=32)) then (some true)
 else (if !(decide ((master.length:Int)=32)) then (some true)
 else ((zB size 0 1000).bind fun R6=>
 some (!R6)))).bind (fun (T2:Bool)=>
 if T2=true then (some ((⟨[],⟨[],[],0⟩,⟨0,[]⟩,[],[],[],0⟩:Store),false))
 else (some ((⟨secret,⟨master,[],0⟩,⟨size,[]⟩,[],[],[],0⟩:Store),true)))
theorem zlT {secret:List UInt8} {master:List UInt8} {size:Int} :Cn Tryz.prog 20 [strV secret,strV master,iv size] [] [] (zeq secret master size) (fun r (X:Value × Value × Value × Value × Value)=>.tuple #[.agg #[strV r.1.Secret,strV r.1.Keys.Master,X.1,iv r.1.Keys.Wiped,iv r.1.Shares.Size,X.2.1,X.2.2.1,X.2.2.2.1,X.2.2.2.2,iv r.1.Boot],.bool r.2]) fun r X=>[.own X.1 (lc r.1.Keys.Slots),.own X.2.1 (lc r.1.Shares.List),.own X.2.2.1 (lc r.1.Tens),.own X.2.2.2.1 (lc r.1.Rows),.own X.2.2.2.2 (lc r.1.Hist)]:=by
 unfold zeq
 refine Ci Tryz.func20 r r ?_
 rintro w S -
 refine Sr<|Fo (Al kz39 r) fun B1=>Qs 1 r<|Nx<|Sq<|Sq<|Jv [0,1,2,6] (fun T=>[(20,.bool T)]) r1 (?_) fun T2=>?_
 ·exact Rg<|Qs 1 r<|Yo (Y.slen ks9 r)<|Qs 2 r<|It (fun H4=>Of 3 (zl H4) r r<|Yo (Pt H4 r)<|Qs 1 r<|Of 3 r r r<|Yo (Pt r r)<|Nl<|Bg () [0]) fun H4=>Qg 1 (za H4) r r<|Yg (gdA (za H4)) (Y.slen ks9 r)<|Qg 1 (za H4) r r<|Yo (Pf H4 r)<|Qs 1 r<|It (fun H5=>Of 3 (zl H5) r r<|Yo (Pt H5 r)<|Nl<|Bg () [0]) fun H5=>Qg 1 (za H5) r r<|Bi fun R6 H7=>Fg (gdA (za H5)) (Cl [] zF H7 r r1) fun _=>Qg 1 (za H5) r r<|Yo (Pf H5 r)<|Nl<|Bg () [0]
 exact Ne<|Wc r (fun H9=>Sr<|Yo (Bd kp39 kz39 (Pz) r)<|Fu (Sb 0 kk39 r (Cp r) r)<|Qs 1 r<|Nx<|Wr<|Tr<|Ni 2<|Ni 2<|Ni 7<|Ni 5<|Ni 5<|Rf ((.slice none 0 0),(.slice none 0 0),(.slice none 0 0),(.slice none 0 0),(.slice none 0 0)) [4,3,2,1,0] (RV.cell 5 r r kk39 r (Rt r Rz))) fun H9=>Sn<|Sr<|Qs 2 r<|Yo (Bd kp32 kz32 (Pc r (Cp r)<|Pz) r)<|Qs 1 r<|Yo (Bd kp35 kz35 (Pc r (Cp r)<|Pz) r)<|Yo (Bd kp39 kz39 (Pc r (Cp r)<|Pc r (Cp r)<|Pc r (Cp r)<|Pz) r)<|Fu (Sb 0 kk39 r (Cp r) r)<|Qs 1 r<|Nx<|Wr<|Ni 2<|Ni 2<|Ni 7<|Ni 5<|Ni 5<|Rf ((.slice none 0 0),(.slice none 0 0),(.slice none 0 0),(.slice none 0 0),(.slice none 0 0)) [4,3,2,1,0] (RV.cell 5 r r kk39 r (Rt r Rz))
noncomputable def zbp (n:Int):Option Bool:=
 (zB n 1 99).bind fun R1=>
 some R1
theorem zeE {n:Int} :Cn Tryz.prog 44 [iv n] [] [] (zbp n) (fun r (_:Unit)=>.bool r) fun _ _=>[]:=by
 unfold zbp
 refine Ci Tryz.func44 r r ?_
 rintro w S -
 exact Sr<|Qs 1 r<|Nx<|Sr<|Qs 1 r<|Bi fun R1 H2=>Fo (Cl [] zF H2 r r1) fun _=>Qs 1 r<|Nx<|Wr<|Re () []
noncomputable def zd7 (n:Int):Option Bool:=
 (zB n 0 40).bind fun R1=>
 some R1
theorem ziz {n:Int} :Cn Tryz.prog 45 [iv n] [] [] (zd7 n) (fun r (_:Unit)=>.bool r) fun _ _=>[]:=by
 unfold zd7
 refine Ci Tryz.func45 r r ?_
 rintro w S -
 exact Sr<|Qs 1 r<|Nx<|Sr<|Qs 1 r<|Bi fun R1 H2=>Fo (Cl [] zF H2 r r1) fun _=>Qs 1 r<|Nx<|Wr<|Re () []
noncomputable def zeB (t:STen) (c0_:Int):Option Bool:=
 some (decide (t.Id=c0_))
theorem zkN {t:STen} {c0_:Int} {U0 U1 U2:Value} {U3:Nat} :Cn Tryz.prog 75 [.agg #[iv t.Id,iv t.Epoch,iv t.Base,U0,U1,iv t.Eng.Seq,U2],pt U3] [.box U3 3 [iv c0_]] [(U0,lc t.Eng.Mem),(U1,lc t.Eng.Tables),(U2,lc t.Eng.Snaps)] (zeB t c0_) (fun r (_:Unit)=>.bool r) fun _ _=>[.box U3 3 [iv c0_]]:=by
 unfold zeB
 refine Ci Tryz.func75 r r ?_
 rintro w S ⟨Z0,Z1,Z2,-⟩
 exact Sr<|Fo (Bx r (Ca ⟨Op',Op',Op',Ob Z0,Ob Z1,Op',Ob Z2,⟨⟩⟩)) fun B1=>Qs 1 r<|Nx<|Sr<|Yo (Fb zeS r)<|Yo (Lb 0 kk3 r)<|Yo (Lb 1 kk3 r)<|Qs 2 r<|Nx<|Wr<|Re () [1]
noncomputable def zW (s:List STen) (f_c0:Int):Option Int:=
 bindC (loopO (fun (S1:Int)=>if decide (S1<(s.length:Int)) then ((idx s S1).bind fun E6=>
 (zeB E6 f_c0).bind fun R11=>
 if R11=true then (some (.done (.done S1)))
 else (some (.go (IntKind.i64.wrap (S1+1)))))
 else (some (.done (.go ()))))
 (0:Int))
 (fun (T3:Unit)=>some (-1:Int))
theorem zdR {s:List STen} {f_c0:Int} {U0:Value} {U1:Nat} :Cn Tryz.prog 74 [U0,.func (.func 75) #[] #[pt U1]] [.box U1 3 [iv f_c0]] [(U0,lc s)] (zW s f_c0) (fun r (_:Unit)=>iv r) fun _ _=>[.box U1 3 [iv f_c0]]:=by
 unfold zW
 refine Ci Tryz.func74 r r ?_
 rintro w S ⟨Z0,-⟩
 refine Sr<|Qs 1 r<|Nx<|Sq<|Sr<|Qs 1 r<|Yo (Ln ke36 (Bc Z0) r)<|Qs 1 r<|Nx<|Ju [] (fun _=>[]) r1 (?_) fun T3=>?_
 ·refine Wb<|Lu [0,1,7] (fun T=>[(8,iv T)]) r1 fun S1=>Sr<|Qs 1 r<|Nx<|Sq<|Wc r (fun H5=>?_) fun H5=>?_
  ·refine Sn<|Sq<|Wb<|Sr<|Qs 2 r<|Nx<|Sr<|Qs 3 r<|Bi fun E6 H7=>Yo (Ix ke36 (Bc Z0) H7 r)<|?_
   have Q8:Base w S (elv w U0 (S1.toNat*7+3)) (lc E6.Eng.Mem):=Base.el Z0 (zz H7).2.2 r r
   have Q9:Base w S (elv w U0 (S1.toNat*7+4)) (lc E6.Eng.Tables):=Base.el Z0 (zz H7).2.2 r r
   have Q10:Base w S (elv w U0 (S1.toNat*7+6)) (lc E6.Eng.Snaps):=Base.el Z0 (zz H7).2.2 r r
   exact Yo (Lz kk95 Z0 H7 r)<|Bi fun R11 H12=>Fo (Cw [0] zkN H12 r r r1 ⟨(Bc Q8),(Bc Q9),(Bc Q10),⟨⟩⟩) fun _=>Nx<|Wc r (fun H14=>Sr<|Qs 2 r<|Nx<|Wr<|Br<|Tr<|Er<|Br<|Jd<|Tr<|Re () [0]) fun H14=>Sk<|Bn<|Ne<|Rg<|Qs 2 r<|Nl<|Lg () [0]
  exact Wx<|Tx<|Ex<|Be<|Jg () [0]
 exact Ne<|Sr<|Qs 1 r<|Nx<|Wr<|Re () [0]
noncomputable def zbN (s:Store) (id:Int):Option Int:=
 (zW s.Tens id).bind fun R2=>
 some R2
theorem zdF {s:Store} {id:Int} {U0 U1 U2 U3 U4:Value} {U5:Nat} :Cn Tryz.prog 46 [pt U5,iv id] [.box U5 39 [strV s.Secret,strV s.Keys.Master,U0,iv s.Keys.Wiped,iv s.Shares.Size,U1,U2,U3,U4,iv s.Boot]] [(U2,lc s.Tens)] (zbN s id) (fun r (_:Unit)=>iv r) fun _ _=>[.box U5 39 [strV s.Secret,strV s.Keys.Master,U0,iv s.Keys.Wiped,iv s.Shares.Size,U1,U2,U3,U4,iv s.Boot]]:=by
 unfold zbN
 refine Ci Tryz.func46 r r ?_
 rintro w S ⟨Z0,-⟩
 exact Sr<|Fo (Bx r (Cp r)) fun B1=>Qs 1 r<|Nx<|Sr<|Qs 2 r<|Yo (Fb zdk r)<|Yo (Lb 1 kk36 r)<|Yo (Y.makeFunc r)<|Bi fun R2 H3=>Fo (Cl [0] zdR H3 r r1 ⟨(Bc Z0),⟨⟩⟩) fun _=>Qs 1 r<|Nx<|Wr<|Re () [1]
noncomputable def zbq (code:Int):Option Reply:=
 some (⟨code,0,[],[]⟩:Reply)
theorem zbc {code:Int} :Cn Tryz.prog 35 [iv code] [] [] (zbq code) (fun r (X:Value)=>.agg #[iv r.Code,iv r.N,strV r.Text,X]) fun r X=>[.own X (lc r.List)]:=by
 unfold zbq
 refine Ci Tryz.func35 r r ?_
 rintro w S -
 exact Sr<|Fo (Al kz60 r) fun B1=>Nx<|Sr<|Qs 1 r<|Yo (Bd kp60 kz60 (Pc r (Cp r)<|Pz) r)<|Fu (Sb 0 kk60 r (Cp r) r)<|Nx<|Wr<|Ni 2<|Rf (.slice none 0 0) [0] (RV.cell 1 r r kk60 r Rz)
noncomputable def zeK (quota:Int):Option Int:=
 (zB quota 0 1000).bind fun R1=>
 if !R1 then (some (0:Int))
 else (some (IntKind.i64.wrap ((2:Int)+(IntKind.i64.wrap ((2:Int)*(IntKind.i64.wrap (Int.tdiv (IntKind.i64.wrap (IntKind.i64.wrap (quota+50) - 1)) 50)))))))
theorem zpb {quota:Int} :Cn Tryz.prog 156 [iv quota] [] [] (zeK quota) (fun r (_:Unit)=>iv r) fun _ _=>[]:=by
 unfold zeK
 refine Ci Tryz.func156 r r ?_
 rintro w S -
 exact Sr<|Qs 1 r<|Nx<|Sq<|Sr<|Qs 1 r<|Bi fun R1 H2=>Fo (Cl [] zF H2 r r1) fun _=>Qs 1 r<|Nx<|Wc r (fun H4=>Sr<|Qs 1 r<|Nx<|Wr<|Tr<|Re () []) fun H4=>Sn<|Sr<|Qs 3 r<|Yo (Y.quo (by decide) r r)<|Qs 3 r<|Nx<|Wr<|Re () []
noncomputable def zft (s:Shares):Option Int:=
 bindC (loopO (fun (S2:Int × Int)=>if decide (S2.2<(s.List.length:Int)) then ((idx s.List S2.2).bind fun E7=>
 (zeK E7.Quota).bind fun R10=>
 some (.go (IntKind.i64.wrap (S2.1+R10),IntKind.i64.wrap (S2.2+1))))
 else (some (.done (.go S2.1))))
 ((4:Int),(0:Int)))
 (fun (T4:Int)=>some T4)
theorem zn0 {s:Shares} {U0:Value} :Cn Tryz.prog 115 [.agg #[iv s.Size,U0]] [] [(U0,lc s.List)] (zft s) (fun r (_:Unit)=>iv r) fun _ _=>[]:=by
 unfold zft
 refine Ci Tryz.func115 r r ?_
 rintro w S ⟨Z0,-⟩
 refine Sr<|Fo (Bx r (Ca ⟨Op',Ob Z0,⟨⟩⟩)) fun B1=>Qs 1 r<|Nx<|Sr<|Qs 1 r<|Nx<|Sq<|Sr<|Yo (Fb zcV r)<|Yo (Lb 0 kk33 r)<|Yo (Ln ke33 (Bc Z0) r)<|Qs 1 r<|Nx<|Jn Unit [] [] (fun T _=>[(3,iv T)]) (fun _ _=>[]) r2 r2 (?_) fun T4 X5=>?_
 ·refine Wb<|Lp Unit [7,8] [] (fun T _=>[(3,iv T.1),(9,iv T.2)]) (fun _ _=>[]) () [] r2 r2 fun S2 X3=>Sr<|Qs 1 r<|Nx<|Sq<|Wc r (fun H6=>?_) fun H6=>?_
  ·exact Sn<|Sq<|Wb<|Sr<|Bi fun E7 H8=>Yo (Ix ke33 (Bc Z0) H8 r)<|Yo (Le kk129 (Bc Z0) H8 r)<|Fo (Al kz129 r) fun B9=>Fu (Sb 0 kk129 r (Cp r) r)<|Nx<|Rg<|Qs 1 r<|Yo (Fb zmQ r)<|Yo (Lb 0 kk3 r)<|Bi fun R10 H11=>Fo (Cl [] zpb H11 r r1) fun _=>Qs 2 r<|Nl<|Bn<|Ne<|Rg<|Qs 2 r<|Nl<|Lg () []
  exact Wx<|Tx<|Ex<|Be<|Jg () []
 exact Ne<|Sr<|Qs 2 r<|Nx<|Wr<|Re () []
noncomputable def zcH (s:Shares):Option Bool:=
 ((zB s.Size 0 1000).bind fun R4=>
 if !R4 then (some true)
 else (some (decide ((s.List.length:Int)>4)))).bind (fun (T2:Bool)=>
 if T2=true then (some false)
 else (bindC (loopO (fun (S9:Int)=>if decide (S9<(s.List.length:Int)) then ((idx s.List S9).bind fun E14=>
 ((zbp E14.Tenant).bind fun R19=>
 if !R19 then (some true)
 else ((zB E14.Quota 0 1000).bind fun R23=>
 if !R23 then (some true)
 else (if decide (S9>0) then ((idx s.List (IntKind.i64.wrap (S9 - 1))).bind fun E28=>
 some (decide (E14.Tenant≤E28.Tenant)))
 else (some false)))).bind (fun (T17:Bool)=>
 if T17=true then (some (.done (.done false)))
 else (some (.go (IntKind.i64.wrap (S9+1))))))
 else (some (.done (.go ()))))
 (0:Int))
 (fun (T11:Unit)=>(if decide ((s.List.length:Int)=0) then (some true)
 else ((zft s).bind fun R34=>
 some (decide (R34≤s.Size)))).bind (fun (T31:Bool)=>
 some T31))))
theorem zf3 {s:Shares} {U0:Value} :Cn Tryz.prog 76 [.agg #[iv s.Size,U0]] [] [(U0,lc s.List)] (zcH s) (fun r (_:Unit)=>.bool r) fun _ _=>[]:=by
 unfold zcH
 refine Ci Tryz.func76 r r ?_
 rintro w S ⟨Z0,-⟩
 refine Sr<|Fo (Bx r (Ca ⟨Op',Ob Z0,⟨⟩⟩)) fun B1=>Qs 1 r<|Nx<|Sq<|Sq<|Jv [1] (fun T=>[(14,.bool T)]) r1 (?_) fun T2=>?_
 ·exact Rg<|Yo (Fb zou r)<|Yo (Lb 0 kk3 r)<|Bi fun R4 H5=>Fo (Cl [] zF H5 r r1) fun _=>Qs 2 r<|It (fun H7=>Of 4 (zl H7) r r<|Yo (Pt H7 r)<|Nl<|Bg () [0]) fun H7=>Yg (gdA (za H7)) (Fb zcV r)<|Yg (gdA (za H7)) (Lb 0 kk33 r)<|Yg (gdA (za H7)) (Ln ke33 (Bc Z0) r)<|Qg 1 (za H7) r r<|Yo (Pf H7 r)<|Nl<|Bg () [0]
 refine Ne<|Wc r (fun H8=>Sr<|Qs 1 r<|Nx<|Wr<|Tr<|Re () []) fun H8=>Sn<|Sq<|Sr<|Yo (Fb zcV r)<|Yo (Lb 0 kk33 r)<|Yo (Ln ke33 (Bc Z0) r)<|Qs 1 r<|Nx<|Ju [1] (fun _=>[]) r1 (?_) fun T11=>?_
 ·refine Wb<|Lu [1,16,17] (fun T=>[(18,iv T)]) r1 fun S9=>Sr<|Qs 1 r<|Nx<|Sq<|Wc r (fun H13=>?_) fun H13=>?_
  ·refine Sn<|Sq<|Wb<|Sr<|Qs 1 r<|Bi fun E14 H15=>Yo (Ix ke33 (Bc Z0) H15 r)<|Yo (Le kk129 (Bc Z0) H15 r)<|Fo (Al kz129 r) fun B16=>Qs 1 r<|Fu (Sb 0 kk129 r (Cp r) r)<|Nx<|Sq<|Jb Unit [1,16,17,18] [1] (fun T _=>[(48,.bool T)]) (fun _ _=>[]) r2 r2 (?_) fun T17 X18=>?_
   ·refine Dr [0,0] r hMix<|Ay 0 [0,0] r (Fb zhi r)<|Ay 1 [0,0] r (Lb 0 kk3 r)<|Ai fun R19 H20=>A1 2<|Xe [0,0] r (Cl [] zeE H20 r r1) fun _=>Aq [3,4] [0,0] r<|Ia (fun H22=>Ax [5,6,7,8] [0,0] (zl H22) r r<|Ay 9 [0,0] r (Pt H22 r)<|Aq [10] [0,0] r<|Ax [11,12,13] [0,0] r r r<|Au [14,15,16,17,18,19,20,21,22,23] [0,0] r r<|Ax [24] [0,0] r r r<|Ay 25 [0,0] r (Pt r r)<|Az<|Bg () [1]) fun H22=>Ag 5 [0,0] (gdA (za H22)) r (Fb zmQ r)<|Ag 6 [0,0] (gdA (za H22)) r (Lb 0 kk3 r)<|Ai fun R23 H24=>A1 7<|Xeg [0,0] (gdA (za H22)) r (Cl [] zF H24 r r1) fun _=>?_
    refine Ag 8 [0,0] (gdA (za H22)) r (Y.not r)<|Ay 9 [0,0] r (Pf H22 r)<|Aq [10] [0,0] r<|Ia (fun H26=>Ax [11,12,13] [0,0] (zl H26) r r<|Au [14,15,16,17,18,19,20,21,22,23] [0,0] r r<|Ax [24] [0,0] (zl H26) r r<|Ay 25 [0,0] r (Pt H26 r)<|Az<|Bg () [1]) fun H26=>Ag 11 [0,0] (gdA (za H26)) r (Y.move r)<|Ag 12 [0,0] (gdA (za H26)) r (Y.gtr r r)<|Ag 13 [0,0] (gdA (za H26)) r (Y.move r)<|Ia (fun H27=>?_) fun H27=>?_
    ·exact Ag 14 [0,0] (gdA (zd H27)) r (Fb zhi r)<|Ag 15 [0,0] (gdA (zd H27)) r (Lb 0 kk3 r)<|Ag 16 [0,0] (gdA (zd H27)) r (Fb zcV r)<|Ag 17 [0,0] (gdA (zd H27)) r (Lb 1 kk33 r)<|Ag 18 [0,0] (gdA (zd H27)) r (Y.move r)<|Ag 19 [0,0] (gdA (zd H27)) r (Y.sub r r)<|Ai fun E28 H29=>Ag 20 [0,0] (gdA (zd H27)) r (Ix ke33 (Bc Z0) H29 r)<|Ag 21 [0,0] (gdA (zd H27)) r (Fe zhi (Bc Z0) H29 r)<|Ag 22 [0,0] (gdA (zd H27)) r (Le kk3 (Bc Z0) H29 r)<|Ag 23 [0,0] (gdA (zd H27)) r (Y.leq r r)<|Ag 24 [0,0] (gdA (za H26)) r (Pt H27 r)<|Ay 25 [0,0] r (Pf H26 r)<|Az<|Bg () [1]
    exact Ax [14,15,16,17,18,19,20,21,22,23] [0,0] (zt H27) r r<|Ag 24 [0,0] (gdA (za H26)) r (Pf H27 r)<|Ay 25 [0,0] r (Pf H26 r)<|Az<|Bg () [1]
   exact Ne<|Wc r (fun H30=>Sr<|Qs 1 r<|Nx<|Wr<|Br<|Tr<|Er<|Br<|Jd<|Tr<|Re () []) fun H30=>Sk<|Bn<|Ne<|Rg<|Qs 2 r<|Nl<|Lg () [0]
  exact Wx<|Tx<|Ex<|Be<|Jg () [0]
 refine Ne<|Sq<|Jb Unit [] [] (fun T _=>[(2,.bool T)]) (fun _ _=>[]) r2 r2 (?_) fun T31 X32=>?_
 ·exact Dr [0] r hMix<|Ay 0 [0] r (Fb zcV r)<|Ay 1 [0] r (Lb 0 kk33 r)<|Ay 2 [0] r (Ln ke33 (Bc Z0) r)<|Aq [3,4] [0] r<|Ia (fun H33=>Ax [5,6,7,8,9] [0] (zl H33) r r<|Ay 10 [0] r (Pt H33 r)<|Aq [11] [0] r<|Az<|Bg () []) fun H33=>Ag 5 [0] (gdA (za H33)) r (Lb 0 kk35 r)<|Ag 7 [0] (gdA (za H33)) r (Fb zou r)<|Ag 8 [0] (gdA (za H33)) r (Lb 0 kk3 r)<|Ai fun R34 H35=>A1 6<|Xeg [0] (gdA (za H33)) r (Cl [] zn0 H35 r r1 ⟨(Bc Z0),⟨⟩⟩) fun _=>Ag 9 [0] (gdA (za H33)) r (Y.leq r r)<|Ay 10 [0] r (Pf H33 r)<|Aq [11] [0] r<|Az<|Bg () []
 exact Ne<|Wr<|Re () []
noncomputable def zcB (s:List Share):Option (List Share):=
 (app 16 ([]:List Share) s).bind fun E4=>
 some E4
theorem zjk {s:List Share} {U0:Value} :Cn Tryz.prog 116 [U0] [] [(U0,lc s)] (zcB s) (fun _ (X:Value)=>X) fun r X=>[.own X (lc r)]:=by
 unfold zcB
 refine Ci Tryz.func116 r r ?_
 rintro w S ⟨Z0,-⟩
 exact Sr<|Qs 1 r<|Nx<|Sq<|Sr<|Qs 1 r<|Yo (Y.nileq ke33 (Bc Z0) r r)<|Nx<|TW.cond_nil (Bc Z0) r (fun hnil_=>by subst hnil_;show TW _ _ _ (some ([])) _ _ _ _ _;exact (Sr<|Qs 1 r<|Nx<|Wr<|Tr<|Ni 2<|Re (.slice none 0 0) [0]))<|Sn<|Sr<|Fo (Bs ([]:List Share) ke33 kz129) fun B2=>Qs 1 r<|Bi fun E4 H5=>Fo (Ap [0] H5 ke33 kz129 r (Bc Z0)) fun V3=>Qs 1 r<|Nx<|Wr<|Re V3 [0]
noncomputable def zcG (s:Shares):Option Shares:=
 (zcB s.List).bind fun R3=>
 some (⟨s.Size,R3⟩:Shares)
theorem zfq {s:Shares} {U0:Value} :Cn Tryz.prog 77 [.agg #[iv s.Size,U0]] [] [(U0,lc s.List)] (zcG s) (fun r (X:Value)=>.agg #[iv r.Size,X]) fun r X=>[.own X (lc r.List)]:=by
 unfold zcG
 refine Ci Tryz.func77 r r ?_
 rintro w S ⟨Z0,-⟩
 exact Sr<|Fo (Bx r (Ca ⟨Op',Ob Z0,⟨⟩⟩)) fun B1=>Fo (Al kz35 r) fun B2=>Nx<|Sq<|Dr [1] r hMix<|Ay 0 [1] r (Fb zou r)<|Ay 1 [1] r (Lb 0 kk3 r)<|Ay 2 [1] r (Fb zcV r)<|Ay 3 [1] r (Lb 0 kk33 r)<|Ai fun R3 H4=>A1 4<|Xe [2] r (Cl [] zjk H4 r r1 ⟨(Bc Z0),⟨⟩⟩) fun Y5=>A1 5<|Xy [2] r (Bd kp35 kz35 (Pc r (Cp r)<|Pc r (Co 0)<|Pz) r)<|A1 6<|Xu [2] r (Sb 1 kk35 r (Ca ⟨Op',Ow' 0,⟨⟩⟩) r)<|Az<|Ne<|Wr<|Rf Y5 [0] (RV.cell 1 r r kk35 r Rz)
noncomputable def zdi (s:Shares) (tenant:Int):Option (Int × Bool):=
 bindC (loopO (fun (S2:Int)=>(if decide (S2<(s.List.length:Int)) then ((idx s.List S2).bind fun E9=>
 some (decide (E9.Tenant<tenant)))
 else (some false)).bind (fun (T6:Bool)=>
 if T6=true then (some (.go (IntKind.i64.wrap (S2+1))))
 else (some (.done (.go S2)))))
 (0:Int))
 (fun (T4:Int)=>(if decide (T4<(s.List.length:Int)) then ((idx s.List T4).bind fun E15=>
 some (decide (E15.Tenant=tenant)))
 else (some false)).bind (fun (T12:Bool)=>
 some (T4,T12)))
theorem ziB {s:Shares} {tenant:Int} {U0:Value} :Cn Tryz.prog 78 [.agg #[iv s.Size,U0],iv tenant] [] [(U0,lc s.List)] (zdi s tenant) (fun r (_:Unit)=>.tuple #[iv r.1,.bool r.2]) fun _ _=>[]:=by
 unfold zdi
 refine Ci Tryz.func78 r r ?_
 rintro w S ⟨Z0,-⟩
 refine Sr<|Fo (Bx r (Ca ⟨Op',Ob Z0,⟨⟩⟩)) fun B1=>Qs 2 r<|Nx<|Sr<|Qs 1 r<|Nx<|Sq<|Ju [1,2] (fun T=>[(6,iv T)]) r1 (?_) fun T4=>?_
 ·refine Wb<|Lu [1,2] (fun T=>[(6,iv T)]) r1 fun S2=>Sq<|Sq<|Jv [1,2,6] (fun T=>[(21,.bool T)]) r1 (?_) fun T6=>?_
  ·refine Rg<|Qs 1 r<|Yo (Fb zcV r)<|Yo (Lb 0 kk33 r)<|Yo (Ln ke33 (Bc Z0) r)<|Qs 2 r<|It (fun H8=>?_) fun H8=>?_
   ·exact Yg (gdA (zd H8)) (Fb zcV r)<|Yg (gdA (zd H8)) (Lb 0 kk33 r)<|Qg 1 (zd H8) r r<|Bi fun E9 H10=>Yg (gdA (zd H8)) (Ix ke33 (Bc Z0) H10 r)<|Yg (gdA (zd H8)) (Fe zhi (Bc Z0) H10 r)<|Yg (gdA (zd H8)) (Le kk3 (Bc Z0) H10 r)<|Qg 2 (zd H8) r r<|Yo (Pt H8 r)<|Nl<|Bg () [0]
   exact Of 8 (zt H8) r r<|Yo (Pf H8 r)<|Nl<|Bg () [0]
  exact Ne<|Wc r (fun H11=>Sn<|Wb<|Rg<|Qs 3 r<|Nl<|Bn<|Lg () [0]) fun H11=>Wx<|Tx<|Ex<|Be<|Jg () [0]
 refine Ne<|Sq<|Jb Unit [] [] (fun T _=>[(4,iv T4),(5,.bool T)]) (fun _ _=>[]) r2 r2 (?_) fun T12 X13=>?_
 ·refine Dr [0] r hMix<|Aq [0,1] [0] r<|Ay 2 [0] r (Fb zcV r)<|Ay 3 [0] r (Lb 0 kk33 r)<|Ay 4 [0] r (Ln ke33 (Bc Z0) r)<|Aq [5,6] [0] r<|Ia (fun H14=>?_) fun H14=>?_
  ·exact Ag 7 [0] (gdA (zd H14)) r (Fb zcV r)<|Ag 8 [0] (gdA (zd H14)) r (Lb 0 kk33 r)<|Ag 9 [0] (gdA (zd H14)) r (Y.move r)<|Ai fun E15 H16=>Ag 10 [0] (gdA (zd H14)) r (Ix ke33 (Bc Z0) H16 r)<|Ag 11 [0] (gdA (zd H14)) r (Fe zhi (Bc Z0) H16 r)<|Ag 12 [0] (gdA (zd H14)) r (Le kk3 (Bc Z0) H16 r)<|Ag 13 [0] (gdA (zd H14)) r (Y.move r)<|Ag 14 [0] (gdA (zd H14)) r (Y.eql r r)<|Ay 15 [0] r (Pt H14 r)<|Aq [16,17] [0] r<|Az<|Bg () []
  exact Ax [7,8,9,10,11,12,13,14] [0] (zt H14) r r<|Ay 15 [0] r (Pf H14 r)<|Aq [16,17] [0] r<|Az<|Bg () []
 exact Ne<|Wr<|Re () []
noncomputable def zbz (s:List Share) (i:Int) (v:List Share):Option (List Share):=ins 16 s i v
theorem zhP (s:List Share) (i:Int) (v:List Share) (V_s0 V_v0:Value) (r:List Share) (hm:zbz s i v=some r):
 Con Tryz.prog 79 [V_s0,.int .i64 i,V_v0] [.own V_s0 (lc s),.own V_v0 (lc v)] [] (fun X:Value=>X) (fun X=>[.own X (lc r)]):=by
 refine Con.intro (args:=[V_s0,.int .i64 i,V_v0]) (n:=95) (val:=fun _ (X:Value)=>X) (post:=fun r X=>[.own X (lc r)]) (m:=zbz s i v) Tryz.func79 rfl rfl rfl hm ?_
 intro w S _
 unfold zbz
 refine TW.known fun r0 hr0=>?_
 obtain ⟨h0,h1,h2,h3,rfl⟩:=ziD hr0
 obtain ⟨I,rfl⟩:=Int.eq_ofNat_of_zero_le h0
 rw[Int.toNat_natCast]
 have h1n:I≤s.length:=by omega
 clear hr0 hm
 have wr: ∀q:Nat,q≤4611686018427387904→IntKind.i64.wrap (q:Int)=(q:Int):=fun q hq=>by rw[IntKind.wrap_i64];omega
 have wr2: ∀a b:Nat,a+b≤4611686018427387904→IntKind.i64.wrap ((a:Int)+(b:Int))=((a+b:Nat):Int):=fun a b hq=>by rw[IntKind.wrap_i64];omega
 obtain ⟨z0,hpc⟩: ∃z,piece s (I:Int) (s.length:Int)=some z:=⟨_,if_pos ⟨by omega,by omega,by omega⟩⟩
 refine TW.seq ?_
 refine TW.region ?_
 refine TO.y (Y.assign rfl) rfl rfl rfl ?_
 refine TO.nil ?_
 refine TE.next ?_
 refine TW.seq ?_
 refine TW.region ?_
 refine TO.y (Y.move rfl) rfl rfl rfl ?_
 refine TO.y (Y.move rfl) rfl rfl rfl ?_
 refine TO.y (Y.subs hpc ke33 (Can.own 0 rfl) rfl ⟨_,rfl⟩ rfl) rfl rfl rfl ?_
 refine TO.nil ?_
 refine TE.next ?_
 refine TW.seq ?_
 refine TW.region ?_
 refine TO.y (Y.move rfl) rfl rfl rfl ?_
 refine TO.y (Y.len (l:=v) ke33 (Can.own 1 rfl) rfl) rfl rfl rfl ?_
 refine TO.y (Y.assign rfl) rfl rfl rfl ?_
 refine TO.nil ?_
 refine TE.next ?_
 refine TW.seq ?_
 refine TW.seq ?_
 refine TW.region ?_
 refine TO.y (Y.move rfl) rfl rfl rfl ?_
 refine TO.y (Y.eql rfl rfl) rfl rfl rfl ?_
 refine TO.nil ?_
 refine TE.next ?_
 by_cases hm0:v= []
 ·subst hm0
  rw[show s.take I++([]++s.drop I)=s by simp]
  refine TW.cond_t rfl (by simp) ?_
  refine TW.seq ?_
  refine TW.region ?_
  refine TO.y (Y.move rfl) rfl rfl rfl ?_
  refine TO.y (Y.assign rfl) rfl rfl rfl ?_
  refine TO.nil ?_
  refine TE.next ?_
  refine TW.ret ?_
  refine TE.then_ret ?_
  exact TE.leaf fun _ _ hf_ hs_=>zS (rs:=[.tmp 6]) (vs:=[V_s0]) (.inl rfl) rfl ⟨rfl,trivial⟩ hf_ hs_ ⟨V_s0,rfl,hs_.pulls [0] rfl⟩
 ·have hm1:0<v.length:=List.length_pos_iff.2 hm0
  refine TW.cond_f rfl (decide_eq_false (by omega)) ?_
  refine TW.skip ?_
  refine TE.next ?_
  refine TW.seq ?_
  refine TW.region ?_
  refine TO.y (Y.move rfl) rfl rfl rfl ?_
  refine TO.y (Y.len (l:=s) ke33 (Can.own 0 rfl) rfl) rfl rfl rfl ?_
  refine TO.y (Y.assign rfl) rfl rfl rfl ?_
  refine TO.nil ?_
  refine TE.next ?_
  refine TW.seq ?_
  refine TW.seq ?_
  refine TW.region ?_
  refine TO.y (Y.move rfl) rfl rfl rfl ?_
  refine TO.y (Y.move rfl) rfl rfl rfl ?_
  refine TO.y (Y.eql rfl rfl) rfl rfl rfl ?_
  refine TO.nil ?_
  refine TE.next ?_
  by_cases hin:I=s.length
  ·have happ:app 16 s v=some (s++v):=by unfold app;rw[if_pos ⟨h2,by omega⟩]
   rw[show s.take I++(v++s.drop I)=s++v by rw[hin];simp]
   refine TW.cond_t rfl (decide_eq_true (by omega)) ?_
   refine TW.seq ?_
   refine TW.region ?_
   refine TO.y (Y.move rfl) rfl rfl rfl ?_
   refine TO.y (Y.move rfl) rfl rfl rfl ?_
   refine TO.ef (Ef.appN (α:=Share) (is':=[]) [0,0] happ ke33 kz129 rfl rfl rfl rfl rfl) rfl rfl rfl (fun X=>?_)
   refine TO.y (Y.assign rfl) rfl rfl rfl ?_
   refine TO.nil ?_
   refine TE.next ?_
   refine TW.ret ?_
   refine TE.then_ret ?_
   exact TE.leaf fun _ _ hf_ hs_=>zS (rs:=[.tmp 6]) (vs:=[X]) (.inl rfl) rfl ⟨rfl,trivial⟩ hf_ hs_ ⟨X,rfl,hs_.pulls [0] rfl⟩
  ·refine TW.cond_f rfl (decide_eq_false (by omega)) ?_
   refine TW.skip ?_
   refine TE.next ?_
   refine TW.openRows (α:=Share) (by omega) hm1 ?_
   intro b cap e cur b2 cap2 e2 cur2 hV hU hbb hc1 hc2 hc3 hc4 hl1 hl2 ho1 ho2
   subst hV hU
   have hsz:Enc.sz Share=2:=rfl
   rw[hsz]at hl1 hl2 ho1 ho2
   have e1:=wr2 s.length v.length h3
   refine TW.seq ?_
   refine TW.seq ?_
   refine TW.region ?_
   refine TO.y (Y.move rfl) rfl rfl rfl ?_
   refine TO.y (Y.move rfl) rfl rfl rfl ?_
   refine TO.y (Y.add rfl rfl) rfl rfl rfl ?_
   refine TO.y (Y.move rfl) rfl rfl rfl ?_
   refine TO.y (Y.capRaw ke33 rfl) rfl rfl rfl ?_
   refine TO.y (Y.gtr rfl rfl) rfl rfl rfl ?_
   refine TO.nil ?_
   refine TE.next ?_
   by_cases hroom:cap<s.length+v.length
   ·refine TW.cond_t rfl (by rw[e1];exact decide_eq_true (by omega)) ?_
    refine TW.seq ?_
    refine TW.region ?_
    refine TO.y (Y.move rfl) rfl rfl rfl ?_
    refine TO.y (Y.move rfl) rfl rfl rfl ?_
    refine TO.y (Y.toRaw (hi:=I) ke33 (by omega) rfl rfl rfl) rfl rfl rfl ?_
    refine TO.y (Y.move rfl) rfl rfl rfl ?_
    refine TO.y (Y.move rfl) rfl rfl rfl ?_
    refine TO.y (Y.add rfl rfl) rfl rfl rfl ?_
    refine TO.y (Y.move rfl) rfl rfl rfl ?_
    refine TO.y (Y.sub rfl rfl) rfl rfl rfl ?_
    have e2:IntKind.i64.wrap (IntKind.i64.wrap ((s.length:Int)+(v.length:Int)) - (I:Int))=((s.length+v.length - I:Nat):Int):=by rw[e1,IntKind.wrap_i64];omega
    refine TO.ef (Ef.rawGrow (N:=s.length+v.length) (q:=s.length+v.length - I) 0 ke33 ki3 kz129 rfl rfl rfl rfl rfl e2 (by omega) (by omega) hl1 (by omega) hroom (by omega) h2) rfl rfl rfl (fun X=>?_)
    refine TO.y (Y.assign rfl) rfl rfl rfl ?_
    refine TO.nil ?_
    refine TE.next ?_
    obtain ⟨⟨⟨g,gc⟩,ge,zs⟩,hz1,hz2,hz3⟩:=X
    dsimp only at hz1 hz2 hz3 ⊢
    obtain ⟨q1,q2,q3,q4,q5,q6⟩:=insA (G:=gc) (zs:=zs) h1n hc1 hc3 hl1 hl2 hz1 hz2
    have m1:0+I*2+v.length*2≤gc*2:=by omega
    have m2:0+(I+v.length)*2+(s.length - I)*2≤gc*2:=by omega
    have m3:0+v.length*2≤cap2*2:=by omega
    have m4:0+I*2+(s.length - I)*2≤cap*2:=by omega
    refine TW.seq ?_
    refine TW.region ?_
    refine TO.y (Y.move rfl) rfl rfl rfl ?_
    refine TO.y (Y.move rfl) rfl rfl rfl ?_
    refine TO.y (Y.fromRaw (lo:=I) ke33 (by omega) (by omega) rfl rfl rfl) rfl rfl rfl ?_
    refine TO.y (Y.move rfl) rfl rfl rfl ?_
    refine TO.ef (Ef.rawCopy (sl:=v.length) 0 2 ke33 rfl rfl rfl rfl (by omega) (by rw[q3];exact m1) (Nat.le_trans m3 hl2) (by rw[List.drop_zero];exact ho2) rfl) rfl rfl rfl (fun _=>?_)
    refine TO.nil ?_
    refine TE.next ?_
    refine TW.seq ?_
    refine TW.draw (isH:=[]) hMix ?_
    refine TA.y 0 [] rfl (Y.move rfl) rfl rfl rfl (by kernel_rfl) rfl ?_
    refine TA.y 1 [] rfl (Y.move rfl) rfl rfl rfl (by kernel_rfl) rfl ?_
    refine TA.y 2 [] rfl (Y.move rfl) rfl rfl rfl (by kernel_rfl) rfl ?_
    refine TA.y 3 [] rfl (Y.add rfl rfl) rfl rfl rfl (by kernel_rfl) rfl ?_
    refine TA.y 4 [] rfl (Y.fromRaw (lo:=I+v.length) ke33 (by omega) (by omega) (wr2 I v.length (by omega)) rfl rfl) rfl rfl rfl (by kernel_rfl) rfl ?_
    refine TA.y 5 [] rfl (Y.move rfl) rfl rfl rfl (by kernel_rfl) rfl ?_
    refine TA.y 6 [] rfl (Y.move rfl) rfl rfl rfl (by kernel_rfl) rfl ?_
    refine TA.y 7 [] rfl (Y.fromRaw (lo:=I) ke33 (by omega) (by omega) rfl rfl rfl) rfl rfl rfl (by kernel_rfl) rfl ?_
    refine TA.one 8 (by kernel_rfl) ?_
    refine TX.ef [] rfl (Ef.rawCopy (sl:=s.length - I) 0 1 ke33 rfl rfl rfl rfl (by omega) (by rw[q4];exact m2) (Nat.le_trans m4 hl1) (zdA ho1 h1n) rfl) rfl rfl rfl (fun _=>rfl) (fun _=>?_)
    refine TA.nil (by kernel_rfl) ?_
    refine TE.next ?_
    refine TW.seq ?_
    refine TW.region ?_
    refine TO.y (Y.move rfl) rfl rfl rfl ?_
    refine TO.y (Y.assign rfl) rfl rfl rfl ?_
    refine TO.nil ?_
    refine TE.next ?_
    refine TW.ret ?_
    refine TE.then_ret ?_
    refine TE.ghost (Gh.fold (α:=Share) (l:=s) (k:=v) (i:=I) [0,2,2,0,0] rfl h1n hz2 hz3 (Nat.le_of_eq q5.symm) q6) (fun _=>?_)
    exact TE.leaf fun _ _ hf_ hs_=>zS (rs:=[.tmp 6]) (vs:=[.slice (some ⟨g,0,none⟩) (s.length+v.length) gc]) (.inl rfl) rfl ⟨rfl,trivial⟩ hf_ hs_ ⟨(.slice (some ⟨g,0,none⟩) (s.length+v.length) gc),rfl,hs_.pulls [0] rfl⟩
   ·refine TW.cond_f rfl (by rw[e1];exact decide_eq_false (by omega)) ?_
    refine TW.skip ?_
    refine TE.next ?_
    refine TW.seq ?_
    refine TW.region ?_
    refine TO.y (Y.move rfl) rfl rfl rfl ?_
    refine TO.y (Y.move rfl) rfl rfl rfl ?_
    refine TO.y (Y.move rfl) rfl rfl rfl ?_
    refine TO.y (Y.add rfl rfl) rfl rfl rfl ?_
    refine TO.y (Y.toRaw (hi:=s.length+v.length) ke33 (by omega) e1 rfl rfl) rfl rfl rfl ?_
    refine TO.y (Y.assign rfl) rfl rfl rfl ?_
    refine TO.nil ?_
    refine TE.next ?_
    obtain ⟨q1,q2,q3,q4,q5⟩:=insB h1n (by omega) hc3 hl1 hl2
    have m1:0+I*2+v.length*2≤cap*2:=by omega
    have m2:0+(I+v.length)*2+(s.length - I)*2≤cap*2:=by omega
    have m3:0+v.length*2≤cap2*2:=by omega
    have m4:0+I*2+(s.length - I)*2≤cap*2:=by omega
    have hne:cur≠[]:=by intro e;rw[e]at hl1;simp at hl1;omega
    refine TW.seq ?_
    refine TW.seq ?_
    refine TW.region ?_
    refine TO.y (Y.move rfl) rfl rfl rfl ?_
    refine TO.y (Y.move rfl) rfl rfl rfl ?_
    refine TO.y (Y.move rfl) rfl rfl rfl ?_
    refine TO.y (Y.move rfl) rfl rfl rfl ?_
    refine TO.y (Y.add rfl rfl) rfl rfl rfl ?_
    refine TO.y (Y.fromRaw (lo:=I+v.length) ke33 (by omega) (by omega) (wr2 I v.length (by omega)) rfl rfl) rfl rfl rfl ?_
    refine TO.ef (Ef.overlaps (tr:=4) 1 0 Tryz.func117 (by kernel_rfl) (by kernel_rfl) (by kernel_rfl) (by kernel_rfl) ke33 rfl rfl (Ne.symm hbb) rfl rfl hne) rfl rfl rfl (fun _=>?_)
    refine TO.y (Y.not rfl) rfl rfl rfl ?_
    refine TO.nil ?_
    refine TE.next ?_
    refine TW.cond_true rfl ?_
    refine TW.seq ?_
    refine TW.draw (isH:=[]) hMix ?_
    refine TA.y 0 [] rfl (Y.move rfl) rfl rfl rfl (by kernel_rfl) rfl ?_
    refine TA.y 1 [] rfl (Y.move rfl) rfl rfl rfl (by kernel_rfl) rfl ?_
    refine TA.y 2 [] rfl (Y.move rfl) rfl rfl rfl (by kernel_rfl) rfl ?_
    refine TA.y 3 [] rfl (Y.add rfl rfl) rfl rfl rfl (by kernel_rfl) rfl ?_
    refine TA.y 4 [] rfl (Y.fromRaw (lo:=I+v.length) ke33 (by omega) (by omega) (wr2 I v.length (by omega)) rfl rfl) rfl rfl rfl (by kernel_rfl) rfl ?_
    refine TA.y 5 [] rfl (Y.move rfl) rfl rfl rfl (by kernel_rfl) rfl ?_
    refine TA.y 6 [] rfl (Y.move rfl) rfl rfl rfl (by kernel_rfl) rfl ?_
    refine TA.y 7 [] rfl (Y.fromRaw (lo:=I) ke33 (by omega) (by omega) rfl rfl rfl) rfl rfl rfl (by kernel_rfl) rfl ?_
    refine TA.one 8 (by kernel_rfl) ?_
    refine TX.ef [] rfl (Ef.rawCopy (sl:=s.length - I) 0 0 ke33 rfl rfl rfl rfl (by omega) (Nat.le_trans m2 hl1) (Nat.le_trans m4 hl1) (zdA ho1 h1n) rfl) rfl rfl rfl (fun _=>rfl) (fun _=>?_)
    refine TA.nil (by kernel_rfl) ?_
    refine TE.next ?_
    refine TW.seq ?_
    refine TW.region ?_
    refine TO.y (Y.move rfl) rfl rfl rfl ?_
    refine TO.y (Y.move rfl) rfl rfl rfl ?_
    refine TO.y (Y.fromRaw (lo:=I) ke33 (by omega) (by omega) rfl rfl rfl) rfl rfl rfl ?_
    refine TO.y (Y.move rfl) rfl rfl rfl ?_
    refine TO.ef (Ef.rawCopy (sl:=v.length) 0 1 ke33 rfl rfl rfl rfl (by omega) (by rw[q3];exact Nat.le_trans m1 hl1) (Nat.le_trans m3 hl2) (by rw[List.drop_zero];exact ho2) rfl) rfl rfl rfl (fun _=>?_)
    refine TO.nil ?_
    refine TE.next ?_
    refine TW.seq ?_
    refine TW.region ?_
    refine TO.y (Y.move rfl) rfl rfl rfl ?_
    refine TO.y (Y.assign rfl) rfl rfl rfl ?_
    refine TO.nil ?_
    refine TE.next ?_
    refine TW.ret ?_
    refine TE.then_ret ?_
    refine TE.ghost (Gh.fold (α:=Share) (l:=s) (k:=v) (i:=I) [0,1,1,0] rfl h1n (by omega) hc2 (by rw[q4];exact hl1) q5) (fun _=>?_)
    exact TE.leaf fun _ _ hf_ hs_=>zS (rs:=[.tmp 6]) (vs:=[.slice (some ⟨b,0,none⟩) (s.length+v.length) cap]) (.inl rfl) rfl ⟨rfl,trivial⟩ hf_ hs_ ⟨(.slice (some ⟨b,0,none⟩) (s.length+v.length) cap),rfl,hs_.pulls [0] rfl⟩
theorem ziO {s:List Share} {i:Int} {v:List Share} {V_s0 V_v0:Value} :Cn Tryz.prog 79 [V_s0,iv i,V_v0] [.own V_s0 (lc s),.own V_v0 (lc v)] [] (zbz s i v) (fun _ (X:Value)=>X) fun r X=>[.own X (lc r)]:=⟨by kernel_rfl,fun _ h=>zhP s i v _ _ _ h⟩
noncomputable def zb3 (s:Shares) (tenant:Int) (quota:Int):Option (Shares × Bool):=
 (zcH s).bind fun R3=>
 if !R3 then (some ((⟨0,[]⟩:Shares),false))
 else ((zcG s).bind fun R8=>
 (zdi s tenant).bind fun R12=>
 bindC (if R12.2=true then ((idx R8.List R12.1).bind fun E19=>
 some (.go (R8.List.set R12.1.toNat (⟨tenant,quota⟩:Share))))
 else ((zbz R8.List R12.1 ([(⟨tenant,quota⟩:Share)])).bind fun R22=>
 some (.go R22)))
 (fun (T16:List Share)=>(zcH (⟨R8.Size,T16⟩:Shares)).bind fun R25=>
 if !R25 then (some (R8,false))
 else (some ((⟨R8.Size,T16⟩:Shares),true))))
theorem zeA {s:Shares} {tenant:Int} {quota:Int} {U0:Value} :Cn Tryz.prog 47 [.agg #[iv s.Size,U0],iv tenant,iv quota] [] [(U0,lc s.List)] (zb3 s tenant quota) (fun r (X:Value)=>.tuple #[.agg #[iv r.1.Size,X],.bool r.2]) fun r X=>[.own X (lc r.1.List)]:=by
 unfold zb3
 refine Ci Tryz.func47 r r ?_
 rintro w S ⟨Z0,-⟩
 refine Sr<|Fo (Bx r (Ca ⟨Op',Ob Z0,⟨⟩⟩)) fun B1=>Fo (Al kz35 r) fun B2=>Qs 1 r<|Nx<|Sq<|Sr<|Yo (Lb 1 kk35 r)<|Bi fun R3 H4=>Fo (Cl [] zf3 H4 r r1 ⟨(Bc Z0),⟨⟩⟩) fun _=>Qs 1 r<|Nx<|Wc r (fun H6=>Sr<|Yo (Bd kp35 kz35 (Pz) r)<|Fu (Sb 0 kk35 r (Cp r) r)<|Qs 1 r<|Nx<|Wr<|Tr<|Ni 2<|Rf (.slice none 0 0) [0] (RV.cell 1 r r kk35 r (Rt r Rz))) fun H6=>Sn<|Sr<|Yo (Lb 1 kk35 r)<|Bi fun R8 H9=>Fo (Cl [] zfq H9 r r1 ⟨(Bc Z0),⟨⟩⟩) fun Y10=>Fo (Al kz35 r) fun B11=>Fu (Sb 0 kk35 r (Ca ⟨Op',Ow' 1,⟨⟩⟩) r)<|Nx<|Sr<|Yo (Lb 3 kk35 r)<|Qs 1 r<|Bi fun R12 H13=>?_
 refine Fo (Cl [] ziB H13 r r1 ⟨(Bc Z0),⟨⟩⟩) fun _=>Qs 5 r<|Nx<|Sr<|Qs 2 r<|Yo (Bd kp129 kz129 (Pc r (Cp r)<|Pc r (Cp r)<|Pz) r)<|Fo (Al kz129 r) fun B15=>Fu (Sb 0 kk129 r (Cp r) r)<|Nx<|Sq<|Sr<|Qs 1 r<|Nx<|Jn Value [3,6,8] [4,3] (fun _ _=>[]) (fun T X=>[.box B11 35 [iv R8.Size,X],.own X (lc T)]) r2 r2 (?_) fun T16 X17=>?_
 ·exact Wc r (fun H18=>Rg<|Yo (Fb zcV r)<|Yo (Lb 1 kk33 r)<|Qs 1 r<|Yo (Lb 0 kk129 r)<|Bi fun E19 H20=>Yo (Ix ke33 (Oc 2 r) H20 r)<|Fu (Se (⟨tenant,quota⟩:Share) 2 kk129 H20 r (Cp r) r)<|Nl<|Jg Y10 [4,3,1,1]) fun H18=>Rg<|Yo (Fb zcV r)<|Yo (Lb 1 kk33 r)<|Qs 1 r<|Yo (Lb 0 kk129 r)<|Fo (Bs [(⟨tenant,quota⟩:Share)] ke33 kz129) fun B21=>Bi fun R22 H23=>Fo (Cl [3,0] ziO H23 r r1) fun Y24=>Yo (Fb zcV r)<|Fu (Sb 2 kk33 r (Co 0) r)<|Nl<|Jg Y24 [4,3,2,0]
 exact Ne<|Sq<|Sr<|Yo (Lb 2 kk35 r)<|Bi fun R25 H26=>Fo (Cl [] zf3 H26 r r1 ⟨(Oc 3 r),⟨⟩⟩) fun _=>Qs 1 r<|Nx<|Wc r (fun H28=>Sr<|Yo (Lb 0 kk35 r)<|Fo (Cl [] zfq H9 r r1 ⟨(Bc Z0),⟨⟩⟩) fun Y29=>Fu (Sb 2 kk35 r (Ca ⟨Op',Ow' 0,⟨⟩⟩) r)<|Qs 1 r<|Nx<|Wr<|Tr<|Rf Y29 [0] (RV.cell 2 r r kk35 r (Rt r Rz))) fun H28=>Sn<|Sr<|Yo (Lb 2 kk35 r)<|Fu (Sb 1 kk35 r (Ca ⟨Op',Ow' 3,⟨⟩⟩) r)<|Qs 1 r<|Nx<|Wr<|Rf X17 [3] (RV.cell 1 r r kk35 r (Rt r Rz))
noncomputable def zcJ (n:Int):Option Bool:=
 (zB n 0 1000000).bind fun R1=>
 some R1
theorem zh5 {n:Int} :Cn Tryz.prog 86 [iv n] [] [] (zcJ n) (fun r (_:Unit)=>.bool r) fun _ _=>[]:=by
 unfold zcJ
 refine Ci Tryz.func86 r r ?_
 rintro w S -
 exact Sr<|Qs 1 r<|Nx<|Sr<|Qs 1 r<|Bi fun R1 H2=>Fo (Cl [] zF H2 r r1) fun _=>Qs 1 r<|Nx<|Wr<|Re () []
noncomputable def zcu (d:KeyDev):Option Bool:=
 (if !(decide ((d.Master.length:Int)=32)) then (some true)
 else (if decide ((d.Slots.length:Int)>4) then (some true)
 else ((zcJ d.Wiped).bind fun R6=>
 some (!R6)))).bind (fun (T2:Bool)=>
 if T2=true then (some false)
 else (bindC (loopO (fun (S10:Int)=>if decide (S10<(d.Slots.length:Int)) then ((idx d.Slots S10).bind fun E15=>
 ((zbp E15.Tenant).bind fun R20=>
 if !R20 then (some true)
 else (if !(decide ((E15.Key.length:Int)=32)) then (some true)
 else (if decide (S10>0) then ((idx d.Slots (IntKind.i64.wrap (S10 - 1))).bind fun E26=>
 some (decide (E15.Tenant≤E26.Tenant)))
 else (some false)))).bind (fun (T18:Bool)=>
 if T18=true then (some (.done (.done false)))
 else (some (.go (IntKind.i64.wrap (S10+1))))))
 else (some (.done (.go ()))))
 (0:Int))
 (fun (T12:Unit)=>some true)))
theorem zf0 {d:KeyDev} {U0:Value} :Cn Tryz.prog 80 [.agg #[strV d.Master,U0,iv d.Wiped]] [] [(U0,lc d.Slots)] (zcu d) (fun r (_:Unit)=>.bool r) fun _ _=>[]:=by
 unfold zcu
 refine Ci Tryz.func80 r r ?_
 rintro w S ⟨Z0,-⟩
 refine Sr<|Fo (Bx r (Ca ⟨Op',Ob Z0,Op',⟨⟩⟩)) fun B1=>Qs 1 r<|Nx<|Sq<|Sq<|Jv [1] (fun T=>[(20,.bool T)]) r1 (?_) fun T2=>?_
 ·refine Rg<|Yo (Fb ztO r)<|Yo (Lb 0 kk9 r)<|Yo (Y.slen ks9 r)<|Qs 2 r<|It (fun H4=>Of 4 (zl H4) r r<|Yo (Pt H4 r)<|Qs 1 r<|Of 4 r r r<|Yo (Pt r r)<|Nl<|Bg () [0]) fun H4=>Yg (gdA (za H4)) (Fb zea r)<|Yg (gdA (za H4)) (Lb 0 kk30 r)<|Yg (gdA (za H4)) (Ln ke30 (Bc Z0) r)<|Qg 1 (za H4) r r<|Yo (Pf H4 r)<|Qs 1 r<|It (fun H5=>Of 4 (zl H5) r r<|Yo (Pt H5 r)<|Nl<|Bg () [0]) fun H5=>Yg (gdA (za H5)) (Fb zka r)<|Yg (gdA (za H5)) (Lb 0 kk3 r)<|Bi fun R6 H7=>Fg (gdA (za H5)) (Cl [] zh5 H7 r r1) fun _=>?_
  exact Qg 1 (za H5) r r<|Yo (Pf H5 r)<|Nl<|Bg () [0]
 refine Ne<|Wc r (fun H9=>Sr<|Qs 1 r<|Nx<|Wr<|Tr<|Re () []) fun H9=>Sn<|Sq<|Sr<|Yo (Fb zea r)<|Yo (Lb 0 kk30 r)<|Yo (Ln ke30 (Bc Z0) r)<|Qs 1 r<|Nx<|Jn Unit [] [] (fun _ _=>[]) (fun _ _=>[]) r2 r2 (?_) fun T12 X13=>?_
 ·refine Wb<|Lu [1,22,23] (fun T=>[(24,iv T)]) r1 fun S10=>Sr<|Qs 1 r<|Nx<|Sq<|Wc r (fun H14=>?_) fun H14=>?_
  ·refine Sn<|Sq<|Wb<|Sr<|Qs 1 r<|Bi fun E15 H16=>Yo (Ix ke30 (Bc Z0) H16 r)<|Yo (Le kk135 (Bc Z0) H16 r)<|Fo (Al kz135 r) fun B17=>Qs 1 r<|Fu (Sb 0 kk135 r (Cp r) r)<|Nx<|Sq<|Jb Unit [1,22,23,24] [1] (fun T _=>[(54,.bool T)]) (fun _ _=>[]) r2 r2 (?_) fun T18 X19=>?_
   ·refine Dr [0,0] r hMix<|Ay 0 [0,0] r (Fb ziE r)<|Ay 1 [0,0] r (Lb 0 kk3 r)<|Ai fun R20 H21=>A1 2<|Xe [0,0] r (Cl [] zeE H21 r r1) fun _=>Aq [3,4] [0,0] r<|Ia (fun H23=>Ax [5,6,7,8] [0,0] (zl H23) r r<|Ay 9 [0,0] r (Pt H23 r)<|Aq [10] [0,0] r<|Ax [11,12,13] [0,0] r r r<|Au [14,15,16,17,18,19,20,21,22,23] [0,0] r r<|Ax [24] [0,0] r r r<|Ay 25 [0,0] r (Pt r r)<|Az<|Bg () [1]) fun H23=>Ag 5 [0,0] (gdA (za H23)) r (Fb zpP r)<|Ag 6 [0,0] (gdA (za H23)) r (Lb 0 kk9 r)<|Ag 7 [0,0] (gdA (za H23)) r (Y.slen ks9 r)<|Ag 8 [0,0] (gdA (za H23)) r (Y.neq r r)<|Ay 9 [0,0] r (Pf H23 r)<|Aq [10] [0,0] r<|Ia (fun H24=>Ax [11,12,13] [0,0] (zl H24) r r<|Au [14,15,16,17,18,19,20,21,22,23] [0,0] r r<|Ax [24] [0,0] (zl H24) r r<|Ay 25 [0,0] r (Pt H24 r)<|Az<|Bg () [1]) fun H24=>?_
    refine Ag 11 [0,0] (gdA (za H24)) r (Y.move r)<|Ag 12 [0,0] (gdA (za H24)) r (Y.gtr r r)<|Ag 13 [0,0] (gdA (za H24)) r (Y.move r)<|Ia (fun H25=>?_) fun H25=>?_
    ·exact Ag 14 [0,0] (gdA (zd H25)) r (Fb ziE r)<|Ag 15 [0,0] (gdA (zd H25)) r (Lb 0 kk3 r)<|Ag 16 [0,0] (gdA (zd H25)) r (Fb zea r)<|Ag 17 [0,0] (gdA (zd H25)) r (Lb 1 kk30 r)<|Ag 18 [0,0] (gdA (zd H25)) r (Y.move r)<|Ag 19 [0,0] (gdA (zd H25)) r (Y.sub r r)<|Ai fun E26 H27=>Ag 20 [0,0] (gdA (zd H25)) r (Ix ke30 (Bc Z0) H27 r)<|Ag 21 [0,0] (gdA (zd H25)) r (Fe ziE (Bc Z0) H27 r)<|Ag 22 [0,0] (gdA (zd H25)) r (Le kk3 (Bc Z0) H27 r)<|Ag 23 [0,0] (gdA (zd H25)) r (Y.leq r r)<|Ag 24 [0,0] (gdA (za H24)) r (Pt H25 r)<|Ay 25 [0,0] r (Pf H24 r)<|Az<|Bg () [1]
    exact Ax [14,15,16,17,18,19,20,21,22,23] [0,0] (zt H25) r r<|Ag 24 [0,0] (gdA (za H24)) r (Pf H25 r)<|Ay 25 [0,0] r (Pf H24 r)<|Az<|Bg () [1]
   exact Ne<|Wc r (fun H28=>Sr<|Qs 1 r<|Nx<|Wr<|Br<|Tr<|Er<|Br<|Jd<|Tr<|Re () []) fun H28=>Sk<|Bn<|Ne<|Rg<|Qs 2 r<|Nl<|Lg () [0]
  exact Wx<|Tx<|Ex<|Be<|Jg () []
 exact Ne<|Sr<|Qs 1 r<|Nx<|Wr<|Re () []
noncomputable def zfA (x:KeySlot) (c0_:Int):Option Bool:=
 some (decide (x.Tenant=c0_))
theorem zlX {x:KeySlot} {c0_:Int} {U0:Nat} :Cn Tryz.prog 120 [.agg #[iv x.Tenant,strV x.Key],pt U0] [.box U0 3 [iv c0_]] [] (zfA x c0_) (fun r (_:Unit)=>.bool r) fun _ _=>[.box U0 3 [iv c0_]]:=by
 unfold zfA
 refine Ci Tryz.func120 r r ?_
 rintro w S -
 exact Sr<|Fo (Bx r (Cp r)) fun B1=>Qs 1 r<|Nx<|Sr<|Yo (Fb ziE r)<|Yo (Lb 0 kk3 r)<|Yo (Lb 1 kk3 r)<|Qs 2 r<|Nx<|Wr<|Re () [1]
noncomputable def z6 (s:List KeySlot) (f_c0:Int):Option Int:=
 bindC (loopO (fun (S1:Int)=>if decide (S1<(s.length:Int)) then ((idx s S1).bind fun E6=>
 (zfA E6 f_c0).bind fun R8=>
 if R8=true then (some (.done (.done S1)))
 else (some (.go (IntKind.i64.wrap (S1+1)))))
 else (some (.done (.go ()))))
 (0:Int))
 (fun (T3:Unit)=>some (-1:Int))
theorem zeg {s:List KeySlot} {f_c0:Int} {U0:Value} {U1:Nat} :Cn Tryz.prog 119 [U0,.func (.func 120) #[] #[pt U1]] [.box U1 3 [iv f_c0]] [(U0,lc s)] (z6 s f_c0) (fun r (_:Unit)=>iv r) fun _ _=>[.box U1 3 [iv f_c0]]:=by
 unfold z6
 refine Ci Tryz.func119 r r ?_
 rintro w S ⟨Z0,-⟩
 refine Sr<|Qs 1 r<|Nx<|Sq<|Sr<|Qs 1 r<|Yo (Ln ke30 (Bc Z0) r)<|Qs 1 r<|Nx<|Ju [] (fun _=>[]) r1 (?_) fun T3=>?_
 ·refine Wb<|Lu [0,1,7] (fun T=>[(8,iv T)]) r1 fun S1=>Sr<|Qs 1 r<|Nx<|Sq<|Wc r (fun H5=>?_) fun H5=>?_
  ·exact Sn<|Sq<|Wb<|Sr<|Qs 2 r<|Nx<|Sr<|Qs 3 r<|Bi fun E6 H7=>Yo (Ix ke30 (Bc Z0) H7 r)<|Yo (Le kk135 (Bc Z0) H7 r)<|Bi fun R8 H9=>Fo (Cw [0] zlX H9 r r r1) fun _=>Nx<|Wc r (fun H11=>Sr<|Qs 2 r<|Nx<|Wr<|Br<|Tr<|Er<|Br<|Jd<|Tr<|Re () [0]) fun H11=>Sk<|Bn<|Ne<|Rg<|Qs 2 r<|Nl<|Lg () [0]
  exact Wx<|Tx<|Ex<|Be<|Jg () [0]
 exact Ne<|Sr<|Qs 1 r<|Nx<|Wr<|Re () [0]
noncomputable def zdN (d:KeyDev) (tenant:Int):Option Int:=
 (z6 d.Slots tenant).bind fun R3=>
 some R3
theorem zgO {d:KeyDev} {tenant:Int} {U0:Value} :Cn Tryz.prog 81 [.agg #[strV d.Master,U0,iv d.Wiped],iv tenant] [] [(U0,lc d.Slots)] (zdN d tenant) (fun r (_:Unit)=>iv r) fun _ _=>[]:=by
 unfold zdN
 refine Ci Tryz.func81 r r ?_
 rintro w S ⟨Z0,-⟩
 exact Sr<|Fo (Bx r (Ca ⟨Op',Ob Z0,Op',⟨⟩⟩)) fun B1=>Fo (Bx r (Cp r)) fun B2=>Qs 1 r<|Nx<|Sr<|Yo (Fb zea r)<|Yo (Lb 1 kk30 r)<|Yo (Y.makeFunc r)<|Bi fun R3 H4=>Fo (Cl [0] zeg H4 r r1 ⟨(Bc Z0),⟨⟩⟩) fun _=>Qs 1 r<|Nx<|Wr<|Re () []
noncomputable def zdL (s:List KeySlot):Option (List KeySlot):=
 (app 24 ([]:List KeySlot) s).bind fun E4=>
 some E4
theorem zjm {s:List KeySlot} {U0:Value} :Cn Tryz.prog 121 [U0] [] [(U0,lc s)] (zdL s) (fun _ (X:Value)=>X) fun r X=>[.own X (lc r)]:=by
 unfold zdL
 refine Ci Tryz.func121 r r ?_
 rintro w S ⟨Z0,-⟩
 exact Sr<|Qs 1 r<|Nx<|Sq<|Sr<|Qs 1 r<|Yo (Y.nileq ke30 (Bc Z0) r r)<|Nx<|TW.cond_nil (Bc Z0) r (fun hnil_=>by subst hnil_;show TW _ _ _ (some ([])) _ _ _ _ _;exact (Sr<|Qs 1 r<|Nx<|Wr<|Tr<|Ni 2<|Re (.slice none 0 0) [0]))<|Sn<|Sr<|Fo (Bs ([]:List KeySlot) ke30 kz135) fun B2=>Qs 1 r<|Bi fun E4 H5=>Fo (Ap [0] H5 ke30 kz135 r (Bc Z0)) fun V3=>Qs 1 r<|Nx<|Wr<|Re V3 [0]
noncomputable def zcI (d:KeyDev):Option KeyDev:=
 (zdL d.Slots).bind fun R3=>
 some (⟨d.Master,R3,d.Wiped⟩:KeyDev)
theorem zeC {d:KeyDev} {U0:Value} :Cn Tryz.prog 82 [.agg #[strV d.Master,U0,iv d.Wiped]] [] [(U0,lc d.Slots)] (zcI d) (fun r (X:Value)=>.agg #[strV r.Master,X,iv r.Wiped]) fun r X=>[.own X (lc r.Slots)]:=by
 unfold zcI
 refine Ci Tryz.func82 r r ?_
 rintro w S ⟨Z0,-⟩
 exact Sr<|Fo (Bx r (Ca ⟨Op',Ob Z0,Op',⟨⟩⟩)) fun B1=>Fo (Al kz32 r) fun B2=>Nx<|Sr<|Yo (Fb zea r)<|Yo (Lb 1 kk30 r)<|Bi fun R3 H4=>Fo (Cl [] zjm H4 r r1 ⟨(Bc Z0),⟨⟩⟩) fun Y5=>Yo (Fb zea r)<|Fu (Sb 2 kk30 r (Co 0) r)<|Nx<|Sr<|Yo (Lb 2 kk32 r)<|Fu (Sb 1 kk32 r (Ca ⟨Op',Ow' 0,Op',⟨⟩⟩) r)<|Nx<|Wr<|Rf Y5 [0] (RV.cell 1 r r kk32 r Rz)
noncomputable def zbZ (s:List KeySlot) (i:Int) (v:List KeySlot):Option (List KeySlot):=ins 24 s i v
theorem zhR (s:List KeySlot) (i:Int) (v:List KeySlot) (V_s0 V_v0:Value) (r:List KeySlot) (hm:zbZ s i v=some r):
 Con Tryz.prog 83 [V_s0,.int .i64 i,V_v0] [.own V_s0 (lc s),.own V_v0 (lc v)] [] (fun X:Value=>X) (fun X=>[.own X (lc r)]):=by
 refine Con.intro (args:=[V_s0,.int .i64 i,V_v0]) (n:=95) (val:=fun _ (X:Value)=>X) (post:=fun r X=>[.own X (lc r)]) (m:=zbZ s i v) Tryz.func83 rfl rfl rfl hm ?_
 intro w S _
 unfold zbZ
 refine TW.known fun r0 hr0=>?_
 obtain ⟨h0,h1,h2,h3,rfl⟩:=ziD hr0
 obtain ⟨I,rfl⟩:=Int.eq_ofNat_of_zero_le h0
 rw[Int.toNat_natCast]
 have h1n:I≤s.length:=by omega
 clear hr0 hm
 have wr: ∀q:Nat,q≤4611686018427387904→IntKind.i64.wrap (q:Int)=(q:Int):=fun q hq=>by rw[IntKind.wrap_i64];omega
 have wr2: ∀a b:Nat,a+b≤4611686018427387904→IntKind.i64.wrap ((a:Int)+(b:Int))=((a+b:Nat):Int):=fun a b hq=>by rw[IntKind.wrap_i64];omega
 obtain ⟨z0,hpc⟩: ∃z,piece s (I:Int) (s.length:Int)=some z:=⟨_,if_pos ⟨by omega,by omega,by omega⟩⟩
 refine TW.seq ?_
 refine TW.region ?_
 refine TO.y (Y.assign rfl) rfl rfl rfl ?_
 refine TO.nil ?_
 refine TE.next ?_
 refine TW.seq ?_
 refine TW.region ?_
 refine TO.y (Y.move rfl) rfl rfl rfl ?_
 refine TO.y (Y.move rfl) rfl rfl rfl ?_
 refine TO.y (Y.subs hpc ke30 (Can.own 0 rfl) rfl ⟨_,rfl⟩ rfl) rfl rfl rfl ?_
 refine TO.nil ?_
 refine TE.next ?_
 refine TW.seq ?_
 refine TW.region ?_
 refine TO.y (Y.move rfl) rfl rfl rfl ?_
 refine TO.y (Y.len (l:=v) ke30 (Can.own 1 rfl) rfl) rfl rfl rfl ?_
 refine TO.y (Y.assign rfl) rfl rfl rfl ?_
 refine TO.nil ?_
 refine TE.next ?_
 refine TW.seq ?_
 refine TW.seq ?_
 refine TW.region ?_
 refine TO.y (Y.move rfl) rfl rfl rfl ?_
 refine TO.y (Y.eql rfl rfl) rfl rfl rfl ?_
 refine TO.nil ?_
 refine TE.next ?_
 by_cases hm0:v= []
 ·subst hm0
  rw[show s.take I++([]++s.drop I)=s by simp]
  refine TW.cond_t rfl (by simp) ?_
  refine TW.seq ?_
  refine TW.region ?_
  refine TO.y (Y.move rfl) rfl rfl rfl ?_
  refine TO.y (Y.assign rfl) rfl rfl rfl ?_
  refine TO.nil ?_
  refine TE.next ?_
  refine TW.ret ?_
  refine TE.then_ret ?_
  exact TE.leaf fun _ _ hf_ hs_=>zS (rs:=[.tmp 6]) (vs:=[V_s0]) (.inl rfl) rfl ⟨rfl,trivial⟩ hf_ hs_ ⟨V_s0,rfl,hs_.pulls [0] rfl⟩
 ·have hm1:0<v.length:=List.length_pos_iff.2 hm0
  refine TW.cond_f rfl (decide_eq_false (by omega)) ?_
  refine TW.skip ?_
  refine TE.next ?_
  refine TW.seq ?_
  refine TW.region ?_
  refine TO.y (Y.move rfl) rfl rfl rfl ?_
  refine TO.y (Y.len (l:=s) ke30 (Can.own 0 rfl) rfl) rfl rfl rfl ?_
  refine TO.y (Y.assign rfl) rfl rfl rfl ?_
  refine TO.nil ?_
  refine TE.next ?_
  refine TW.seq ?_
  refine TW.seq ?_
  refine TW.region ?_
  refine TO.y (Y.move rfl) rfl rfl rfl ?_
  refine TO.y (Y.move rfl) rfl rfl rfl ?_
  refine TO.y (Y.eql rfl rfl) rfl rfl rfl ?_
  refine TO.nil ?_
  refine TE.next ?_
  by_cases hin:I=s.length
  ·have happ:app 24 s v=some (s++v):=by unfold app;rw[if_pos ⟨h2,by omega⟩]
   rw[show s.take I++(v++s.drop I)=s++v by rw[hin];simp]
   refine TW.cond_t rfl (decide_eq_true (by omega)) ?_
   refine TW.seq ?_
   refine TW.region ?_
   refine TO.y (Y.move rfl) rfl rfl rfl ?_
   refine TO.y (Y.move rfl) rfl rfl rfl ?_
   refine TO.ef (Ef.appN (α:=KeySlot) (is':=[]) [0,0] happ ke30 kz135 rfl rfl rfl rfl rfl) rfl rfl rfl (fun X=>?_)
   refine TO.y (Y.assign rfl) rfl rfl rfl ?_
   refine TO.nil ?_
   refine TE.next ?_
   refine TW.ret ?_
   refine TE.then_ret ?_
   exact TE.leaf fun _ _ hf_ hs_=>zS (rs:=[.tmp 6]) (vs:=[X]) (.inl rfl) rfl ⟨rfl,trivial⟩ hf_ hs_ ⟨X,rfl,hs_.pulls [0] rfl⟩
  ·refine TW.cond_f rfl (decide_eq_false (by omega)) ?_
   refine TW.skip ?_
   refine TE.next ?_
   refine TW.openRows (α:=KeySlot) (by omega) hm1 ?_
   intro b cap e cur b2 cap2 e2 cur2 hV hU hbb hc1 hc2 hc3 hc4 hl1 hl2 ho1 ho2
   subst hV hU
   have hsz:Enc.sz KeySlot=2:=rfl
   rw[hsz]at hl1 hl2 ho1 ho2
   have e1:=wr2 s.length v.length h3
   refine TW.seq ?_
   refine TW.seq ?_
   refine TW.region ?_
   refine TO.y (Y.move rfl) rfl rfl rfl ?_
   refine TO.y (Y.move rfl) rfl rfl rfl ?_
   refine TO.y (Y.add rfl rfl) rfl rfl rfl ?_
   refine TO.y (Y.move rfl) rfl rfl rfl ?_
   refine TO.y (Y.capRaw ke30 rfl) rfl rfl rfl ?_
   refine TO.y (Y.gtr rfl rfl) rfl rfl rfl ?_
   refine TO.nil ?_
   refine TE.next ?_
   by_cases hroom:cap<s.length+v.length
   ·refine TW.cond_t rfl (by rw[e1];exact decide_eq_true (by omega)) ?_
    refine TW.seq ?_
    refine TW.region ?_
    refine TO.y (Y.move rfl) rfl rfl rfl ?_
    refine TO.y (Y.move rfl) rfl rfl rfl ?_
    refine TO.y (Y.toRaw (hi:=I) ke30 (by omega) rfl rfl rfl) rfl rfl rfl ?_
    refine TO.y (Y.move rfl) rfl rfl rfl ?_
    refine TO.y (Y.move rfl) rfl rfl rfl ?_
    refine TO.y (Y.add rfl rfl) rfl rfl rfl ?_
    refine TO.y (Y.move rfl) rfl rfl rfl ?_
    refine TO.y (Y.sub rfl rfl) rfl rfl rfl ?_
    have e2:IntKind.i64.wrap (IntKind.i64.wrap ((s.length:Int)+(v.length:Int)) - (I:Int))=((s.length+v.length - I:Nat):Int):=by rw[e1,IntKind.wrap_i64];omega
    refine TO.ef (Ef.rawGrow (N:=s.length+v.length) (q:=s.length+v.length - I) 0 ke30 ki3 kz135 rfl rfl rfl rfl rfl e2 (by omega) (by omega) hl1 (by omega) hroom (by omega) h2) rfl rfl rfl (fun X=>?_)
    refine TO.y (Y.assign rfl) rfl rfl rfl ?_
    refine TO.nil ?_
    refine TE.next ?_
    obtain ⟨⟨⟨g,gc⟩,ge,zs⟩,hz1,hz2,hz3⟩:=X
    dsimp only at hz1 hz2 hz3 ⊢
    obtain ⟨q1,q2,q3,q4,q5,q6⟩:=insA (G:=gc) (zs:=zs) h1n hc1 hc3 hl1 hl2 hz1 hz2
    have m1:0+I*2+v.length*2≤gc*2:=by omega
    have m2:0+(I+v.length)*2+(s.length - I)*2≤gc*2:=by omega
    have m3:0+v.length*2≤cap2*2:=by omega
    have m4:0+I*2+(s.length - I)*2≤cap*2:=by omega
    refine TW.seq ?_
    refine TW.region ?_
    refine TO.y (Y.move rfl) rfl rfl rfl ?_
    refine TO.y (Y.move rfl) rfl rfl rfl ?_
    refine TO.y (Y.fromRaw (lo:=I) ke30 (by omega) (by omega) rfl rfl rfl) rfl rfl rfl ?_
    refine TO.y (Y.move rfl) rfl rfl rfl ?_
    refine TO.ef (Ef.rawCopy (sl:=v.length) 0 2 ke30 rfl rfl rfl rfl (by omega) (by rw[q3];exact m1) (Nat.le_trans m3 hl2) (by rw[List.drop_zero];exact ho2) rfl) rfl rfl rfl (fun _=>?_)
    refine TO.nil ?_
    refine TE.next ?_
    refine TW.seq ?_
    refine TW.draw (isH:=[]) hMix ?_
    refine TA.y 0 [] rfl (Y.move rfl) rfl rfl rfl (by kernel_rfl) rfl ?_
    refine TA.y 1 [] rfl (Y.move rfl) rfl rfl rfl (by kernel_rfl) rfl ?_
    refine TA.y 2 [] rfl (Y.move rfl) rfl rfl rfl (by kernel_rfl) rfl ?_
    refine TA.y 3 [] rfl (Y.add rfl rfl) rfl rfl rfl (by kernel_rfl) rfl ?_
    refine TA.y 4 [] rfl (Y.fromRaw (lo:=I+v.length) ke30 (by omega) (by omega) (wr2 I v.length (by omega)) rfl rfl) rfl rfl rfl (by kernel_rfl) rfl ?_
    refine TA.y 5 [] rfl (Y.move rfl) rfl rfl rfl (by kernel_rfl) rfl ?_
    refine TA.y 6 [] rfl (Y.move rfl) rfl rfl rfl (by kernel_rfl) rfl ?_
    refine TA.y 7 [] rfl (Y.fromRaw (lo:=I) ke30 (by omega) (by omega) rfl rfl rfl) rfl rfl rfl (by kernel_rfl) rfl ?_
    refine TA.one 8 (by kernel_rfl) ?_
    refine TX.ef [] rfl (Ef.rawCopy (sl:=s.length - I) 0 1 ke30 rfl rfl rfl rfl (by omega) (by rw[q4];exact m2) (Nat.le_trans m4 hl1) (zdA ho1 h1n) rfl) rfl rfl rfl (fun _=>rfl) (fun _=>?_)
    refine TA.nil (by kernel_rfl) ?_
    refine TE.next ?_
    refine TW.seq ?_
    refine TW.region ?_
    refine TO.y (Y.move rfl) rfl rfl rfl ?_
    refine TO.y (Y.assign rfl) rfl rfl rfl ?_
    refine TO.nil ?_
    refine TE.next ?_
    refine TW.ret ?_
    refine TE.then_ret ?_
    refine TE.ghost (Gh.fold (α:=KeySlot) (l:=s) (k:=v) (i:=I) [0,2,2,0,0] rfl h1n hz2 hz3 (Nat.le_of_eq q5.symm) q6) (fun _=>?_)
    exact TE.leaf fun _ _ hf_ hs_=>zS (rs:=[.tmp 6]) (vs:=[.slice (some ⟨g,0,none⟩) (s.length+v.length) gc]) (.inl rfl) rfl ⟨rfl,trivial⟩ hf_ hs_ ⟨(.slice (some ⟨g,0,none⟩) (s.length+v.length) gc),rfl,hs_.pulls [0] rfl⟩
   ·refine TW.cond_f rfl (by rw[e1];exact decide_eq_false (by omega)) ?_
    refine TW.skip ?_
    refine TE.next ?_
    refine TW.seq ?_
    refine TW.region ?_
    refine TO.y (Y.move rfl) rfl rfl rfl ?_
    refine TO.y (Y.move rfl) rfl rfl rfl ?_
    refine TO.y (Y.move rfl) rfl rfl rfl ?_
    refine TO.y (Y.add rfl rfl) rfl rfl rfl ?_
    refine TO.y (Y.toRaw (hi:=s.length+v.length) ke30 (by omega) e1 rfl rfl) rfl rfl rfl ?_
    refine TO.y (Y.assign rfl) rfl rfl rfl ?_
    refine TO.nil ?_
    refine TE.next ?_
    obtain ⟨q1,q2,q3,q4,q5⟩:=insB h1n (by omega) hc3 hl1 hl2
    have m1:0+I*2+v.length*2≤cap*2:=by omega
    have m2:0+(I+v.length)*2+(s.length - I)*2≤cap*2:=by omega
    have m3:0+v.length*2≤cap2*2:=by omega
    have m4:0+I*2+(s.length - I)*2≤cap*2:=by omega
    have hne:cur≠[]:=by intro e;rw[e]at hl1;simp at hl1;omega
    refine TW.seq ?_
    refine TW.seq ?_
    refine TW.region ?_
    refine TO.y (Y.move rfl) rfl rfl rfl ?_
    refine TO.y (Y.move rfl) rfl rfl rfl ?_
    refine TO.y (Y.move rfl) rfl rfl rfl ?_
    refine TO.y (Y.move rfl) rfl rfl rfl ?_
    refine TO.y (Y.add rfl rfl) rfl rfl rfl ?_
    refine TO.y (Y.fromRaw (lo:=I+v.length) ke30 (by omega) (by omega) (wr2 I v.length (by omega)) rfl rfl) rfl rfl rfl ?_
    refine TO.ef (Ef.overlaps (tr:=4) 1 0 Tryz.func122 (by kernel_rfl) (by kernel_rfl) (by kernel_rfl) (by kernel_rfl) ke30 rfl rfl (Ne.symm hbb) rfl rfl hne) rfl rfl rfl (fun _=>?_)
    refine TO.y (Y.not rfl) rfl rfl rfl ?_
    refine TO.nil ?_
    refine TE.next ?_
    refine TW.cond_true rfl ?_
    refine TW.seq ?_
    refine TW.draw (isH:=[]) hMix ?_
    refine TA.y 0 [] rfl (Y.move rfl) rfl rfl rfl (by kernel_rfl) rfl ?_
    refine TA.y 1 [] rfl (Y.move rfl) rfl rfl rfl (by kernel_rfl) rfl ?_
    refine TA.y 2 [] rfl (Y.move rfl) rfl rfl rfl (by kernel_rfl) rfl ?_
    refine TA.y 3 [] rfl (Y.add rfl rfl) rfl rfl rfl (by kernel_rfl) rfl ?_
    refine TA.y 4 [] rfl (Y.fromRaw (lo:=I+v.length) ke30 (by omega) (by omega) (wr2 I v.length (by omega)) rfl rfl) rfl rfl rfl (by kernel_rfl) rfl ?_
    refine TA.y 5 [] rfl (Y.move rfl) rfl rfl rfl (by kernel_rfl) rfl ?_
    refine TA.y 6 [] rfl (Y.move rfl) rfl rfl rfl (by kernel_rfl) rfl ?_
    refine TA.y 7 [] rfl (Y.fromRaw (lo:=I) ke30 (by omega) (by omega) rfl rfl rfl) rfl rfl rfl (by kernel_rfl) rfl ?_
    refine TA.one 8 (by kernel_rfl) ?_
    refine TX.ef [] rfl (Ef.rawCopy (sl:=s.length - I) 0 0 ke30 rfl rfl rfl rfl (by omega) (Nat.le_trans m2 hl1) (Nat.le_trans m4 hl1) (zdA ho1 h1n) rfl) rfl rfl rfl (fun _=>rfl) (fun _=>?_)
    refine TA.nil (by kernel_rfl) ?_
    refine TE.next ?_
    refine TW.seq ?_
    refine TW.region ?_
    refine TO.y (Y.move rfl) rfl rfl rfl ?_
    refine TO.y (Y.move rfl) rfl rfl rfl ?_
    refine TO.y (Y.fromRaw (lo:=I) ke30 (by omega) (by omega) rfl rfl rfl) rfl rfl rfl ?_
    refine TO.y (Y.move rfl) rfl rfl rfl ?_
    refine TO.ef (Ef.rawCopy (sl:=v.length) 0 1 ke30 rfl rfl rfl rfl (by omega) (by rw[q3];exact Nat.le_trans m1 hl1) (Nat.le_trans m3 hl2) (by rw[List.drop_zero];exact ho2) rfl) rfl rfl rfl (fun _=>?_)
    refine TO.nil ?_
    refine TE.next ?_
    refine TW.seq ?_
    refine TW.region ?_
    refine TO.y (Y.move rfl) rfl rfl rfl ?_
    refine TO.y (Y.assign rfl) rfl rfl rfl ?_
    refine TO.nil ?_
    refine TE.next ?_
    refine TW.ret ?_
    refine TE.then_ret ?_
    refine TE.ghost (Gh.fold (α:=KeySlot) (l:=s) (k:=v) (i:=I) [0,1,1,0] rfl h1n (by omega) hc2 (by rw[q4];exact hl1) q5) (fun _=>?_)
    exact TE.leaf fun _ _ hf_ hs_=>zS (rs:=[.tmp 6]) (vs:=[.slice (some ⟨b,0,none⟩) (s.length+v.length) cap]) (.inl rfl) rfl ⟨rfl,trivial⟩ hf_ hs_ ⟨(.slice (some ⟨b,0,none⟩) (s.length+v.length) cap),rfl,hs_.pulls [0] rfl⟩
theorem ziQ {s:List KeySlot} {i:Int} {v:List KeySlot} {V_s0 V_v0:Value} :Cn Tryz.prog 83 [V_s0,iv i,V_v0] [.own V_s0 (lc s),.own V_v0 (lc v)] [] (zbZ s i v) (fun _ (X:Value)=>X) fun r X=>[.own X (lc r)]:=⟨by kernel_rfl,fun _ h=>zhR s i v _ _ _ h⟩
noncomputable def zfr (d:KeyDev) (tenant:Int) (key:List UInt8):Option (KeyDev × Bool):=
 (zcu d).bind fun R3=>
 if !R3 then (some ((⟨[],[],0⟩:KeyDev),false))
 else ((zdN d tenant).bind fun R8=>
 if decide (R8≥0) then ((zcI d).bind fun R12=>
 some (R12,false))
 else ((zcI d).bind fun R15=>
 bindC (loopO (fun (S19:Int)=>(if decide (S19<(R15.Slots.length:Int)) then ((idx R15.Slots S19).bind fun E26=>
 some (decide (E26.Tenant<tenant)))
 else (some false)).bind (fun (T23:Bool)=>
 if T23=true then (some (.go (IntKind.i64.wrap (S19+1))))
 else (some (.done (.go S19)))))
 (0:Int))
 (fun (T21:Int)=>(zbZ R15.Slots T21 ([(⟨tenant,key⟩:KeySlot)])).bind fun R30=>
 (zcu (⟨R15.Master,R30,R15.Wiped⟩:KeyDev)).bind fun R33=>
 if !R33 then (some (R15,false))
 else (some ((⟨R15.Master,R30,R15.Wiped⟩:KeyDev),true)))))
theorem znV {d:KeyDev} {tenant:Int} {key:List UInt8} {U0:Value} :Cn Tryz.prog 48 [.agg #[strV d.Master,U0,iv d.Wiped],iv tenant,strV key] [] [(U0,lc d.Slots)] (zfr d tenant key) (fun r (X:Value)=>.tuple #[.agg #[strV r.1.Master,X,iv r.1.Wiped],.bool r.2]) fun r X=>[.own X (lc r.1.Slots)]:=by
 unfold zfr
 refine Ci Tryz.func48 r r ?_
 rintro w S ⟨Z0,-⟩
 refine Sr<|Fo (Bx r (Ca ⟨Op',Ob Z0,Op',⟨⟩⟩)) fun B1=>Fo (Al kz32 r) fun B2=>Qs 1 r<|Nx<|Sq<|Sr<|Yo (Lb 1 kk32 r)<|Bi fun R3 H4=>Fo (Cl [] zf0 H4 r r1 ⟨(Bc Z0),⟨⟩⟩) fun _=>Qs 1 r<|Nx<|Wc r (fun H6=>Sr<|Yo (Bd kp32 kz32 (Pz) r)<|Fu (Sb 0 kk32 r (Cp r) r)<|Qs 1 r<|Nx<|Wr<|Tr<|Ni 2<|Rf (.slice none 0 0) [0] (RV.cell 1 r r kk32 r (Rt r Rz))) fun H6=>Sn<|Sq<|Sr<|Yo (Lb 1 kk32 r)<|Qs 1 r<|Bi fun R8 H9=>Fo (Cl [] zgO H9 r r1 ⟨(Bc Z0),⟨⟩⟩) fun _=>Qs 1 r<|Nx<|Wc r (fun H11=>Sr<|Yo (Lb 1 kk32 r)<|Bi fun R12 H13=>Fo (Cl [] zeC H13 r r1 ⟨(Bc Z0),⟨⟩⟩) fun Y14=>Fu (Sb 1 kk32 r (Ca ⟨Op',Ow' 0,Op',⟨⟩⟩) r)<|Qs 1 r<|Nx<|Wr<|Tr<|Rf Y14 [0] (RV.cell 1 r r kk32 r (Rt r Rz))) fun H11=>?_
 refine Sn<|Sr<|Yo (Lb 1 kk32 r)<|Bi fun R15 H16=>Fo (Cl [] zeC H16 r r1 ⟨(Bc Z0),⟨⟩⟩) fun Y17=>Fo (Al kz32 r) fun B18=>Fu (Sb 0 kk32 r (Ca ⟨Op',Ow' 1,Op',⟨⟩⟩) r)<|Nx<|Sr<|Qs 1 r<|Nx<|Sq<|Ju [1,2,3,6,8] (fun T=>[(9,iv T)]) r1 (?_) fun T21=>?_
 ·refine Wb<|Lu [1,2,3,6,8] (fun T=>[(9,iv T)]) r1 fun S19=>Sq<|Sq<|Jv [1,2,3,6,8,9] (fun T=>[(36,.bool T)]) r1 (?_) fun T23=>?_
  ·refine Rg<|Qs 1 r<|Yo (Fb zea r)<|Yo (Lb 0 kk30 r)<|Yo (Ln ke30 (Oc 1 r) r)<|Qs 2 r<|It (fun H25=>?_) fun H25=>?_
   ·exact Yg (gdA (zd H25)) (Fb zea r)<|Yg (gdA (zd H25)) (Lb 0 kk30 r)<|Qg 1 (zd H25) r r<|Bi fun E26 H27=>Yg (gdA (zd H25)) (Ix ke30 (Oc 1 r) H27 r)<|Yg (gdA (zd H25)) (Fe ziE (Oc 1 r) H27 r)<|Yg (gdA (zd H25)) (Le kk3 (Oc 1 r) H27 r)<|Qg 2 (zd H25) r r<|Yo (Pt H25 r)<|Nl<|Bg () [0,0,0,0]
   exact Of 8 (zt H25) r r<|Yo (Pf H25 r)<|Nl<|Bg () [0,0,0,0]
  exact Ne<|Wc r (fun H28=>Sn<|Wb<|Rg<|Qs 3 r<|Nl<|Bn<|Lg () [0,0,0,0]) fun H28=>Wx<|Tx<|Ex<|Be<|Jg () [0,0,0,0]
 refine Ne<|Sr<|Yo (Fb zea r)<|Yo (Lb 0 kk30 r)<|Qs 3 r<|Yo (Bd kp135 kz135 (Pc r (Cp r)<|Pc r (Cp r)<|Pz) r)<|Fo (Bs [(⟨tenant,key⟩:KeySlot)] ke30 kz135) fun B29=>Bi fun R30 H31=>Fo (Cl [2,0] ziQ H31 r r1) fun Y32=>Yo (Fb zea r)<|Fu (Sb 1 kk30 r (Co 0) r)<|Nx<|Sq<|Sr<|Yo (Lb 1 kk32 r)<|Bi fun R33 H34=>Fo (Cl [] zf0 H34 r r1 ⟨(Oc 0 r),⟨⟩⟩) fun _=>Qs 1 r<|Nx<|Wc r (fun H36=>Sr<|Yo (Lb 3 kk32 r)<|Fo (Cl [] zeC H16 r r1 ⟨(Bc Z0),⟨⟩⟩) fun Y37=>Fu (Sb 3 kk32 r (Ca ⟨Op',Ow' 0,Op',⟨⟩⟩) r)<|Qs 1 r<|Nx<|Wr<|Tr<|Rf Y37 [0] (RV.cell 3 r r kk32 r (Rt r Rz))) fun H36=>?_
 exact Sn<|Sr<|Yo (Lb 1 kk32 r)<|Fu (Sb 2 kk32 r (Ca ⟨Op',Ow' 0,Op',⟨⟩⟩) r)<|Qs 1 r<|Nx<|Wr<|Rf Y32 [0] (RV.cell 2 r r kk32 r (Rt r Rz))
noncomputable def zb0 (s:List STen) (i:Int) (v:List STen):Option (List STen):=ins 104 s i v
theorem zhT (s:List STen) (i:Int) (v:List STen) (V_s0 V_v0:Value) (r:List STen) (hm:zb0 s i v=some r):
 Con Tryz.prog 49 [V_s0,.int .i64 i,V_v0] [.own V_s0 (lc s),.own V_v0 (lc v)] [] (fun X:Value=>X) (fun X=>[.own X (lc r)]):=by
 refine Con.intro (args:=[V_s0,.int .i64 i,V_v0]) (n:=95) (val:=fun _ (X:Value)=>X) (post:=fun r X=>[.own X (lc r)]) (m:=zb0 s i v) Tryz.func49 rfl rfl rfl hm ?_
 intro w S _
 unfold zb0
 refine TW.known fun r0 hr0=>?_
 obtain ⟨h0,h1,h2,h3,rfl⟩:=ziD hr0
 obtain ⟨I,rfl⟩:=Int.eq_ofNat_of_zero_le h0
 rw[Int.toNat_natCast]
 have h1n:I≤s.length:=by omega
 clear hr0 hm
 have wr: ∀q:Nat,q≤4611686018427387904→IntKind.i64.wrap (q:Int)=(q:Int):=fun q hq=>by rw[IntKind.wrap_i64];omega
 have wr2: ∀a b:Nat,a+b≤4611686018427387904→IntKind.i64.wrap ((a:Int)+(b:Int))=((a+b:Nat):Int):=fun a b hq=>by rw[IntKind.wrap_i64];omega
 obtain ⟨z0,hpc⟩: ∃z,piece s (I:Int) (s.length:Int)=some z:=⟨_,if_pos ⟨by omega,by omega,by omega⟩⟩
 refine TW.seq ?_
 refine TW.region ?_
 refine TO.y (Y.assign rfl) rfl rfl rfl ?_
 refine TO.nil ?_
 refine TE.next ?_
 refine TW.seq ?_
 refine TW.region ?_
 refine TO.y (Y.move rfl) rfl rfl rfl ?_
 refine TO.y (Y.move rfl) rfl rfl rfl ?_
 refine TO.y (Y.subs hpc ke36 (Can.own 0 rfl) rfl ⟨_,rfl⟩ rfl) rfl rfl rfl ?_
 refine TO.nil ?_
 refine TE.next ?_
 refine TW.seq ?_
 refine TW.region ?_
 refine TO.y (Y.move rfl) rfl rfl rfl ?_
 refine TO.y (Y.len (l:=v) ke36 (Can.own 1 rfl) rfl) rfl rfl rfl ?_
 refine TO.y (Y.assign rfl) rfl rfl rfl ?_
 refine TO.nil ?_
 refine TE.next ?_
 refine TW.seq ?_
 refine TW.seq ?_
 refine TW.region ?_
 refine TO.y (Y.move rfl) rfl rfl rfl ?_
 refine TO.y (Y.eql rfl rfl) rfl rfl rfl ?_
 refine TO.nil ?_
 refine TE.next ?_
 by_cases hm0:v= []
 ·subst hm0
  rw[show s.take I++([]++s.drop I)=s by simp]
  refine TW.cond_t rfl (by simp) ?_
  refine TW.seq ?_
  refine TW.region ?_
  refine TO.y (Y.move rfl) rfl rfl rfl ?_
  refine TO.y (Y.assign rfl) rfl rfl rfl ?_
  refine TO.nil ?_
  refine TE.next ?_
  refine TW.ret ?_
  refine TE.then_ret ?_
  exact TE.leaf fun _ _ hf_ hs_=>zS (rs:=[.tmp 6]) (vs:=[V_s0]) (.inl rfl) rfl ⟨rfl,trivial⟩ hf_ hs_ ⟨V_s0,rfl,hs_.pulls [0] rfl⟩
 ·have hm1:0<v.length:=List.length_pos_iff.2 hm0
  refine TW.cond_f rfl (decide_eq_false (by omega)) ?_
  refine TW.skip ?_
  refine TE.next ?_
  refine TW.seq ?_
  refine TW.region ?_
  refine TO.y (Y.move rfl) rfl rfl rfl ?_
  refine TO.y (Y.len (l:=s) ke36 (Can.own 0 rfl) rfl) rfl rfl rfl ?_
  refine TO.y (Y.assign rfl) rfl rfl rfl ?_
  refine TO.nil ?_
  refine TE.next ?_
  refine TW.seq ?_
  refine TW.seq ?_
  refine TW.region ?_
  refine TO.y (Y.move rfl) rfl rfl rfl ?_
  refine TO.y (Y.move rfl) rfl rfl rfl ?_
  refine TO.y (Y.eql rfl rfl) rfl rfl rfl ?_
  refine TO.nil ?_
  refine TE.next ?_
  by_cases hin:I=s.length
  ·have happ:app 104 s v=some (s++v):=by unfold app;rw[if_pos ⟨h2,by omega⟩]
   rw[show s.take I++(v++s.drop I)=s++v by rw[hin];simp]
   refine TW.cond_t rfl (decide_eq_true (by omega)) ?_
   refine TW.seq ?_
   refine TW.region ?_
   refine TO.y (Y.move rfl) rfl rfl rfl ?_
   refine TO.y (Y.move rfl) rfl rfl rfl ?_
   refine TO.ef (Ef.appN (α:=STen) (is':=[]) [0,0] happ ke36 kz95 rfl rfl rfl rfl rfl) rfl rfl rfl (fun X=>?_)
   refine TO.y (Y.assign rfl) rfl rfl rfl ?_
   refine TO.nil ?_
   refine TE.next ?_
   refine TW.ret ?_
   refine TE.then_ret ?_
   exact TE.leaf fun _ _ hf_ hs_=>zS (rs:=[.tmp 6]) (vs:=[X]) (.inl rfl) rfl ⟨rfl,trivial⟩ hf_ hs_ ⟨X,rfl,hs_.pulls [0] rfl⟩
  ·refine TW.cond_f rfl (decide_eq_false (by omega)) ?_
   refine TW.skip ?_
   refine TE.next ?_
   refine TW.openRows (α:=STen) (by omega) hm1 ?_
   intro b cap e cur b2 cap2 e2 cur2 hV hU hbb hc1 hc2 hc3 hc4 hl1 hl2 ho1 ho2
   subst hV hU
   have hsz:Enc.sz STen=7:=rfl
   rw[hsz]at hl1 hl2 ho1 ho2
   have e1:=wr2 s.length v.length h3
   refine TW.seq ?_
   refine TW.seq ?_
   refine TW.region ?_
   refine TO.y (Y.move rfl) rfl rfl rfl ?_
   refine TO.y (Y.move rfl) rfl rfl rfl ?_
   refine TO.y (Y.add rfl rfl) rfl rfl rfl ?_
   refine TO.y (Y.move rfl) rfl rfl rfl ?_
   refine TO.y (Y.capRaw ke36 rfl) rfl rfl rfl ?_
   refine TO.y (Y.gtr rfl rfl) rfl rfl rfl ?_
   refine TO.nil ?_
   refine TE.next ?_
   by_cases hroom:cap<s.length+v.length
   ·refine TW.cond_t rfl (by rw[e1];exact decide_eq_true (by omega)) ?_
    refine TW.seq ?_
    refine TW.region ?_
    refine TO.y (Y.move rfl) rfl rfl rfl ?_
    refine TO.y (Y.move rfl) rfl rfl rfl ?_
    refine TO.y (Y.toRaw (hi:=I) ke36 (by omega) rfl rfl rfl) rfl rfl rfl ?_
    refine TO.y (Y.move rfl) rfl rfl rfl ?_
    refine TO.y (Y.move rfl) rfl rfl rfl ?_
    refine TO.y (Y.add rfl rfl) rfl rfl rfl ?_
    refine TO.y (Y.move rfl) rfl rfl rfl ?_
    refine TO.y (Y.sub rfl rfl) rfl rfl rfl ?_
    have e2:IntKind.i64.wrap (IntKind.i64.wrap ((s.length:Int)+(v.length:Int)) - (I:Int))=((s.length+v.length - I:Nat):Int):=by rw[e1,IntKind.wrap_i64];omega
    refine TO.ef (Ef.rawGrow (N:=s.length+v.length) (q:=s.length+v.length - I) 0 ke36 ki3 kz95 rfl rfl rfl rfl rfl e2 (by omega) (by omega) hl1 (by omega) hroom (by omega) h2) rfl rfl rfl (fun X=>?_)
    refine TO.y (Y.assign rfl) rfl rfl rfl ?_
    refine TO.nil ?_
    refine TE.next ?_
    obtain ⟨⟨⟨g,gc⟩,ge,zs⟩,hz1,hz2,hz3⟩:=X
    dsimp only at hz1 hz2 hz3 ⊢
    obtain ⟨q1,q2,q3,q4,q5,q6⟩:=insA (G:=gc) (zs:=zs) h1n hc1 hc3 hl1 hl2 hz1 hz2
    have m1:0+I*7+v.length*7≤gc*7:=by omega
    have m2:0+(I+v.length)*7+(s.length - I)*7≤gc*7:=by omega
    have m3:0+v.length*7≤cap2*7:=by omega
    have m4:0+I*7+(s.length - I)*7≤cap*7:=by omega
    refine TW.seq ?_
    refine TW.region ?_
    refine TO.y (Y.move rfl) rfl rfl rfl ?_
    refine TO.y (Y.move rfl) rfl rfl rfl ?_
    refine TO.y (Y.fromRaw (lo:=I) ke36 (by omega) (by omega) rfl rfl rfl) rfl rfl rfl ?_
    refine TO.y (Y.move rfl) rfl rfl rfl ?_
    refine TO.ef (Ef.rawCopy (sl:=v.length) 0 2 ke36 rfl rfl rfl rfl (by omega) (by rw[q3];exact m1) (Nat.le_trans m3 hl2) (by rw[List.drop_zero];exact ho2) rfl) rfl rfl rfl (fun _=>?_)
    refine TO.nil ?_
    refine TE.next ?_
    refine TW.seq ?_
    refine TW.draw (isH:=[]) hMix ?_
    refine TA.y 0 [] rfl (Y.move rfl) rfl rfl rfl (by kernel_rfl) rfl ?_
    refine TA.y 1 [] rfl (Y.move rfl) rfl rfl rfl (by kernel_rfl) rfl ?_
    refine TA.y 2 [] rfl (Y.move rfl) rfl rfl rfl (by kernel_rfl) rfl ?_
    refine TA.y 3 [] rfl (Y.add rfl rfl) rfl rfl rfl (by kernel_rfl) rfl ?_
    refine TA.y 4 [] rfl (Y.fromRaw (lo:=I+v.length) ke36 (by omega) (by omega) (wr2 I v.length (by omega)) rfl rfl) rfl rfl rfl (by kernel_rfl) rfl ?_
    refine TA.y 5 [] rfl (Y.move rfl) rfl rfl rfl (by kernel_rfl) rfl ?_
    refine TA.y 6 [] rfl (Y.move rfl) rfl rfl rfl (by kernel_rfl) rfl ?_
    refine TA.y 7 [] rfl (Y.fromRaw (lo:=I) ke36 (by omega) (by omega) rfl rfl rfl) rfl rfl rfl (by kernel_rfl) rfl ?_
    refine TA.one 8 (by kernel_rfl) ?_
    refine TX.ef [] rfl (Ef.rawCopy (sl:=s.length - I) 0 1 ke36 rfl rfl rfl rfl (by omega) (by rw[q4];exact m2) (Nat.le_trans m4 hl1) (zdA ho1 h1n) rfl) rfl rfl rfl (fun _=>rfl) (fun _=>?_)
    refine TA.nil (by kernel_rfl) ?_
    refine TE.next ?_
    refine TW.seq ?_
    refine TW.region ?_
    refine TO.y (Y.move rfl) rfl rfl rfl ?_
    refine TO.y (Y.assign rfl) rfl rfl rfl ?_
    refine TO.nil ?_
    refine TE.next ?_
    refine TW.ret ?_
    refine TE.then_ret ?_
    refine TE.ghost (Gh.fold (α:=STen) (l:=s) (k:=v) (i:=I) [0,2,2,0,0] rfl h1n hz2 hz3 (Nat.le_of_eq q5.symm) q6) (fun _=>?_)
    exact TE.leaf fun _ _ hf_ hs_=>zS (rs:=[.tmp 6]) (vs:=[.slice (some ⟨g,0,none⟩) (s.length+v.length) gc]) (.inl rfl) rfl ⟨rfl,trivial⟩ hf_ hs_ ⟨(.slice (some ⟨g,0,none⟩) (s.length+v.length) gc),rfl,hs_.pulls [0] rfl⟩
   ·refine TW.cond_f rfl (by rw[e1];exact decide_eq_false (by omega)) ?_
    refine TW.skip ?_
    refine TE.next ?_
    refine TW.seq ?_
    refine TW.region ?_
    refine TO.y (Y.move rfl) rfl rfl rfl ?_
    refine TO.y (Y.move rfl) rfl rfl rfl ?_
    refine TO.y (Y.move rfl) rfl rfl rfl ?_
    refine TO.y (Y.add rfl rfl) rfl rfl rfl ?_
    refine TO.y (Y.toRaw (hi:=s.length+v.length) ke36 (by omega) e1 rfl rfl) rfl rfl rfl ?_
    refine TO.y (Y.assign rfl) rfl rfl rfl ?_
    refine TO.nil ?_
    refine TE.next ?_
    obtain ⟨q1,q2,q3,q4,q5⟩:=insB h1n (by omega) hc3 hl1 hl2
    have m1:0+I*7+v.length*7≤cap*7:=by omega
    have m2:0+(I+v.length)*7+(s.length - I)*7≤cap*7:=by omega
    have m3:0+v.length*7≤cap2*7:=by omega
    have m4:0+I*7+(s.length - I)*7≤cap*7:=by omega
    have hne:cur≠[]:=by intro e;rw[e]at hl1;simp at hl1;omega
    refine TW.seq ?_
    refine TW.seq ?_
    refine TW.region ?_
    refine TO.y (Y.move rfl) rfl rfl rfl ?_
    refine TO.y (Y.move rfl) rfl rfl rfl ?_
    refine TO.y (Y.move rfl) rfl rfl rfl ?_
    refine TO.y (Y.move rfl) rfl rfl rfl ?_
    refine TO.y (Y.add rfl rfl) rfl rfl rfl ?_
    refine TO.y (Y.fromRaw (lo:=I+v.length) ke36 (by omega) (by omega) (wr2 I v.length (by omega)) rfl rfl) rfl rfl rfl ?_
    refine TO.ef (Ef.overlaps (tr:=4) 1 0 Tryz.func84 (by kernel_rfl) (by kernel_rfl) (by kernel_rfl) (by kernel_rfl) ke36 rfl rfl (Ne.symm hbb) rfl rfl hne) rfl rfl rfl (fun _=>?_)
    refine TO.y (Y.not rfl) rfl rfl rfl ?_
    refine TO.nil ?_
    refine TE.next ?_
    refine TW.cond_true rfl ?_
    refine TW.seq ?_
    refine TW.draw (isH:=[]) hMix ?_
    refine TA.y 0 [] rfl (Y.move rfl) rfl rfl rfl (by kernel_rfl) rfl ?_
    refine TA.y 1 [] rfl (Y.move rfl) rfl rfl rfl (by kernel_rfl) rfl ?_
    refine TA.y 2 [] rfl (Y.move rfl) rfl rfl rfl (by kernel_rfl) rfl ?_
    refine TA.y 3 [] rfl (Y.add rfl rfl) rfl rfl rfl (by kernel_rfl) rfl ?_
    refine TA.y 4 [] rfl (Y.fromRaw (lo:=I+v.length) ke36 (by omega) (by omega) (wr2 I v.length (by omega)) rfl rfl) rfl rfl rfl (by kernel_rfl) rfl ?_
    refine TA.y 5 [] rfl (Y.move rfl) rfl rfl rfl (by kernel_rfl) rfl ?_
    refine TA.y 6 [] rfl (Y.move rfl) rfl rfl rfl (by kernel_rfl) rfl ?_
    refine TA.y 7 [] rfl (Y.fromRaw (lo:=I) ke36 (by omega) (by omega) rfl rfl rfl) rfl rfl rfl (by kernel_rfl) rfl ?_
    refine TA.one 8 (by kernel_rfl) ?_
    refine TX.ef [] rfl (Ef.rawCopy (sl:=s.length - I) 0 0 ke36 rfl rfl rfl rfl (by omega) (Nat.le_trans m2 hl1) (Nat.le_trans m4 hl1) (zdA ho1 h1n) rfl) rfl rfl rfl (fun _=>rfl) (fun _=>?_)
    refine TA.nil (by kernel_rfl) ?_
    refine TE.next ?_
    refine TW.seq ?_
    refine TW.region ?_
    refine TO.y (Y.move rfl) rfl rfl rfl ?_
    refine TO.y (Y.move rfl) rfl rfl rfl ?_
    refine TO.y (Y.fromRaw (lo:=I) ke36 (by omega) (by omega) rfl rfl rfl) rfl rfl rfl ?_
    refine TO.y (Y.move rfl) rfl rfl rfl ?_
    refine TO.ef (Ef.rawCopy (sl:=v.length) 0 1 ke36 rfl rfl rfl rfl (by omega) (by rw[q3];exact Nat.le_trans m1 hl1) (Nat.le_trans m3 hl2) (by rw[List.drop_zero];exact ho2) rfl) rfl rfl rfl (fun _=>?_)
    refine TO.nil ?_
    refine TE.next ?_
    refine TW.seq ?_
    refine TW.region ?_
    refine TO.y (Y.move rfl) rfl rfl rfl ?_
    refine TO.y (Y.assign rfl) rfl rfl rfl ?_
    refine TO.nil ?_
    refine TE.next ?_
    refine TW.ret ?_
    refine TE.then_ret ?_
    refine TE.ghost (Gh.fold (α:=STen) (l:=s) (k:=v) (i:=I) [0,1,1,0] rfl h1n (by omega) hc2 (by rw[q4];exact hl1) q5) (fun _=>?_)
    exact TE.leaf fun _ _ hf_ hs_=>zS (rs:=[.tmp 6]) (vs:=[.slice (some ⟨b,0,none⟩) (s.length+v.length) cap]) (.inl rfl) rfl ⟨rfl,trivial⟩ hf_ hs_ ⟨(.slice (some ⟨b,0,none⟩) (s.length+v.length) cap),rfl,hs_.pulls [0] rfl⟩
theorem zfR {s:List STen} {i:Int} {v:List STen} {V_s0 V_v0:Value} :Cn Tryz.prog 49 [V_s0,iv i,V_v0] [.own V_s0 (lc s),.own V_v0 (lc v)] [] (zb0 s i v) (fun _ (X:Value)=>X) fun r X=>[.own X (lc r)]:=⟨by kernel_rfl,fun _ h=>zhT s i v _ _ _ h⟩
noncomputable def zeM (n:Int):Option (List UInt8):=
 (zB n 0 562949953421311).bind fun R1=>
 if !R1 then (some ([]))
 else (bindC (loopO (fun (S5:Int × List UInt8)=>if decide (S5.1>127) then ((app 1 S5.2 ([toU8 (ior .i64 (128:Int) (iand .i64 S5.1 127))])).bind fun E12=>
 some (.go (ishr .i64 S5.1 7,E12)))
 else (some (.done (.go (S5.1,S5.2)))))
 (n,([]:List UInt8)))
 (fun (T7:Int × List UInt8)=>(app 1 T7.2 ([toU8 T7.1])).bind fun E16=>
 some E16))
theorem zg9 {n:Int} :Cn Tryz.prog 87 [iv n] [] [] (zeM n) (fun r (_:Unit)=>strV r) fun _ _=>[]:=by
 unfold zeM
 refine Ci Tryz.func87 r r ?_
 rintro w S -
 refine Sr<|Qs 1 r<|Nx<|Sq<|Sr<|Qs 1 r<|Bi fun R1 H2=>Fo (Cl [] zF H2 r r1) fun _=>Qs 1 r<|Nx<|Wc r (fun H4=>Sr<|Qs 1 r<|Nx<|Wr<|Tr<|Re () []) fun H4=>Sn<|Sr<|Qs 1 r<|Nx<|Sq<|Jn Value [] [] (fun T X=>[(0,iv T.1),(3,X)]) (fun T X=>[.own X (lc T.2)]) r2 r2 (?_) fun T7 X8=>?_
 ·refine Wb<|Nw 1<|Lp Value [] [] (fun T X=>[(0,iv T.1),(3,X)]) (fun T X=>[.own X (lc T.2)]) (.slice none 0 0) [0] r2 r2 fun S5 X6=>Sq<|Sr<|Qs 2 r<|Nx<|Wc r (fun H9=>?_) fun H9=>?_
  ·exact Sn<|Wb<|Sr<|Qs 4 r<|Yo (Y.conv8 ki3 ki5 r)<|Fo (Bs [toU8 (ior .i64 (128:Int) (iand .i64 S5.1 127))] ke22 kz5) fun B10=>Bi fun E12 H13=>Fo (Ap [1] H13 ke22 kz5 r (Oc 0 r)) fun V11=>Qs 1 r<|Nx<|Rg<|Qs 1 r<|Yo (Y.shr (by decide) r r)<|Qs 1 r<|Nl<|Bn<|Lg V11 [0]
  exact Wx<|Tx<|Ex<|Be<|Jg X6 [0]
 exact Ne<|Sr<|Qs 2 r<|Yo (Y.conv8 ki3 ki5 r)<|Fo (Bs [toU8 T7.1] ke22 kz5) fun B14=>Bi fun E16 H17=>Fo (Ap [1] H17 ke22 kz5 r (Oc 0 r)) fun V15=>Yo (Y.toStr ke22 ki5 ks9 (Oc 0 r) r)<|Qs 1 r<|Nx<|Wr<|Re () []
noncomputable def zfZ (n:Int) (width:Int):Option (List UInt8):=
 ((zB width 1 7).bind fun R3=>
 if !R3 then (some true)
 else (if decide (n<0) then (some true)
 else (some (!(decide (ishr .i64 n (IntKind.u64.wrap (IntKind.i64.wrap ((8:Int)*width)))=0)))))).bind (fun (T1:Bool)=>
 if T1=true then (some ([]))
 else ((mkLen 1 width).bind fun E10=>
 bindC (loopO (fun (S12:Int × Int × List UInt8)=>if decide (S12.2.1≥0) then ((idx S12.2.2 S12.2.1).bind fun E17=>
 some (.go (ishr .i64 S12.1 8,IntKind.i64.wrap (S12.2.1 - 1),(S12.2.2.set S12.2.1.toNat (toU8 S12.1)))))
 else (some (.done (.go S12.2.2))))
 (n,IntKind.i64.wrap (width - 1),(List.replicate E10 (0:UInt8))))
 (fun (T14:List UInt8)=>some T14)))
theorem zhw {n:Int} {width:Int} :Cn Tryz.prog 128 [iv n,iv width] [] [] (zfZ n width) (fun r (_:Unit)=>strV r) fun _ _=>[]:=by
 unfold zfZ
 refine Ci Tryz.func128 r r ?_
 rintro w S -
 refine Sr<|Qs 1 r<|Nx<|Sq<|Sq<|Jv [0,1] (fun T=>[(21,.bool T)]) r1 (?_) fun T1=>?_
 ·exact Rg<|Qs 1 r<|Bi fun R3 H4=>Fo (Cl [] zF H4 r r1) fun _=>Qs 2 r<|It (fun H6=>Of 2 (zl H6) r r<|Yo (Pt H6 r)<|Qs 1 r<|Of 6 r r r<|Yo (Pt r r)<|Nl<|Bg () []) fun H6=>Qg 2 (za H6) r r<|Yo (Pf H6 r)<|Qs 1 r<|It (fun H7=>Of 6 (zl H7) r r<|Yo (Pt H7 r)<|Nl<|Bg () []) fun H7=>Qg 3 (za H7) r r<|Yg (gdA (za H7)) (Y.conv ki3 ki79 r)<|Yg (gdA (za H7)) (Y.shr (zfD r _) r r)<|Qg 1 (za H7) r r<|Yo (Pf H7 r)<|Nl<|Bg () []
 refine Ne<|Wc r (fun H8=>Sr<|Qs 1 r<|Nx<|Wr<|Tr<|Re () []) fun H8=>Sn<|Sr<|Qs 1 r<|Bi fun E10 H11=>Fo (Mk (0:UInt8) H11 ke22 kz5) fun V9=>Qs 1 r<|Nx<|Sq<|Sr<|Qs 3 r<|Nx<|Jn Unit [5] [] (fun _ _=>[]) (fun T _=>[.own V9 (lc T)]) r2 r2 (?_) fun T14 X15=>?_
 ·exact Wb<|Lp Unit [5] [] (fun T _=>[(0,iv T.1),(6,iv T.2.1)]) (fun T _=>[.own V9 (lc T.2.2)]) () [0] r2 r2 fun S12 X13=>Sq<|Sr<|Qs 2 r<|Nx<|Wc r (fun H16=>Sn<|Sq<|Wb<|Sr<|Qs 3 r<|Yo (Y.conv8 ki3 ki5 r)<|Bi fun E17 H18=>Yo (Ix ke22 (Oc 0 r) H18 r)<|Fu (Se (toU8 S12.1) 0 kk5 H18 r (Cp r) r)<|Nx<|Rg<|Qs 1 r<|Yo (Y.shr (by decide) r r)<|Qs 1 r<|Nl<|Bn<|Ne<|Rg<|Qs 3 r<|Nl<|Lg () [0]) fun H16=>Wx<|Tx<|Ex<|Be<|Jg () [0]
 exact Ne<|Sr<|Qs 1 r<|Yo (Y.toStr ke22 ki5 ks9 (Oc 0 r) r)<|Qs 1 r<|Nx<|Wr<|Re () []
noncomputable def zdW (kind:Int) (n:Int):Option (List UInt8):=
 ((zB kind 0 255).bind fun R3=>
 if !R3 then (some true)
 else ((zB n 0 562949953421311).bind fun R7=>
 some (!R7))).bind (fun (T1:Bool)=>
 if T1=true then (some ([]))
 else ((zfZ n 7).bind fun R12=>
 (cat ([toU8 kind,(0:UInt8),(0:UInt8),(0:UInt8),(0:UInt8)]) R12).bind fun E17=>
 some E17))
theorem ziu {kind:Int} {n:Int} :Cn Tryz.prog 89 [iv kind,iv n] [] [] (zdW kind n) (fun r (_:Unit)=>strV r) fun _ _=>[]:=by
 unfold zdW
 refine Ci Tryz.func89 r r ?_
 rintro w S -
 refine Sr<|Qs 1 r<|Nx<|Sq<|Sq<|Jv [0,1] (fun T=>[(12,.bool T)]) r1 (?_) fun T1=>?_
 ·exact Rg<|Qs 1 r<|Bi fun R3 H4=>Fo (Cl [] zF H4 r r1) fun _=>Qs 2 r<|It (fun H6=>Of 3 (zl H6) r r<|Yo (Pt H6 r)<|Nl<|Bg () []) fun H6=>Qg 1 (za H6) r r<|Bi fun R7 H8=>Fg (gdA (za H6)) (Cl [] zF H8 r r1) fun _=>Qg 1 (za H6) r r<|Yo (Pf H6 r)<|Nl<|Bg () []
 refine Ne<|Wc r (fun H10=>Sr<|Qs 1 r<|Nx<|Wr<|Tr<|Re () []) fun H10=>Sn<|Sq<|Wi fun R12 H13=>Wi fun E17 H18=>Jw Unit [] [] (fun _=>[(4,strV E17)]) (fun _=>[]) r1 r1 (?_) fun X20=>?_
 ·refine Dr [] r hMix<|Aq [0] [] r<|Ay 1 [] r (Y.conv8 ki3 ki5 r)<|Aq [4] [] r<|A2 2 5 (?_)<|?_
  ·exact Xe [] r (Bs [toU8 kind,(0:UInt8),(0:UInt8),(0:UInt8),(0:UInt8)] ke22 kz5) fun B21=>A2 3 5 (Xy [] r (Y.toStr ke22 ki5 ks9 (Oc 0 r) r)<|A1 5<|Xe [] r (Cl [] zhw H13 r r1) fun _=>Ay 6 [] r (Y.cat H18 r r)<|Aq [7] [] r<|Az<|Bg () [])<|Xe [] r (Cl [] zhw H13 r r1) fun _=>A1 3<|Xy [] r (Y.toStr ke22 ki5 ks9 (Oc 0 r) r)<|Ay 6 [] r (Y.cat H18 r r)<|Aq [7] [] r<|Az<|Bg () []
  exact Xe [] r (Cl [] zhw H13 r r1) fun _=>A1 2<|Xe [] r (Bs [toU8 kind,(0:UInt8),(0:UInt8),(0:UInt8),(0:UInt8)] ke22 kz5) fun B23=>A1 3<|Xy [] r (Y.toStr ke22 ki5 ks9 (Oc 0 r) r)<|Ay 6 [] r (Y.cat H18 r r)<|Aq [7] [] r<|Az<|Bg () []
 exact Ne<|Wr<|Re () []
noncomputable def zfc (key:List UInt8) (counter:Int) (nonce:List UInt8):Option Bool:=
 (if decide ((key.length:Int)=32) then ((zB counter 0 4294967295).bind fun R4=>
 if R4=true then (some (decide ((nonce.length:Int)=12)))
 else (some false))
 else (some false)).bind (fun (T1:Bool)=>
 some T1)
theorem zj2 {key:List UInt8} {counter:Int} {nonce:List UInt8} :Cn Tryz.prog 125 [strV key,iv counter,strV nonce] [] [] (zfc key counter nonce) (fun r (_:Unit)=>.bool r) fun _ _=>[]:=by
 unfold zfc
 refine Ci Tryz.func125 r r ?_
 rintro w S -
 refine Sr<|Qs 1 r<|Nx<|Sq<|Jv [] (fun T=>[(6,.bool T)]) r1 (?_) fun T1=>?_
 ·refine Rg<|Qs 1 r<|Yo (Y.slen ks9 r)<|Qs 2 r<|It (fun H3=>?_) fun H3=>?_
  ·exact Qg 1 (zd H3) r r<|Bi fun R4 H5=>Fg (gdA (zd H3)) (Cl [] zF H5 r r1) fun _=>Yo (Pt H3 r)<|Qs 1 r<|It (fun H7=>Qg 1 (zd H7) r r<|Yg (gdA (zd H7)) (Y.slen ks9 r)<|Qg 1 (zd H7) r r<|Yo (Pt H7 r)<|Qs 1 r<|Nl<|Bg () []) fun H7=>Of 3 (zt H7) r r<|Yo (Pf H7 r)<|Qs 1 r<|Nl<|Bg () []
  exact Of 2 (zt H3) r r<|Yo (Pf H3 r)<|Qs 1 r<|Of 3 r r r<|Yo (Pf r r)<|Qs 1 r<|Nl<|Bg () []
 exact Ne<|Wr<|Re () []
noncomputable def zc2 (s:List UInt8) (at_:Int):Option Int:=
 (sidx s at_).bind fun E1=>
 (sidx s (IntKind.i64.wrap (at_+1))).bind fun E3=>
 (sidx s (IntKind.i64.wrap (at_+2))).bind fun E5=>
 (sidx s (IntKind.i64.wrap (at_+3))).bind fun E7=>
 some (ior .u32 (ior .u32 (ior .u32 (IntKind.u32.wrap (E1.toNat:Int)) (ishl .u32 (IntKind.u32.wrap (E3.toNat:Int)) 8)) (ishl .u32 (IntKind.u32.wrap (E5.toNat:Int)) 16)) (ishl .u32 (IntKind.u32.wrap (E7.toNat:Int)) 24))
theorem zjx {s:List UInt8} {at_:Int} :Cn Tryz.prog 160 [strV s,iv at_] [] [] (zc2 s at_) (fun r (_:Unit)=>.int .u32 r) fun _ _=>[]:=by
 unfold zc2
 refine Ci Tryz.func160 r r ?_
 rintro w S -
 exact Sr<|Qs 1 r<|Nx<|Sq<|Dr [] r hMix<|Aq [0,1] [] r<|Ai fun E1 H2=>Ay 2 [] r (Y.sidx H2 ks9 r r)<|Ay 3 [] r (Y.conv ki5 ki170 r)<|Aq [4,5,6] [] r<|Ai fun E3 H4=>Ay 7 [] r (Y.sidx H4 ks9 r r)<|Ay 8 [] r (Y.conv ki5 ki170 r)<|Ay 9 [] r (Y.shl (by decide) r r)<|Aq [10,11,12,13] [] r<|Ai fun E5 H6=>Ay 14 [] r (Y.sidx H6 ks9 r r)<|Ay 15 [] r (Y.conv ki5 ki170 r)<|Ay 16 [] r (Y.shl (by decide) r r)<|Aq [17,18,19,20] [] r<|Ai fun E7 H8=>Ay 21 [] r (Y.sidx H8 ks9 r r)<|Ay 22 [] r (Y.conv ki5 ki170 r)<|Ay 23 [] r (Y.shl (by decide) r r)<|Aq [24,25] [] r<|Az<|Ne<|Wr<|Re () []
noncomputable def zdH (key:List UInt8) (counter:Int) (nonce:List UInt8):Option (List Wrd):=
 (lenIs 16 ([(Wrd.mk 1634760805),(Wrd.mk 857760878),(Wrd.mk 2036477234),(Wrd.mk 1797285236),(Wrd.mk 0),(Wrd.mk 0),(Wrd.mk 0),(Wrd.mk 0),(Wrd.mk 0),(Wrd.mk 0),(Wrd.mk 0),(Wrd.mk 0),(Wrd.mk 0),(Wrd.mk 0),(Wrd.mk 0),(Wrd.mk 0)])).bind fun E3=>
 bindC (loopO (fun (S5:Int × List Wrd)=>if decide (S5.1<8) then ((zc2 key (IntKind.i64.wrap ((4:Int)*S5.1))).bind fun R10=>
 (idx S5.2 (IntKind.i64.wrap ((4:Int)+S5.1))).bind fun E13=>
 some (.go (IntKind.i64.wrap (S5.1+1),(S5.2.set ((IntKind.i64.wrap ((4:Int)+S5.1)).toNat) (Wrd.mk R10)))))
 else (some (.done (.go S5.2))))
 ((0:Int),([(Wrd.mk 1634760805),(Wrd.mk 857760878),(Wrd.mk 2036477234),(Wrd.mk 1797285236),(Wrd.mk 0),(Wrd.mk 0),(Wrd.mk 0),(Wrd.mk 0),(Wrd.mk 0),(Wrd.mk 0),(Wrd.mk 0),(Wrd.mk 0),(Wrd.mk 0),(Wrd.mk 0),(Wrd.mk 0),(Wrd.mk 0)])))
 (fun (T7:List Wrd)=>(idx T7 12).bind fun E15=>
 bindC (loopO (fun (S17:Int × List Wrd)=>if decide (S17.1<3) then ((zc2 nonce (IntKind.i64.wrap ((4:Int)*S17.1))).bind fun R22=>
 (idx S17.2 (IntKind.i64.wrap ((13:Int)+S17.1))).bind fun E25=>
 some (.go (IntKind.i64.wrap (S17.1+1),(S17.2.set ((IntKind.i64.wrap ((13:Int)+S17.1)).toNat) (Wrd.mk R22)))))
 else (some (.done (.go S17.2))))
 ((0:Int),(T7.set ((12:Int).toNat) (Wrd.mk (IntKind.u32.wrap counter)))))
 (fun (T19:List Wrd)=>(lenIs 16 T19).bind fun E27=>
 some T19))
theorem zkQ {key:List UInt8} {counter:Int} {nonce:List UInt8} :Cn Tryz.prog 126 [strV key,iv counter,strV nonce] [] [] (zdH key counter nonce) (fun r (_:Unit)=>arrV r) fun _ _=>[]:=by
 unfold zdH
 refine Ci Tryz.func126 r r ?_
 rintro w S -
 refine Sr<|Fo (Ef.allocArr (α:=Wrd) (List.replicate 16 (Wrd.mk 0)) kz171 r (by decide)) fun B1=>Nx<|Sr<|Yo (Y.build_arr (cells:=[.int .u32 (1634760805:Int),.int .u32 (857760878:Int),.int .u32 (2036477234:Int),.int .u32 (1797285236:Int),.int .u32 (0:Int),.int .u32 (0:Int),.int .u32 (0:Int),.int .u32 (0:Int),.int .u32 (0:Int),.int .u32 (0:Int),.int .u32 (0:Int),.int .u32 (0:Int),.int .u32 (0:Int),.int .u32 (0:Int),.int .u32 (0:Int),.int .u32 (0:Int)]) (v:=arrV ([(Wrd.mk 1634760805),(Wrd.mk 857760878),(Wrd.mk 2036477234),(Wrd.mk 1797285236),(Wrd.mk 0),(Wrd.mk 0),(Wrd.mk 0),(Wrd.mk 0),(Wrd.mk 0),(Wrd.mk 0),(Wrd.mk 0),(Wrd.mk 0),(Wrd.mk 0),(Wrd.mk 0),(Wrd.mk 0),(Wrd.mk 0)])) [(0,[.int .u32 (1634760805:Int)]),(1,[.int .u32 (857760878:Int)]),(2,[.int .u32 (2036477234:Int)]),(3,[.int .u32 (1797285236:Int)])] ka171 kz171 ⟨r,⟨_,r,(Cp r)⟩,⟨r,⟨_,r,(Cp r)⟩,⟨r,⟨_,r,(Cp r)⟩,⟨r,⟨_,r,(Cp r)⟩,⟨⟩⟩⟩⟩⟩ r r r)<|Fo (Ef.allocArr (α:=Wrd) (List.replicate 16 (Wrd.mk 0)) kz171 r (by decide)) fun B2=>?_
 refine Bi fun E3 H4=>Fu (Ef.store_arr (α:=Wrd) (is':=[.own (arrS B2 16) (lc ([(Wrd.mk 1634760805),(Wrd.mk 857760878),(Wrd.mk 2036477234),(Wrd.mk 1797285236),(Wrd.mk 0),(Wrd.mk 0),(Wrd.mk 0),(Wrd.mk 0),(Wrd.mk 0),(Wrd.mk 0),(Wrd.mk 0),(Wrd.mk 0),(Wrd.mk 0),(Wrd.mk 0),(Wrd.mk 0),(Wrd.mk 0)])),.own (arrS B1 16) (lc (List.replicate 16 (Wrd.mk 0)))]) 0 kk171 r (by decide) (zhE H4) r r r r)<|Nx<|Sq<|Sr<|Qs 1 r<|Nx<|Jn Unit [1,2,6,7] [1] (fun _ _=>[]) (fun T _=>[.own (arrS B2 16) (lc T)]) r2 r2 (?_) fun T7 X8=>?_
 ·exact Wb<|Lp Unit [0,1,2,6,7] [1] (fun T _=>[(11,iv T.1)]) (fun T _=>[.own (arrS B2 16) (lc T.2)]) () [1,0] r2 r2 fun S5 X6=>Sr<|Qs 1 r<|Nx<|Sq<|Wc r (fun H9=>Sn<|Sq<|Wb<|Sr<|Qs 2 r<|Nx<|Rg<|Qs 5 r<|Bi fun R10 H11=>Fo (Cl [] zjx H11 r r1) fun _=>Bi fun E13 H14=>Yo (Y.index_arr (α:=Wrd) ka171 (Oc 1 r) H14 r r)<|Fu (Se (Wrd.mk R10) 1 kk170 H14 r (Cp r) r)<|Nl<|Bn<|Ne<|Rg<|Qs 2 r<|Nl<|Lg () [0,0]) fun H9=>Wx<|Tx<|Ex<|Be<|Jg () [0,0]
 refine Ne<|Sr<|Qs 1 r<|Yo (Y.conv ki3 ki170 r)<|Bi fun E15 H16=>Yo (Y.index_arr (α:=Wrd) ka171 (Oc 1 r) H16 r r)<|Fu (Se (Wrd.mk (IntKind.u32.wrap counter)) 1 kk170 H16 r (Cp r) r)<|Nx<|Sq<|Sr<|Qs 1 r<|Nx<|Jn Unit [6,7] [0] (fun _ _=>[]) (fun T _=>[.own (arrS B2 16) (lc T)]) r2 r2 (?_) fun T19 X20=>?_
 ·exact Wb<|Lp Unit [2,6,7] [0] (fun T _=>[(25,iv T.1)]) (fun T _=>[.own (arrS B2 16) (lc T.2)]) () [0,0] r2 r2 fun S17 X18=>Sr<|Qs 1 r<|Nx<|Sq<|Wc r (fun H21=>Sn<|Sq<|Wb<|Sr<|Qs 2 r<|Nx<|Rg<|Qs 5 r<|Bi fun R22 H23=>Fo (Cl [] zjx H23 r r1) fun _=>Bi fun E25 H26=>Yo (Y.index_arr (α:=Wrd) ka171 (Oc 1 r) H26 r r)<|Fu (Se (Wrd.mk R22) 1 kk170 H26 r (Cp r) r)<|Nl<|Bn<|Ne<|Rg<|Qs 2 r<|Nl<|Lg () [0,0]) fun H21=>Wx<|Tx<|Ex<|Be<|Jg () [0,0]
 exact Ne<|Sr<|Yo (Y.load_arr (α:=Wrd) kk171 r (by decide) (Oc 1 r) r)<|Bi fun E27 H28=>Fu (Ef.store_arr (α:=Wrd) (is':=[.own (arrS B1 16) (lc T19),.own (arrS B2 16) (lc T19)]) 0 kk171 r (by decide) (zhE H28) r r r r)<|Nx<|Wr<|Rf () [] (RV.cell_arr (α:=Wrd) (i:=0) r r kk171 r (by decide) Rz)
noncomputable def zT (x:Int) (k:Int):Option Int:=
 (nn (iand .u64 (IntKind.u64.wrap k) (31:Int))).bind fun E1=>
 some (ior .u32 (ishl .u32 x (iand .u64 (IntKind.u64.wrap k) (31:Int))) (ishr .u32 x (IntKind.u64.wrap ((32:Int) - (iand .u64 (IntKind.u64.wrap k) (31:Int))))))
theorem zh {x:Int} {k:Int} :Cn Tryz.prog 161 [.int .u32 x,iv k] [] [] (zT x k) (fun r (_:Unit)=>.int .u32 r) fun _ _=>[]:=by
 unfold zT
 refine Ci Tryz.func161 r r ?_
 rintro w S -
 exact Sr<|Qs 1 r<|Nx<|Sr<|Qs 1 r<|Yo (Y.conv ki3 ki79 r)<|Qs 2 r<|Nx<|Sr<|Qs 2 r<|Bi fun E1 H2=>Yo (Y.shl (nn_ge H2) r r)<|Qs 3 r<|Yo (Y.shr (zfD r _) r r)<|Qs 2 r<|Nx<|Wr<|Re () []
end Go.Proofs.YtfgjhefhlabpkaaGreat
