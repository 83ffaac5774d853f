/-
  The functions that a law reaches, each as a pure function, with the proof that the program computes it, and the step from a pure law to the given statement. Conditions: none.
-/
import Derived.Test.YthhmnikdlakffaaGreatQ3
set_option linter.unusedVariables false
set_option maxRecDepth 100000
set_option maxHeartbeats 4000000
namespace Go.Proofs.YthhmnikdlakffaaGreat
open Go Sl

/-- loop.example/g00950/spec.DrawEngTidy -/
noncomputable def spec_DrawEngTidy (code : List UInt8) : Option Eng :=
  (spec_l1New code).bind fun R2 =>
  (spec_l1Size code (24 : Int)).bind fun R5 =>
  (spec_l20Some ({ b := code, i := R2.i, h := R2.h : L1Cur }) R5).bind fun R8 =>
  (spec_l1Below ({ b := code, i := R8.2.i, h := R8.2.h : L1Cur }) (9 : Int)).bind fun R12 =>
  bindC (loopO (fun (S15 : Int × Int × Int × Int × List Ent × List (List Ent) × List Int) => if (decide (S15.2.2.2.1 > (0 : Int))) = true then ((spec_l1Text ({ b := code, i := S15.1, h := S15.2.1 : L1Cur }) (2 : Int)).bind fun R20 =>
  (cat ([97]) R20.1).bind fun E24 =>
  (spec_l1Text ({ b := code, i := R20.2.i, h := R20.2.h : L1Cur }) (2 : Int)).bind fun R26 =>
  (cat ([98]) R26.1).bind fun E30 =>
  (spec_l1Text ({ b := code, i := R26.2.i, h := R26.2.h : L1Cur }) (2 : Int)).bind fun R32 =>
  (cat ([99]) R32.1).bind fun E36 =>
  (spec_EngPut ({ Mem := S15.2.2.2.2.1, Tables := S15.2.2.2.2.2.1, Seq := S15.2.2.1, Snaps := S15.2.2.2.2.2.2 : Eng }) ([{ Key := E24, Del := false, Val := [] : Op }, { Key := E30, Del := false, Val := [] : Op }, { Key := E36, Del := false, Val := [] : Op }])).bind fun R40 =>
  (spec_l1Text ({ b := code, i := R32.2.i, h := R32.2.h : L1Cur }) (2 : Int)).bind fun R49 =>
  (cat ([100]) R49.1).bind fun E53 =>
  (spec_l1Text ({ b := code, i := R49.2.i, h := R49.2.h : L1Cur }) (2 : Int)).bind fun R55 =>
  (cat ([101]) R55.1).bind fun E59 =>
  (spec_l1Text ({ b := code, i := R55.2.i, h := R55.2.h : L1Cur }) (2 : Int)).bind fun R61 =>
  (cat ([102]) R61.1).bind fun E65 =>
  (spec_EngPut R40.1 ([{ Key := E53, Del := false, Val := [] : Op }, { Key := E59, Del := false, Val := [] : Op }, { Key := E65, Del := false, Val := [] : Op }])).bind fun R69 =>
  (spec_l1Once ({ b := code, i := R61.2.i, h := R61.2.h : L1Cur }) (3 : Int)).bind fun R78 =>
  bindC (if R78.1 = true then ((spec_EngFlush R69.1).bind fun R84 =>
  some (.go (R84.1.Seq, R84.1.Mem, R84.1.Tables, R84.1.Snaps)))
  else (some (.go (R69.1.Seq, R69.1.Mem, R69.1.Tables, R69.1.Snaps))))
  (fun (T81 : Int × List Ent × List (List Ent) × List Int) => some (.go (R78.2.i, R78.2.h, T81.1, IntKind.i64.wrap (S15.2.2.2.1 - (1 : Int)), T81.2.1, T81.2.2.1, T81.2.2.2))))
  else (some (.done (.go (S15.2.2.1, S15.2.2.2.2.1, S15.2.2.2.2.2.1, S15.2.2.2.2.2.2)))))
  (R12.2.i, R12.2.h, R8.1.Seq, R12.1, R8.1.Mem, R8.1.Tables, R8.1.Snaps))
  (fun (T17 : Int × List Ent × List (List Ent) × List Int) => some ({ Mem := T17.2.1, Tables := T17.2.2.1, Seq := T17.1, Snaps := T17.2.2.2 : Eng }))

theorem spec_DrawEngTidy_c {code : List UInt8} {U0 : Value} : Cn Tryz.prog 24 [U0] [] [(U0, lc code)] (spec_DrawEngTidy code) (fun r (X : Value × Value × Value) => .agg #[X.1, X.2.1, iv r.Seq, X.2.2]) fun r X => [.own X.1 (lc r.Mem), .own X.2.1 (lc r.Tables), .own X.2.2 (lc r.Snaps)] := by
  unfold spec_DrawEngTidy
  refine Ci Tryz.func24 r r ?_
  rintro w S ⟨Z0,-⟩
  refine Sr<|Fo (Al kz28 r) fun B1=>Nx<|Sr<|Qs 1 r<|Bi fun R2 H3=>Fo (Cl [] spec_l1New_c H3 r r1 ⟨(Bc Z0),⟨⟩⟩) fun Y4=>Qs 1 r<|Nx<|Sr<|Qs 2 r<|Bi fun R5 H6=>Fo (Cl [] spec_l1Size_c H6 r r1 ⟨(Bc Z0),⟨⟩⟩) fun _=>Bi fun R8 H9=>Fo (Cl [0] spec_l20Some_c H9 r r1 ⟨(Bc Z0),⟨⟩⟩) fun Y10=>Fo (Al kz28 r) fun B11=>Fu (Sb 0 kk28 r (Ca ⟨Ow' 2,Ow' 3,Op',Ow' 4,⟨⟩⟩) r)<|Nx<|Sq<|Sr<|Qs 1 r<|Bi fun R12 H13=>Fo (Cl [1] spec_l1Below_c H13 r r1 ⟨(Bc Z0),⟨⟩⟩) fun _=>Qs 1 r<|Nx<|Jn (Value × Value × Value) [2,4] [5] (fun _ _=>[]) (fun T X=>[.box B11 28 [X.1, X.2.1, iv T.1, X.2.2], .own X.1 (lc T.2.1), .own X.2.1 (lc T.2.2.1), .own X.2.2 (lc T.2.2.2)]) r2 r2 (?_) fun T17 X18=>?_
  ·refine Wb<|Lp (Value × Value × Value) [2,3,4] [5] (fun T _=>[(5, iv T.2.2.2.1)]) (fun T X=>[.box Y4 93 [U0, iv T.1, iv T.2.1], .box B11 28 [X.1, X.2.1, iv T.2.2.1, X.2.2], .own X.1 (lc T.2.2.2.2.1), .own X.2.1 (lc T.2.2.2.2.2.1), .own X.2.2 (lc T.2.2.2.2.2.2)]) (Y10.1, Y10.2.1, Y10.2.2) [5,0,0,0,0,0] r2 r2 fun S15 X16=>Sq<|Sr<|Qs 2 r<|Nx<|Wc r (fun H19=>?_) fun H19=>?_
   ·refine Sn<|Sq<|Wb<|Sq<|Wi fun R20 H21=>Wi fun E24 H25=>Wi fun R26 H27=>Wi fun E30 H31=>Wi fun R32 H33=>Wi fun E36 H37=>Wi fun R40 H41=>Jw (Nat × Value × Value × Value) [2,3,4,5] [0,1,1,1,1] (fun X=>[(6, pt X.1)]) (fun X=>[.box Y4 93 [U0, iv R32.2.i, iv R32.2.h], .box X.1 28 [X.2.1, X.2.2.1, iv R40.1.Seq, X.2.2.2], .own X.2.1 (lc R40.1.Mem), .own X.2.2.1 (lc R40.1.Tables), .own X.2.2.2 (lc R40.1.Snaps)]) r1 r1 (?_) fun X46=>?_
    ·refine Dr [0,1,1,1,1] r hMix<|Ay 0 [0,1,1,1,1] r (Lb 1 kk28 r)<|Aq [1,5,9] [0,1,1,1,1] r<|A2 2 18 (?_)<|?_
     ·refine Xe [1,1,1,1,1] r (Cl [1] spec_l1Text_c H21 r r1 ⟨(Bc Z0),⟨⟩⟩) fun _=>Ay 3 [1,1,1,1,1] r (Y.cat H25 r r)<|Ay 4 [1,1,1,1,1] r (Bd kp66 kz66 (Pc r (Cp r)<|Pz) r)<|A2 6 18 (?_)<|?_
      ·refine Xe [1,1,1,1,1] r (Cl [0] spec_l1Text_c H27 r r1 ⟨(Bc Z0),⟨⟩⟩) fun _=>Ay 7 [1,1,1,1,1] r (Y.cat H31 r r)<|Ay 8 [1,1,1,1,1] r (Bd kp66 kz66 (Pc r (Cp r)<|Pz) r)<|A2 10 18 (?_)<|?_
       ·refine Xe [1,1,1,1,1] r (Cl [0] spec_l1Text_c H33 r r1 ⟨(Bc Z0),⟨⟩⟩) fun _=>Ay 11 [1,1,1,1,1] r (Y.cat H37 r r)<|Ay 12 [1,1,1,1,1] r (Bd kp66 kz66 (Pc r (Cp r)<|Pz) r)<|A2 13 18 (?_)<|?_
        ·refine Xe [2,2,2,2,2] r (Bs [{ Key := E24, Del := false, Val := [] : Op }, { Key := E30, Del := false, Val := [] : Op }, { Key := E36, Del := false, Val := [] : Op }] ke36 kz66) fun B53=>A2 14 18 (?_)<|?_
         ·exact Xe [5,5,5,5,5] r (Cl [] spec_EngPut_c H41 r r1 ⟨(Oc 4 r),(Oc 5 r),(Oc 6 r),(Oc 0 r),⟨⟩⟩) fun Y55=>Aq [15,16,17] [5,5,5,5,5] r<|A1 18<|Xe [6,6,6,6,6] r (Al kz28 r) fun B57=>A1 19<|Xu [6,6,6,6,6] r (Sb 0 kk28 r (Ca ⟨Ow' 1,Ow' 2,Op',Ow' 3,⟨⟩⟩) r)<|Aq [20] [6,6,6,6,6] r<|Az<|Bg (B57, Y55.1, Y55.2.1, Y55.2.2) [6,6,6,6,6,5,0,0,0,0]
         exact Xe [3,3,3,3,3] r (Al kz28 r) fun B56=>A1 14<|Xe [6,6,6,6,6] r (Cl [] spec_EngPut_c H41 r r1 ⟨(Oc 5 r),(Oc 6 r),(Oc 7 r),(Oc 1 r),⟨⟩⟩) fun Y57=>Aq [15,16,17] [6,6,6,6,6] r<|A1 19<|Xu [6,6,6,6,6] r (Sb 3 kk28 r (Ca ⟨Ow' 0,Ow' 1,Op',Ow' 2,⟨⟩⟩) r)<|Aq [20] [6,6,6,6,6] r<|Az<|Bg (B56, Y57.1, Y57.2.1, Y57.2.2) [6,6,6,6,6,5,3,0,0,0]
        exact Xe [2,2,2,2,2] r (Al kz28 r) fun B54=>A1 13<|Xe [3,3,3,3,3] r (Bs [{ Key := E24, Del := false, Val := [] : Op }, { Key := E30, Del := false, Val := [] : Op }, { Key := E36, Del := false, Val := [] : Op }] ke36 kz66) fun B55=>A1 14<|Xe [6,6,6,6,6] r (Cl [] spec_EngPut_c H41 r r1 ⟨(Oc 5 r),(Oc 6 r),(Oc 7 r),(Oc 0 r),⟨⟩⟩) fun Y56=>Aq [15,16,17] [6,6,6,6,6] r<|A1 19<|Xu [6,6,6,6,6] r (Sb 4 kk28 r (Ca ⟨Ow' 0,Ow' 1,Op',Ow' 2,⟨⟩⟩) r)<|Aq [20] [6,6,6,6,6] r<|Az<|Bg (B54, Y56.1, Y56.2.1, Y56.2.2) [6,6,6,6,6,5,4,0,0,0]
       exact Xe [2,2,2,2,2] r (Al kz28 r) fun B52=>A1 10<|Xe [2,2,2,2,2] r (Cl [1] spec_l1Text_c H33 r r1 ⟨(Bc Z0),⟨⟩⟩) fun _=>Ay 11 [2,2,2,2,2] r (Y.cat H37 r r)<|Ay 12 [2,2,2,2,2] r (Bd kp66 kz66 (Pc r (Cp r)<|Pz) r)<|A1 13<|Xe [3,3,3,3,3] r (Bs [{ Key := E24, Del := false, Val := [] : Op }, { Key := E30, Del := false, Val := [] : Op }, { Key := E36, Del := false, Val := [] : Op }] ke36 kz66) fun B54=>A1 14<|Xe [6,6,6,6,6] r (Cl [] spec_EngPut_c H41 r r1 ⟨(Oc 5 r),(Oc 6 r),(Oc 7 r),(Oc 0 r),⟨⟩⟩) fun Y55=>Aq [15,16,17] [6,6,6,6,6] r<|A1 19<|Xu [6,6,6,6,6] r (Sb 5 kk28 r (Ca ⟨Ow' 0,Ow' 1,Op',Ow' 2,⟨⟩⟩) r)<|Aq [20] [6,6,6,6,6] r<|Az<|Bg (B52, Y55.1, Y55.2.1, Y55.2.2) [6,6,6,6,6,4,4,0,0,0]
      refine Xe [2,2,2,2,2] r (Al kz28 r) fun B50=>A1 6<|Xe [2,2,2,2,2] r (Cl [1] spec_l1Text_c H27 r r1 ⟨(Bc Z0),⟨⟩⟩) fun _=>Ay 7 [2,2,2,2,2] r (Y.cat H31 r r)<|Ay 8 [2,2,2,2,2] r (Bd kp66 kz66 (Pc r (Cp r)<|Pz) r)<|A1 10<|Xe [2,2,2,2,2] r (Cl [0] spec_l1Text_c H33 r r1 ⟨(Bc Z0),⟨⟩⟩) fun _=>Ay 11 [2,2,2,2,2] r (Y.cat H37 r r)<|Ay 12 [2,2,2,2,2] r (Bd kp66 kz66 (Pc r (Cp r)<|Pz) r)<|A1 13<|Xe [3,3,3,3,3] r (Bs [{ Key := E24, Del := false, Val := [] : Op }, { Key := E30, Del := false, Val := [] : Op }, { Key := E36, Del := false, Val := [] : Op }] ke36 kz66) fun B53=>?_
      exact A1 14<|Xe [6,6,6,6,6] r (Cl [] spec_EngPut_c H41 r r1 ⟨(Oc 5 r),(Oc 6 r),(Oc 7 r),(Oc 0 r),⟨⟩⟩) fun Y54=>Aq [15,16,17] [6,6,6,6,6] r<|A1 19<|Xu [6,6,6,6,6] r (Sb 5 kk28 r (Ca ⟨Ow' 0,Ow' 1,Op',Ow' 2,⟨⟩⟩) r)<|Aq [20] [6,6,6,6,6] r<|Az<|Bg (B50, Y54.1, Y54.2.1, Y54.2.2) [6,6,6,6,6,4,4,0,0,0]
     refine Xe [1,2,2,2,2] r (Al kz28 r) fun B48=>A1 2<|Xe [2,2,2,2,2] r (Cl [2] spec_l1Text_c H21 r r1 ⟨(Bc Z0),⟨⟩⟩) fun _=>Ay 3 [2,2,2,2,2] r (Y.cat H25 r r)<|Ay 4 [2,2,2,2,2] r (Bd kp66 kz66 (Pc r (Cp r)<|Pz) r)<|A1 6<|Xe [2,2,2,2,2] r (Cl [0] spec_l1Text_c H27 r r1 ⟨(Bc Z0),⟨⟩⟩) fun _=>Ay 7 [2,2,2,2,2] r (Y.cat H31 r r)<|Ay 8 [2,2,2,2,2] r (Bd kp66 kz66 (Pc r (Cp r)<|Pz) r)<|A1 10<|Xe [2,2,2,2,2] r (Cl [0] spec_l1Text_c H33 r r1 ⟨(Bc Z0),⟨⟩⟩) fun _=>Ay 11 [2,2,2,2,2] r (Y.cat H37 r r)<|Ay 12 [2,2,2,2,2] r (Bd kp66 kz66 (Pc r (Cp r)<|Pz) r)<|A1 13<|Xe [3,3,3,3,3] r (Bs [{ Key := E24, Del := false, Val := [] : Op }, { Key := E30, Del := false, Val := [] : Op }, { Key := E36, Del := false, Val := [] : Op }] ke36 kz66) fun B52=>?_
     exact A1 14<|Xe [6,6,6,6,6] r (Cl [] spec_EngPut_c H41 r r1 ⟨(Oc 5 r),(Oc 6 r),(Oc 7 r),(Oc 0 r),⟨⟩⟩) fun Y53=>Aq [15,16,17] [6,6,6,6,6] r<|A1 19<|Xu [6,6,6,6,6] r (Sb 5 kk28 r (Ca ⟨Ow' 0,Ow' 1,Op',Ow' 2,⟨⟩⟩) r)<|Aq [20] [6,6,6,6,6] r<|Az<|Bg (B48, Y53.1, Y53.2.1, Y53.2.2) [6,6,6,6,6,4,4,0,0,0]
    refine Ne<|Sq<|Wi fun R49 H50=>Wi fun E53 H54=>Wi fun R55 H56=>Wi fun E59 H60=>Wi fun R61 H62=>Wi fun E65 H66=>Wi fun R69 H70=>Jw (Nat × Value × Value × Value) [2,3,4,5] [0,0,0,0,0] (fun X=>[(8, pt X.1)]) (fun X=>[.box Y4 93 [U0, iv R61.2.i, iv R61.2.h], .box X.1 28 [X.2.1, X.2.2.1, iv R69.1.Seq, X.2.2.2], .own X.2.1 (lc R69.1.Mem), .own X.2.2.1 (lc R69.1.Tables), .own X.2.2.2 (lc R69.1.Snaps)]) r1 r1 (?_) fun X75=>?_
    ·refine Dr [0,0,0,0,0,1,1,1,1] r hMix<|Ay 0 [0,0,0,0,0,1,1,1,1] r (Lb 5 kk28 r)<|Aq [1,5,9] [0,0,0,0,0,1,1,1,1] r<|A2 2 18 (?_)<|?_
     ·refine Xe [1,1,1,1,1,1,1,1,1] r (Cl [5] spec_l1Text_c H50 r r1 ⟨(Bc Z0),⟨⟩⟩) fun _=>Ay 3 [1,1,1,1,1,1,1,1,1] r (Y.cat H54 r r)<|Ay 4 [1,1,1,1,1,1,1,1,1] r (Bd kp66 kz66 (Pc r (Cp r)<|Pz) r)<|A2 6 18 (?_)<|?_
      ·refine Xe [1,1,1,1,1,1,1,1,1] r (Cl [0] spec_l1Text_c H56 r r1 ⟨(Bc Z0),⟨⟩⟩) fun _=>Ay 7 [1,1,1,1,1,1,1,1,1] r (Y.cat H60 r r)<|Ay 8 [1,1,1,1,1,1,1,1,1] r (Bd kp66 kz66 (Pc r (Cp r)<|Pz) r)<|A2 10 18 (?_)<|?_
       ·refine Xe [1,1,1,1,1,1,1,1,1] r (Cl [0] spec_l1Text_c H62 r r1 ⟨(Bc Z0),⟨⟩⟩) fun _=>Ay 11 [1,1,1,1,1,1,1,1,1] r (Y.cat H66 r r)<|Ay 12 [1,1,1,1,1,1,1,1,1] r (Bd kp66 kz66 (Pc r (Cp r)<|Pz) r)<|A2 13 18 (?_)<|?_
        ·refine Xe [2,2,2,2,2,2,2,2,2] r (Bs [{ Key := E53, Del := false, Val := [] : Op }, { Key := E59, Del := false, Val := [] : Op }, { Key := E65, Del := false, Val := [] : Op }] ke36 kz66) fun B82=>A2 14 18 (?_)<|?_
         ·exact Xe [5,5,5,5,5,5,5,5,5] r (Cl [] spec_EngPut_c H70 r r1 ⟨(Oc 8 r),(Oc 9 r),(Oc 10 r),(Oc 0 r),⟨⟩⟩) fun Y84=>Aq [15,16,17] [5,5,5,5,5,5,5,5,5] r<|A1 18<|Xe [6,6,6,6,6,6,6,6,6] r (Al kz28 r) fun B86=>A1 19<|Xu [6,6,6,6,6,6,6,6,6] r (Sb 0 kk28 r (Ca ⟨Ow' 1,Ow' 2,Op',Ow' 3,⟨⟩⟩) r)<|Aq [20] [6,6,6,6,6,6,6,6,6] r<|Az<|Bg (B86, Y84.1, Y84.2.1, Y84.2.2) [6,6,6,6,6,5,0,0,0,0]
         exact Xe [3,3,3,3,3,3,3,3,3] r (Al kz28 r) fun B85=>A1 14<|Xe [6,6,6,6,6,6,6,6,6] r (Cl [] spec_EngPut_c H70 r r1 ⟨(Oc 9 r),(Oc 10 r),(Oc 11 r),(Oc 1 r),⟨⟩⟩) fun Y86=>Aq [15,16,17] [6,6,6,6,6,6,6,6,6] r<|A1 19<|Xu [6,6,6,6,6,6,6,6,6] r (Sb 3 kk28 r (Ca ⟨Ow' 0,Ow' 1,Op',Ow' 2,⟨⟩⟩) r)<|Aq [20] [6,6,6,6,6,6,6,6,6] r<|Az<|Bg (B85, Y86.1, Y86.2.1, Y86.2.2) [6,6,6,6,6,5,3,0,0,0]
        exact Xe [2,2,2,2,2,2,2,2,2] r (Al kz28 r) fun B83=>A1 13<|Xe [3,3,3,3,3,3,3,3,3] r (Bs [{ Key := E53, Del := false, Val := [] : Op }, { Key := E59, Del := false, Val := [] : Op }, { Key := E65, Del := false, Val := [] : Op }] ke36 kz66) fun B84=>A1 14<|Xe [6,6,6,6,6,6,6,6,6] r (Cl [] spec_EngPut_c H70 r r1 ⟨(Oc 9 r),(Oc 10 r),(Oc 11 r),(Oc 0 r),⟨⟩⟩) fun Y85=>Aq [15,16,17] [6,6,6,6,6,6,6,6,6] r<|A1 19<|Xu [6,6,6,6,6,6,6,6,6] r (Sb 4 kk28 r (Ca ⟨Ow' 0,Ow' 1,Op',Ow' 2,⟨⟩⟩) r)<|Aq [20] [6,6,6,6,6,6,6,6,6] r<|Az<|Bg (B83, Y85.1, Y85.2.1, Y85.2.2) [6,6,6,6,6,5,4,0,0,0]
       refine Xe [2,2,2,2,2,2,2,2,2] r (Al kz28 r) fun B81=>A1 10<|Xe [2,2,2,2,2,2,2,2,2] r (Cl [1] spec_l1Text_c H62 r r1 ⟨(Bc Z0),⟨⟩⟩) fun _=>Ay 11 [2,2,2,2,2,2,2,2,2] r (Y.cat H66 r r)<|Ay 12 [2,2,2,2,2,2,2,2,2] r (Bd kp66 kz66 (Pc r (Cp r)<|Pz) r)<|A1 13<|Xe [3,3,3,3,3,3,3,3,3] r (Bs [{ Key := E53, Del := false, Val := [] : Op }, { Key := E59, Del := false, Val := [] : Op }, { Key := E65, Del := false, Val := [] : Op }] ke36 kz66) fun B83=>A1 14<|Xe [6,6,6,6,6,6,6,6,6] r (Cl [] spec_EngPut_c H70 r r1 ⟨(Oc 9 r),(Oc 10 r),(Oc 11 r),(Oc 0 r),⟨⟩⟩) fun Y84=>?_
       exact Aq [15,16,17] [6,6,6,6,6,6,6,6,6] r<|A1 19<|Xu [6,6,6,6,6,6,6,6,6] r (Sb 5 kk28 r (Ca ⟨Ow' 0,Ow' 1,Op',Ow' 2,⟨⟩⟩) r)<|Aq [20] [6,6,6,6,6,6,6,6,6] r<|Az<|Bg (B81, Y84.1, Y84.2.1, Y84.2.2) [6,6,6,6,6,4,4,0,0,0]
      refine Xe [2,2,2,2,2,2,2,2,2] r (Al kz28 r) fun B79=>A1 6<|Xe [2,2,2,2,2,2,2,2,2] r (Cl [1] spec_l1Text_c H56 r r1 ⟨(Bc Z0),⟨⟩⟩) fun _=>Ay 7 [2,2,2,2,2,2,2,2,2] r (Y.cat H60 r r)<|Ay 8 [2,2,2,2,2,2,2,2,2] r (Bd kp66 kz66 (Pc r (Cp r)<|Pz) r)<|A1 10<|Xe [2,2,2,2,2,2,2,2,2] r (Cl [0] spec_l1Text_c H62 r r1 ⟨(Bc Z0),⟨⟩⟩) fun _=>Ay 11 [2,2,2,2,2,2,2,2,2] r (Y.cat H66 r r)<|Ay 12 [2,2,2,2,2,2,2,2,2] r (Bd kp66 kz66 (Pc r (Cp r)<|Pz) r)<|A1 13<|Xe [3,3,3,3,3,3,3,3,3] r (Bs [{ Key := E53, Del := false, Val := [] : Op }, { Key := E59, Del := false, Val := [] : Op }, { Key := E65, Del := false, Val := [] : Op }] ke36 kz66) fun B82=>?_
      exact A1 14<|Xe [6,6,6,6,6,6,6,6,6] r (Cl [] spec_EngPut_c H70 r r1 ⟨(Oc 9 r),(Oc 10 r),(Oc 11 r),(Oc 0 r),⟨⟩⟩) fun Y83=>Aq [15,16,17] [6,6,6,6,6,6,6,6,6] r<|A1 19<|Xu [6,6,6,6,6,6,6,6,6] r (Sb 5 kk28 r (Ca ⟨Ow' 0,Ow' 1,Op',Ow' 2,⟨⟩⟩) r)<|Aq [20] [6,6,6,6,6,6,6,6,6] r<|Az<|Bg (B79, Y83.1, Y83.2.1, Y83.2.2) [6,6,6,6,6,4,4,0,0,0]
     refine Xe [1,1,1,1,1,2,2,2,2] r (Al kz28 r) fun B77=>A1 2<|Xe [2,2,2,2,2,2,2,2,2] r (Cl [6] spec_l1Text_c H50 r r1 ⟨(Bc Z0),⟨⟩⟩) fun _=>Ay 3 [2,2,2,2,2,2,2,2,2] r (Y.cat H54 r r)<|Ay 4 [2,2,2,2,2,2,2,2,2] r (Bd kp66 kz66 (Pc r (Cp r)<|Pz) r)<|A1 6<|Xe [2,2,2,2,2,2,2,2,2] r (Cl [0] spec_l1Text_c H56 r r1 ⟨(Bc Z0),⟨⟩⟩) fun _=>Ay 7 [2,2,2,2,2,2,2,2,2] r (Y.cat H60 r r)<|Ay 8 [2,2,2,2,2,2,2,2,2] r (Bd kp66 kz66 (Pc r (Cp r)<|Pz) r)<|A1 10<|Xe [2,2,2,2,2,2,2,2,2] r (Cl [0] spec_l1Text_c H62 r r1 ⟨(Bc Z0),⟨⟩⟩) fun _=>?_
     exact Ay 11 [2,2,2,2,2,2,2,2,2] r (Y.cat H66 r r)<|Ay 12 [2,2,2,2,2,2,2,2,2] r (Bd kp66 kz66 (Pc r (Cp r)<|Pz) r)<|A1 13<|Xe [3,3,3,3,3,3,3,3,3] r (Bs [{ Key := E53, Del := false, Val := [] : Op }, { Key := E59, Del := false, Val := [] : Op }, { Key := E65, Del := false, Val := [] : Op }] ke36 kz66) fun B81=>A1 14<|Xe [6,6,6,6,6,6,6,6,6] r (Cl [] spec_EngPut_c H70 r r1 ⟨(Oc 9 r),(Oc 10 r),(Oc 11 r),(Oc 0 r),⟨⟩⟩) fun Y82=>Aq [15,16,17] [6,6,6,6,6,6,6,6,6] r<|A1 19<|Xu [6,6,6,6,6,6,6,6,6] r (Sb 5 kk28 r (Ca ⟨Ow' 0,Ow' 1,Op',Ow' 2,⟨⟩⟩) r)<|Aq [20] [6,6,6,6,6,6,6,6,6] r<|Az<|Bg (B77, Y82.1, Y82.2.1, Y82.2.2) [6,6,6,6,6,4,4,0,0,0]
    refine Ne<|Sr<|Yo (Lb 6 kk28 r)<|Fu (Sb 1 kk28 r (Ca ⟨Ow' 7,Ow' 8,Op',Ow' 9,⟨⟩⟩) r)<|Nx<|Sr<|Qs 1 r<|Bi fun R78 H79=>Fo (Cl [5] spec_l1Once_c H79 r r1 ⟨(Bc Z0),⟨⟩⟩) fun _=>Nx<|Jn (Value × Value × Value) [2,3,4,5] [1,0] (fun _ _=>[]) (fun T X=>[.box B11 28 [X.1, X.2.1, iv T.1, X.2.2], .own X.1 (lc T.2.1), .own X.2.1 (lc T.2.2.1), .own X.2.2 (lc T.2.2.2)]) r2 r2 (?_) fun T81 X82=>?_
    ·refine Wc r (fun H83=>?_) fun H83=>?_
     ·exact Sr<|Yo (Lb 2 kk28 r)<|Bi fun R84 H85=>Fo (Cl [] spec_EngFlush_c H85 r r1 ⟨(Oc 7 r),(Oc 8 r),(Oc 9 r),⟨⟩⟩) fun Y86=>Qs 3 r<|Fo (Al kz28 r) fun B87=>Fu (Sb 0 kk28 r (Ca ⟨Ow' 1,Ow' 2,Op',Ow' 3,⟨⟩⟩) r)<|Qs 1 r<|Nx<|Rg<|Yo (Lb 0 kk28 r)<|Fu (Sb 6 kk28 r (Ca ⟨Ow' 1,Ow' 2,Op',Ow' 3,⟨⟩⟩) r)<|Nl<|Jg (Y86.1, Y86.2.1, Y86.2.2) [5,4,4,1,1,1]
     exact Sk<|Jg (X75.2.1, X75.2.2.1, X75.2.2.2) [1,0,0,4,4,4]
    exact Bn<|Ne<|Rg<|Qs 3 r<|Nl<|Lg (X82.1, X82.2.1, X82.2.2) [0,0,0,0,0,0]
   exact Wx<|Tx<|Ex<|Be<|Jg (X16.1, X16.2.1, X16.2.2) [0,1,1,1,1]
  exact Ne<|Sr<|Yo (Lb 1 kk28 r)<|Fu (Sb 0 kk28 r (Ca ⟨Ow' 2,Ow' 3,Op',Ow' 4,⟨⟩⟩) r)<|Nx<|Wr<|TE.leaf fun _ _ hf_ hs_ => ret_any (rs := [.cell 2 28]) (vs := [.agg #[X18.1, X18.2.1, iv T17.1, X18.2.2]]) (.inl r) r (RV.cell 0 r r kk28 r ⟨⟩) hf_ hs_ ⟨(X18.1, X18.2.1, X18.2.2), r, hs_.pulls [2, 2, 2] r⟩

/-- loop.example/g00950/spec.EngTidy -/
noncomputable def spec_EngTidy (e : Eng) : Option (Eng × Bool) :=
  (spec_EngOk e).bind fun R3 =>
  if (!R3) = true then (some ({ Mem := ([] : List Ent), Tables := ([] : List (List Ent)), Seq := (0 : Int), Snaps := ([] : List Int) : Eng }, false))
  else ((spec_l20Copy e).bind fun R10 =>
  bindC (if (decide (((R10.Tables.length : Nat) : Int) ≥ (6 : Int))) = true then ((spec_EngMerge R10).bind fun R17 =>
  some (.go (R17.1.Seq, R17.2, R17.1.Mem, R17.1.Tables, R17.1.Snaps)))
  else (some (.go (R10.Seq, false, R10.Mem, R10.Tables, R10.Snaps))))
  (fun (T14 : Int × Bool × List Ent × List (List Ent) × List Int) => bindC (if (decide (((T14.2.2.1.length : Nat) : Int) > (54 : Int))) = true then ((spec_EngFlush ({ Mem := T14.2.2.1, Tables := T14.2.2.2.1, Seq := T14.1, Snaps := T14.2.2.2.2 : Eng })).bind fun R24 =>
  (if T14.2.1 = true then (some true)
  else (some R24.2)).bind (fun (T28 : Bool) =>
  some (.go (R24.1.Seq, T28, R24.1.Mem, R24.1.Tables, R24.1.Snaps))))
  else (some (.go (T14.1, T14.2.1, T14.2.2.1, T14.2.2.2.1, T14.2.2.2.2))))
  (fun (T21 : Int × Bool × List Ent × List (List Ent) × List Int) => some ({ Mem := T21.2.2.1, Tables := T21.2.2.2.1, Seq := T21.1, Snaps := T21.2.2.2.2 : Eng }, T21.2.1))))

theorem spec_EngTidy_c {e : Eng} {U0 U1 U2 : Value} : Cn Tryz.prog 25 [.agg #[U0, U1, iv e.Seq, U2]] [] [(U0, lc e.Mem), (U1, lc e.Tables), (U2, lc e.Snaps)] (spec_EngTidy e) (fun r (X : Value × Value × Value) => .tuple #[.agg #[X.1, X.2.1, iv r.1.Seq, X.2.2], .bool r.2]) fun r X => [.own X.1 (lc r.1.Mem), .own X.2.1 (lc r.1.Tables), .own X.2.2 (lc r.1.Snaps)] := by
  unfold spec_EngTidy
  refine Ci Tryz.func25 r r ?_
  rintro w S ⟨Z0,Z1,Z2,-⟩
  refine Sr<|Fo (Bx r (Ca ⟨Ob Z0,Ob Z1,Op',Ob Z2,⟨⟩⟩)) fun B1=>Fo (Al kz28 r) fun B2=>Qs 1 r<|Nx<|Sq<|Sr<|Yo (Lb 1 kk28 r)<|Bi fun R3 H4=>Fo (Cl [] spec_EngOk_c H4 r r1 ⟨(Bc Z0),(Bc Z1),(Bc Z2),⟨⟩⟩) fun _=>Qs 1 r<|Nx<|Wc r (fun H6=>?_) fun H6=>?_
  ·exact Sr<|Yo (Bd kp28 kz28 (Pz) r)<|Fu (Sb 0 kk28 r (Cp r) r)<|Qs 1 r<|Nx<|Wr<|Tr<|TE.leaf fun _ _ hf_ hs_ => ret_any (rs := [.cell 2 28, .tmp 3]) (vs := [.agg #[.slice none 0 0, .slice none 0 0, iv (0 : Int), .slice none 0 0], .bool false]) (.inl r) r (RV.cell 0 r r kk28 r ⟨r, ⟨⟩⟩) hf_ hs_ ⟨((.slice none 0 0), (.slice none 0 0), (.slice none 0 0)), r, (((hs_.nilItem 4).nilItem 1).nilItem 1).pulls [2, 1, 0] r⟩
  refine Sn<|Sr<|Yo (Lb 1 kk28 r)<|Bi fun R10 H11=>Fo (Cl [] spec_l20Copy_c H11 r r1 ⟨(Bc Z0),(Bc Z1),(Bc Z2),⟨⟩⟩) fun Y12=>Fo (Al kz28 r) fun B13=>Fu (Sb 0 kk28 r (Ca ⟨Ow' 1,Ow' 2,Op',Ow' 3,⟨⟩⟩) r)<|Nx<|Sr<|Qs 1 r<|Nx<|Sq<|Sr<|Yo (Fb kf28_1 r)<|Yo (Lb 0 kk25 r)<|Yo (Ln ke25 (Oc 2 r) r)<|Qs 1 r<|Nx<|Jn (Value × Value × Value) [2,4] [4] (fun T _=>[(5, .bool T.2.1)]) (fun T X=>[.box B13 28 [X.1, X.2.1, iv T.1, X.2.2], .own X.1 (lc T.2.2.1), .own X.2.1 (lc T.2.2.2.1), .own X.2.2 (lc T.2.2.2.2)]) r2 r2 (?_) fun T14 X15=>?_
  ·refine Wc r (fun H16=>?_) fun H16=>?_
   ·exact Sr<|Yo (Lb 0 kk28 r)<|Bi fun R17 H18=>Fo (Cl [] spec_EngMerge_c H18 r r1 ⟨(Oc 1 r),(Oc 2 r),(Oc 3 r),⟨⟩⟩) fun Y19=>Qs 3 r<|Fo (Al kz28 r) fun B20=>Fu (Sb 0 kk28 r (Ca ⟨Ow' 1,Ow' 2,Op',Ow' 3,⟨⟩⟩) r)<|Qs 1 r<|Nx<|Sr<|Yo (Lb 0 kk28 r)<|Fu (Sb 4 kk28 r (Ca ⟨Ow' 1,Ow' 2,Op',Ow' 3,⟨⟩⟩) r)<|Nx<|Rg<|Qs 2 r<|Nl<|Jg (Y19.1, Y19.2.1, Y19.2.2) [8,4,1,1,1]
   exact Sk<|Jg (Y12.1, Y12.2.1, Y12.2.2) [4,0,0,0,0]
  refine Ne<|Sq<|Sr<|Yo (Fb kf28_0 r)<|Yo (Lb 1 kk24 r)<|Yo (Ln ke24 (Oc 2 r) r)<|Qs 1 r<|Nx<|Jn (Value × Value × Value) [2,4] [0] (fun T _=>[(5, .bool T.2.1)]) (fun T X=>[.box B13 28 [X.1, X.2.1, iv T.1, X.2.2], .own X.1 (lc T.2.2.1), .own X.2.1 (lc T.2.2.2.1), .own X.2.2 (lc T.2.2.2.2)]) r2 r2 (?_) fun T21 X22=>?_
  ·refine Wc r (fun H23=>?_) fun H23=>?_
   ·refine Sr<|Yo (Lb 1 kk28 r)<|Bi fun R24 H25=>Fo (Cl [] spec_EngFlush_c H25 r r1 ⟨(Oc 2 r),(Oc 3 r),(Oc 4 r),⟨⟩⟩) fun Y26=>Qs 3 r<|Fo (Al kz28 r) fun B27=>Fu (Sb 0 kk28 r (Ca ⟨Ow' 1,Ow' 2,Op',Ow' 3,⟨⟩⟩) r)<|Qs 1 r<|Nx<|Sr<|Yo (Lb 0 kk28 r)<|Fu (Sb 5 kk28 r (Ca ⟨Ow' 1,Ow' 2,Op',Ow' 3,⟨⟩⟩) r)<|Nx<|Jb Unit [2,4] [4,4,1,1,1] (fun T _=>[(5, .bool T)]) (fun _ _=>[]) r2 r2 (Rg<|Qs 2 r<|It (fun H30=>Of 1 (beq_tf H30) r r<|Yo (Pt H30 r)<|Qs 1 r<|Nl<|Bg () [4,4,1,1,1]) fun H30=>Qg 1 (beq_ff H30) r r<|Yo (Pf H30 r)<|Qs 1 r<|Nl<|Bg () [4,4,1,1,1]) fun T28 X29=>?_
    exact Jg (Y26.1, Y26.2.1, Y26.2.2) [0,0,0,0,0]
   exact Sk<|Jg (X15.1, X15.2.1, X15.2.2) [0,0,0,0,0]
  exact Ne<|Sr<|Yo (Lb 1 kk28 r)<|Qs 1 r<|Fu (Sb 0 kk28 r (Ca ⟨Ow' 2,Ow' 3,Op',Ow' 4,⟨⟩⟩) r)<|Qs 1 r<|Nx<|Wr<|TE.leaf fun _ _ hf_ hs_ => ret_any (rs := [.cell 2 28, .tmp 3]) (vs := [.agg #[X22.1, X22.2.1, iv T21.1, X22.2.2], .bool T21.2.1]) (.inl r) r (RV.cell 0 r r kk28 r ⟨r, ⟨⟩⟩) hf_ hs_ ⟨(X22.1, X22.2.1, X22.2.2), r, hs_.pulls [2, 2, 2] r⟩

/-- loop.example/g00950/spec.l20All -/
noncomputable def spec_l20All (e : Eng) : Option (List Ent) :=
  (app 24 ([e.Mem]) e.Tables).bind fun E7 =>
  (spec_MergeEnts E7).bind fun R9 =>
  some R9

theorem spec_l20All_c {e : Eng} {U0 U1 U2 : Value} : Cn Tryz.prog 60 [.agg #[U0, U1, iv e.Seq, U2]] [] [(U0, lc e.Mem), (U1, lc e.Tables), (U2, lc e.Snaps)] (spec_l20All e) (fun _ (X : Value) => X) fun r X => [.own X (lc r)] := by
  unfold spec_l20All
  refine Ci Tryz.func60 r r ?_
  rintro w S ⟨Z0,Z1,Z2,-⟩
  refine Sr<|Fo (Bx r (Ca ⟨Ob Z0,Ob Z1,Op',Ob Z2,⟨⟩⟩)) fun B1=>Qs 1 r<|Nx<|Sr<|Yo (Fb kf28_0 r)<|Yo (Lb 0 kk24 r)<|Fo (Bk [.raw U0] ke25 kz24 r (Qc (Cb Z0)<|Qz)) fun B2=>TO.conv (is' := [.own (.slice (some ⟨B2, 0, none⟩) 1 1) (lc ([Sv.mk U0 (Base.oneCell Z0)] : List Sv)), .box B1 28 [U0, U1, iv e.Seq, U2]]) (fun _ h_ => h_)<|Qs 1 r<|Nx<|Sr<|Qs 1 r<|Yo (Fb kf28_1 r)<|Yo (Lb 1 kk25 r)<|Bi fun E7 H8=>?_
  have ⟨W4, Q5, Q6⟩:=Base.rows (fun _ => r) Z1
  exact Fo (Ap [0] (app_rows H8 (Bases.one Z0).length Q5.length) ke25 kz24 r (Bc Q6)) fun V3=>Qs 1 r<|Nx<|Sr<|Qs 1 r<|Bi fun R9 H10=>Fo (Cl [] spec_MergeEnts_c H10 r r1 ⟨(Can.rows (fun _ => rfl) 0 rfl (Bases.app H8 (Bases.one Z0) Q5)),⟨⟩⟩) fun Y11=>Qs 1 r<|Nx<|Wr<|Re Y11 [0]

/-- loop.example/g00950/spec.l9Map -/
noncomputable def spec_l9Map (l : List Ent) (seq : Int) : Option (List KV) :=
  bindC (loopO (fun (S2 : Int × List KV) => if (decide (S2.1 < ((l.length : Nat) : Int))) = true then ((idx l S2.1).bind fun E7 =>
  (spec_l9Get l E7.Key seq).bind fun R9 =>
  (if R9.2 = true then (if (!R9.1.Del) = true then (some (decide (R9.1.Seq = E7.Seq)))
  else (some false))
  else (some false)).bind (fun (T13 : Bool) =>
  bindC (if T13 = true then ((app 32 S2.2 ([{ Key := R9.1.Key, Val := R9.1.Val : KV }])).bind fun E22 =>
  some (.go E22))
  else (some (.go S2.2)))
  (fun (T17 : List KV) => some (.go (IntKind.i64.wrap (S2.1 + (1 : Int)), T17)))))
  else (some (.done (.go S2.2))))
  ((0 : Int), ([] : List KV)))
  (fun (T4 : List KV) => some T4)

theorem spec_l9Map_c {l : List Ent} {seq : Int} {U0 : Value} : Cn Tryz.prog 59 [U0, iv seq] [] [(U0, lc l)] (spec_l9Map l seq) (fun _ (X : Value) => X) fun r X => [.own X (lc r)] := by
  unfold spec_l9Map
  refine Ci Tryz.func59 r r ?_
  rintro w S ⟨Z0,-⟩
  refine Sr<|Qs 1 r<|Nx<|Sr<|Fo (Bs ([] : List KV) ke29 kz49) fun B1=>Qs 1 r<|Nx<|Sq<|Sr<|Qs 1 r<|Nx<|Jn Value [] [] (fun _ X=>[(5, X)]) (fun T X=>[.own X (lc T)]) r2 r2 (?_) fun T4 X5=>?_
  ·refine Wb<|Lp Value [0,1] [] (fun T X=>[(5, X), (6, iv T.1)]) (fun T X=>[.own X (lc T.2)]) (.slice (some ⟨B1, 0, none⟩) 0 0) [0] r2 r2 fun S2 X3=>Sq<|Sr<|Qs 2 r<|Yo (Ln ke24 (Bc Z0) r)<|Qs 1 r<|Nx<|Wc r (fun H6=>?_) fun H6=>?_
   ·refine Sn<|Sq<|Wb<|Sr<|Qs 3 r<|Bi fun E7 H8=>Yo (Ix ke24 (Bc Z0) H8 r)<|Yo (Fe kf76_0 (Bc Z0) H8 r)<|Yo (Le kk9 (Bc Z0) H8 r)<|Qs 1 r<|Bi fun R9 H10=>Fo (Cl [] spec_l9Get_c H10 r r1 ⟨(Bc Z0),⟨⟩⟩) fun _=>Qs 3 r<|Fo (Al kz76 r) fun B12=>Fu (Sb 0 kk76 r (Cp r) r)<|Qs 1 r<|Nx<|Sq<|Jv [0,1,5,6,7] (fun T=>[(42, .bool T)]) r1 (?_) fun T13=>?_
    ·refine Dr [0,0] r hMix<|Aq [0,1] [0,0] r<|Ia (fun H15=>?_) fun H15=>?_
     ·refine Ag 2 [0,0] (gdA (beq_tt H15)) r (Fb kf76_2 r)<|Ag 3 [0,0] (gdA (beq_tt H15)) r (Lb 0 kk4 r)<|Ag 4 [0,0] (gdA (beq_tt H15)) r (Y.not r)<|Ay 5 [0,0] r (Pt H15 r)<|Aq [6] [0,0] r<|Ia (fun H16=>?_) fun H16=>?_
      ·exact Ag 7 [0,0] (gdA (beq_tt H16)) r (Fb kf76_1 r)<|Ag 8 [0,0] (gdA (beq_tt H16)) r (Lb 0 kk3 r)<|Ag 9 [0,0] (gdA (beq_tt H16)) r (Y.move r)<|Ag 10 [0,0] (gdA (beq_tt H16)) r (Y.move r)<|Ag 11 [0,0] (gdA (beq_tt H16)) r (Ix ke24 (Bc Z0) H8 r)<|Ag 12 [0,0] (gdA (beq_tt H16)) r (Fe kf76_1 (Bc Z0) H8 r)<|Ag 13 [0,0] (gdA (beq_tt H16)) r (Le kk3 (Bc Z0) H8 r)<|Ag 14 [0,0] (gdA (beq_tt H16)) r (Y.eql r r)<|Ay 15 [0,0] r (Pt H16 r)<|Az<|Bg () [0,0]
      exact Ax [7,8,9,10,11,12,13,14] [0,0] (beq_ft H16) r r<|Ay 15 [0,0] r (Pf H16 r)<|Az<|Bg () [0,0]
     exact Ax [2,3,4] [0,0] (beq_ft H15) r r<|Ay 5 [0,0] r (Pf H15 r)<|Aq [6] [0,0] r<|Ax [7,8,9,10,11,12,13,14] [0,0] r r r<|Ay 15 [0,0] r (Pf r r)<|Az<|Bg () [0,0]
    refine Ne<|Jn Value [0,1,6] [] (fun _ X=>[(5, X)]) (fun T X=>[.own X (lc T)]) r2 r2 (?_) fun T17 X18=>?_
    ·refine Wc r (fun H19=>?_) fun H19=>?_
     ·exact Rg<|Qs 1 r<|Yo (Fb kf76_0 r)<|Yo (Lb 0 kk9 r)<|Yo (Fb kf76_3 r)<|Yo (Lb 0 kk9 r)<|Yo (Bd kp49 kz49 (Pc r (Cp r)<|Pc r (Cp r)<|Pz) r)<|Fo (Bs [{ Key := R9.1.Key, Val := R9.1.Val : KV }] ke29 kz49) fun B20=>Bi fun E22 H23=>Fo (Ap [2] H23 ke29 kz49 r (Oc 0 r)) fun V21=>Qs 1 r<|Nl<|Jg V21 [0]
     exact Sk<|Jg X3 [1]
    exact Bn<|Ne<|Rg<|Qs 3 r<|Nl<|Lg X18 [0]
   exact Wx<|Tx<|Ex<|Be<|Jg X3 [0]
  exact Ne<|Sr<|Qs 2 r<|Nx<|Wr<|Re X5 [0]

/-- loop.example/g00950/spec.EngMap -/
noncomputable def spec_EngMap (e : Eng) (seq : Int) : Option (List KV) :=
  (spec_EngOk e).bind fun R2 =>
  if (!R2) = true then (some ([] : List KV))
  else ((spec_l20All e).bind fun R7 =>
  (spec_l9Map R7 seq).bind fun R10 =>
  some R10)

theorem spec_EngMap_c {e : Eng} {seq : Int} {U0 U1 U2 : Value} : Cn Tryz.prog 26 [.agg #[U0, U1, iv e.Seq, U2], iv seq] [] [(U0, lc e.Mem), (U1, lc e.Tables), (U2, lc e.Snaps)] (spec_EngMap e seq) (fun _ (X : Value) => X) fun r X => [.own X (lc r)] := by
  unfold spec_EngMap
  refine Ci Tryz.func26 r r ?_
  rintro w S ⟨Z0,Z1,Z2,-⟩
  refine Sr<|Fo (Bx r (Ca ⟨Ob Z0,Ob Z1,Op',Ob Z2,⟨⟩⟩)) fun B1=>Qs 1 r<|Nx<|Sq<|Sr<|Yo (Lb 0 kk28 r)<|Bi fun R2 H3=>Fo (Cl [] spec_EngOk_c H3 r r1 ⟨(Bc Z0),(Bc Z1),(Bc Z2),⟨⟩⟩) fun _=>Qs 1 r<|Nx<|Wc r (fun H5=>Sr<|Fo (Bs ([] : List KV) ke29 kz49) fun B6=>Qs 1 r<|Nx<|Wr<|Tr<|Re (.slice (some ⟨B6, 0, none⟩) 0 0) [0]) fun H5=>Sn<|Sr<|Yo (Lb 0 kk28 r)<|Bi fun R7 H8=>Fo (Cl [] spec_l20All_c H8 r r1 ⟨(Bc Z0),(Bc Z1),(Bc Z2),⟨⟩⟩) fun Y9=>Qs 1 r<|Bi fun R10 H11=>Fo (Cl [] spec_l9Map_c H11 r r1 ⟨(Oc 0 r),⟨⟩⟩) fun Y12=>?_
  exact Qs 1 r<|Nx<|Wr<|Re Y12 [0]

/-- loop.example/g00950/laws.FnEngines -/
noncomputable def laws_FnEngines (code : List UInt8) : Option Bool :=
  (laws_big code).bind fun R1 =>
  if R1 = true then (some true)
  else ((spec_DrawEngPut code).bind fun R5 =>
  (impl_EngPut R5.1 R5.2).bind fun R9 =>
  (spec_EngPut R5.1 R5.2).bind fun R13 =>
  (spec_DrawEngDrop code).bind fun R17 =>
  (impl_EngDrop R17.1 R17.2).bind fun R21 =>
  (spec_EngDrop R17.1 R17.2).bind fun R25 =>
  (if (!(decide (R9.2 = R13.2))) = true then (some true)
  else (if (!(decide (R21.2 = R25.2))) = true then (some true)
  else ((spec_EngOk R5.1).bind fun R33 =>
  if R33 = true then (if (!R9.2) = true then ((laws_sameEng R9.1 R5.1).bind fun R38 =>
  if (!R38) = true then (some true)
  else ((spec_EngOk R17.1).bind fun R42 =>
  if R42 = true then (if (!R21.2) = true then ((laws_sameEng R21.1 R17.1).bind fun R47 =>
  some (!R47))
  else (some false))
  else (some false)))
  else ((spec_EngOk R17.1).bind fun R50 =>
  if R50 = true then (if (!R21.2) = true then ((laws_sameEng R21.1 R17.1).bind fun R55 =>
  some (!R55))
  else (some false))
  else (some false)))
  else ((spec_EngOk R17.1).bind fun R58 =>
  if R58 = true then (if (!R21.2) = true then ((laws_sameEng R21.1 R17.1).bind fun R63 =>
  some (!R63))
  else (some false))
  else (some false))))).bind (fun (T29 : Bool) =>
  if T29 = true then (some false)
  else (bindC (loopO (fun (S67 : Int) => (if (decide (S67 < ((R21.1.Snaps.length : Nat) : Int))) = true then (some R21.2)
  else (some false)).bind (fun (T71 : Bool) =>
  if T71 = true then ((idx R21.1.Snaps S67).bind fun E75 =>
  if (decide (E75 = R17.2)) = true then (some (.done (.done false)))
  else (some (.go (IntKind.i64.wrap (S67 + (1 : Int))))))
  else (some (.done (.go ())))))
  (0 : Int))
  (fun (T69 : Unit) => (spec_DrawEngTidy code).bind fun R78 =>
  (impl_EngTidy R78).bind fun R82 =>
  (spec_EngTidy R78).bind fun R86 =>
  (if (decide (R82.2 = R86.2)) = true then ((spec_EngOk R78).bind fun R93 =>
  if (!R93) = true then (some true)
  else ((spec_EngOk R82.1).bind fun R97 =>
  if R97 = true then ((impl_EngMap R82.1 R78.Seq).bind fun R101 =>
  (spec_EngMap R78 R78.Seq).bind fun R104 =>
  (laws_sameMap R101 R104).bind fun R107 =>
  some R107)
  else (some false)))
  else (some false)).bind (fun (T90 : Bool) =>
  some T90)))))

theorem laws_FnEngines_c {code : List UInt8} {U0 : Value} : Cn Tryz.prog 4 [U0] [] [(U0, lc code)] (laws_FnEngines code) (fun r (_ : Unit) => .bool r) fun _ _ => [] := by
  unfold laws_FnEngines
  refine Ci Tryz.func4 r r ?_
  rintro w S ⟨Z0,-⟩
  refine Sr<|Qs 1 r<|Nx<|Sq<|Sr<|Qs 1 r<|Bi fun R1 H2=>Fo (Cl [] laws_big_c H2 r r1 ⟨(Bc Z0),⟨⟩⟩) fun _=>Nx<|Wc r (fun H4=>Sr<|Qs 1 r<|Nx<|Wr<|Tr<|Re () []) fun H4=>Sn<|Sr<|Qs 1 r<|Bi fun R5 H6=>Fo (Cl [] spec_DrawEngPut_c H6 r r1 ⟨(Bc Z0),⟨⟩⟩) fun Y7=>Qs 3 r<|Fo (Al kz28 r) fun B8=>Fu (Sb 0 kk28 r (Ca ⟨Ow' 1,Ow' 2,Op',Ow' 3,⟨⟩⟩) r)<|Qs 1 r<|Nx<|Sr<|Yo (Lb 0 kk28 r)<|Qs 1 r<|Bi fun R9 H10=>Fo (Cl [] impl_EngPut_c H10 r r1 ⟨(Oc 1 r),(Oc 2 r),(Oc 3 r),(Oc 4 r),⟨⟩⟩) fun Y11=>Qs 3 r<|Fo (Al kz28 r) fun B12=>Fu (Sb 0 kk28 r (Ca ⟨Ow' 1,Ow' 2,Op',Ow' 3,⟨⟩⟩) r)<|Qs 1 r<|Nx<|Sr<|Yo (Lb 4 kk28 r)<|Qs 1 r<|Bi fun R13 H14=>?_
  refine Fo (Cl [] spec_EngPut_c H14 r r1 ⟨(Oc 5 r),(Oc 6 r),(Oc 7 r),(Oc 8 r),⟨⟩⟩) fun Y15=>Qs 3 r<|Fo (Al kz28 r) fun B16=>Fu (Sb 0 kk28 r (Ca ⟨Ow' 1,Ow' 2,Op',Ow' 3,⟨⟩⟩) r)<|Qs 1 r<|Nx<|Sr<|Qs 1 r<|Bi fun R17 H18=>Fo (Cl [] spec_DrawEngDrop_c H18 r r1 ⟨(Bc Z0),⟨⟩⟩) fun Y19=>Qs 3 r<|Fo (Al kz28 r) fun B20=>Fu (Sb 0 kk28 r (Ca ⟨Ow' 1,Ow' 2,Op',Ow' 3,⟨⟩⟩) r)<|Qs 1 r<|Nx<|Sr<|Yo (Lb 0 kk28 r)<|Qs 1 r<|Bi fun R21 H22=>Fo (Cl [] impl_EngDrop_c H22 r r1 ⟨(Oc 1 r),(Oc 2 r),(Oc 3 r),⟨⟩⟩) fun Y23=>Qs 3 r<|Fo (Al kz28 r) fun B24=>?_
  refine Fu (Sb 0 kk28 r (Ca ⟨Ow' 1,Ow' 2,Op',Ow' 3,⟨⟩⟩) r)<|Qs 1 r<|Nx<|Sr<|Yo (Lb 4 kk28 r)<|Qs 1 r<|Bi fun R25 H26=>Fo (Cl [] spec_EngDrop_c H26 r r1 ⟨(Oc 5 r),(Oc 6 r),(Oc 7 r),⟨⟩⟩) fun Y27=>Qs 3 r<|Fo (Al kz28 r) fun B28=>Fu (Sb 0 kk28 r (Ca ⟨Ow' 1,Ow' 2,Op',Ow' 3,⟨⟩⟩) r)<|Qs 1 r<|Nx<|Sq<|Sq<|Jb Unit [0,10,11,12] [4,4,4,4] (fun T _=>[(92, .bool T)]) (fun _ _=>[]) r2 r2 (?_) fun T29 X30=>?_
  ·refine Rg<|Qs 2 r<|Yo (Y.neb kb4 r r)<|Qs 1 r<|It (fun H31=>Of 3 (beq_tf H31) r r<|Yo (Pt H31 r)<|Qs 1 r<|Of 3 r r r<|Ou 2 r r<|Of 2 r r r<|Ou 4 r r<|Of 1 r r r<|Yo (Pt r r)<|Qs 1 r<|Of 3 r r r<|Ou 2 r r<|Of 2 r r r<|Ou 4 r r<|Of 1 r r r<|Yo (Pt r r)<|Nl<|Bg () [4,4,4,4]) fun H31=>Qg 2 (beq_ff H31) r r<|Yg (gdA (beq_ff H31)) (Y.neb kb4 r r)<|Yo (Pf H31 r)<|Qs 1 r<|It (fun H32=>Of 3 (beq_tf H32) r r<|Ou 2 r r<|Of 2 (beq_tf H32) r r<|Ou 4 r r<|Of 1 (beq_tf H32) r r<|Yo (Pt H32 r)<|Qs 1 r<|Of 3 r r r<|Ou 2 r r<|Of 2 r r r<|Ou 4 r r<|Of 1 r r r<|Yo (Pt r r)<|Nl<|Bg () [4,4,4,4]) fun H32=>?_
   refine Yg (gdA (beq_ff H32)) (Lb 20 kk28 r)<|Bi fun R33 H34=>Fg (gdA (beq_ff H32)) (Cl [] spec_EngOk_c H34 r r1 ⟨(Oc 21 r),(Oc 22 r),(Oc 23 r),⟨⟩⟩) fun _=>Qg 1 (beq_ff H32) r r<|It (fun H36=>?_) fun H36=>?_
   ·refine Qg 2 (beq_tt H36) r r<|Yg (gdA (beq_ff H32)) (Pt H36 r)<|Qg 1 (beq_ff H32) r r<|It (fun H37=>?_) fun H37=>?_
    ·refine Yg (gdA (beq_tt H37)) (Lb 16 kk28 r)<|Yg (gdA (beq_tt H37)) (Lb 20 kk28 r)<|Bi fun R38 H39=>Fg (gdA (beq_tt H37)) (Cl [] laws_sameEng_c H39 r r1 ⟨(Oc 17 r),(Oc 18 r),(Oc 19 r),(Oc 21 r),(Oc 22 r),(Oc 23 r),⟨⟩⟩) fun _=>Qg 1 (beq_tt H37) r r<|Yg (gdA (beq_ff H32)) (Pt H37 r)<|Yo (Pf H32 r)<|Qs 1 r<|It (fun H41=>Of 3 (beq_tf H41) r r<|Ou 2 r r<|Of 2 (beq_tf H41) r r<|Ou 4 r r<|Of 1 (beq_tf H41) r r<|Yo (Pt H41 r)<|Nl<|Bg () [4,4,4,4]) fun H41=>Yg (gdA (beq_ff H41)) (Lb 8 kk28 r)<|Bi fun R42 H43=>Fg (gdA (beq_ff H41)) (Cl [] spec_EngOk_c H43 r r1 ⟨(Oc 9 r),(Oc 10 r),(Oc 11 r),⟨⟩⟩) fun _=>?_
     refine Qg 1 (beq_ff H41) r r<|It (fun H45=>?_) fun H45=>?_
     ·refine Qg 2 (beq_tt H45) r r<|Yg (gdA (beq_ff H41)) (Pt H45 r)<|Qg 1 (beq_ff H41) r r<|It (fun H46=>?_) fun H46=>?_
      ·exact Yg (gdA (beq_tt H46)) (Lb 4 kk28 r)<|Yg (gdA (beq_tt H46)) (Lb 8 kk28 r)<|Bi fun R47 H48=>Fg (gdA (beq_tt H46)) (Cl [] laws_sameEng_c H48 r r1 ⟨(Oc 5 r),(Oc 6 r),(Oc 7 r),(Oc 9 r),(Oc 10 r),(Oc 11 r),⟨⟩⟩) fun _=>Qg 1 (beq_tt H46) r r<|Yg (gdA (beq_ff H41)) (Pt H46 r)<|Yo (Pf H41 r)<|Nl<|Bg () [4,4,4,4]
      exact Of 4 (beq_ft H46) r r<|Yg (gdA (beq_ff H41)) (Pf H46 r)<|Yo (Pf H41 r)<|Nl<|Bg () [4,4,4,4]
     exact Of 2 (beq_ft H45) r r<|Yg (gdA (beq_ff H41)) (Pf H45 r)<|Qg 1 (beq_ff H41) r r<|Of 4 r r r<|Yg (gdA (beq_ff H41)) (Pf r r)<|Yo (Pf H41 r)<|Nl<|Bg () [4,4,4,4]
    refine Of 4 (beq_ft H37) r r<|Yg (gdA (beq_ff H32)) (Pf H37 r)<|Yo (Pf H32 r)<|Qs 1 r<|Yg (gdA r) (Lb 8 kk28 r)<|Bi fun R50 H51=>Fg (gdA r) (Cl [] spec_EngOk_c H51 r r1 ⟨(Oc 9 r),(Oc 10 r),(Oc 11 r),⟨⟩⟩) fun _=>Qg 1 r r r<|It (fun H53=>?_) fun H53=>?_
    ·refine Qg 2 (beq_tt H53) r r<|Yg (gdA r) (Pt H53 r)<|Qg 1 r r r<|It (fun H54=>?_) fun H54=>?_
     ·exact Yg (gdA (beq_tt H54)) (Lb 4 kk28 r)<|Yg (gdA (beq_tt H54)) (Lb 8 kk28 r)<|Bi fun R55 H56=>Fg (gdA (beq_tt H54)) (Cl [] laws_sameEng_c H56 r r1 ⟨(Oc 5 r),(Oc 6 r),(Oc 7 r),(Oc 9 r),(Oc 10 r),(Oc 11 r),⟨⟩⟩) fun _=>Qg 1 (beq_tt H54) r r<|Yg (gdA r) (Pt H54 r)<|Yo (Pf r r)<|Nl<|Bg () [4,4,4,4]
     exact Of 4 (beq_ft H54) r r<|Yg (gdA r) (Pf H54 r)<|Yo (Pf r r)<|Nl<|Bg () [4,4,4,4]
    exact Of 2 (beq_ft H53) r r<|Yg (gdA r) (Pf H53 r)<|Qg 1 r r r<|Of 4 r r r<|Yg (gdA r) (Pf r r)<|Yo (Pf r r)<|Nl<|Bg () [4,4,4,4]
   refine Of 2 (beq_ft H36) r r<|Yg (gdA (beq_ff H32)) (Pf H36 r)<|Qg 1 (beq_ff H32) r r<|Of 4 r r r<|Yg (gdA (beq_ff H32)) (Pf r r)<|Yo (Pf H32 r)<|Qs 1 r<|Yg (gdA r) (Lb 8 kk28 r)<|Bi fun R58 H59=>Fg (gdA r) (Cl [] spec_EngOk_c H59 r r1 ⟨(Oc 9 r),(Oc 10 r),(Oc 11 r),⟨⟩⟩) fun _=>Qg 1 r r r<|It (fun H61=>?_) fun H61=>?_
   ·refine Qg 2 (beq_tt H61) r r<|Yg (gdA r) (Pt H61 r)<|Qg 1 r r r<|It (fun H62=>?_) fun H62=>?_
    ·exact Yg (gdA (beq_tt H62)) (Lb 4 kk28 r)<|Yg (gdA (beq_tt H62)) (Lb 8 kk28 r)<|Bi fun R63 H64=>Fg (gdA (beq_tt H62)) (Cl [] laws_sameEng_c H64 r r1 ⟨(Oc 5 r),(Oc 6 r),(Oc 7 r),(Oc 9 r),(Oc 10 r),(Oc 11 r),⟨⟩⟩) fun _=>Qg 1 (beq_tt H62) r r<|Yg (gdA r) (Pt H62 r)<|Yo (Pf r r)<|Nl<|Bg () [4,4,4,4]
    exact Of 4 (beq_ft H62) r r<|Yg (gdA r) (Pf H62 r)<|Yo (Pf r r)<|Nl<|Bg () [4,4,4,4]
   exact Of 2 (beq_ft H61) r r<|Yg (gdA r) (Pf H61 r)<|Qg 1 r r r<|Of 4 r r r<|Yg (gdA r) (Pf r r)<|Yo (Pf r r)<|Nl<|Bg () [4,4,4,4]
  refine Ne<|Wc r (fun H66=>Sr<|Qs 1 r<|Nx<|Wr<|Tr<|Re () []) fun H66=>Sn<|Sq<|Sr<|Qs 1 r<|Nx<|Jn Unit [0] [] (fun _ _=>[]) (fun _ _=>[]) r2 r2 (?_) fun T69 X70=>?_
  ·refine Wb<|Lu [0,10,11,12] (fun T=>[(15, iv T)]) r1 fun S67=>Sq<|Sq<|Jv [0,10,11,12,15] (fun T=>[(100, .bool T)]) r1 (Rg<|Qs 1 r<|Yo (Fb kf28_3 r)<|Yo (Lb 0 kk26 r)<|Yo (Ln ke26 (Oc 3 r) r)<|Qs 2 r<|It (fun H73=>Qg 1 (beq_tt H73) r r<|Yo (Pt H73 r)<|Nl<|Bg () [0,0,0,0]) fun H73=>Of 1 (beq_ft H73) r r<|Yo (Pf H73 r)<|Nl<|Bg () [0,0,0,0]) fun T71=>Ne<|Wc r (fun H74=>?_) fun H74=>?_
   ·exact Sn<|Sq<|Wb<|Sr<|Yo (Fb kf28_3 r)<|Yo (Lb 0 kk26 r)<|Qs 1 r<|Bi fun E75 H76=>Yo (Ix ke26 (Oc 3 r) H76 r)<|Yo (Le kk3 (Oc 3 r) H76 r)<|Qs 2 r<|Nx<|Wc r (fun H77=>Sr<|Qs 1 r<|Nx<|Wr<|Br<|Tr<|Er<|Br<|Jd<|Tr<|Re () []) fun H77=>Sk<|Bn<|Ne<|Rg<|Qs 3 r<|Nl<|Lg () [0,0,0,0]
   exact Wx<|Tx<|Ex<|Be<|Jg () []
  refine Ne<|Sr<|Qs 1 r<|Bi fun R78 H79=>Fo (Cl [] spec_DrawEngTidy_c H79 r r1 ⟨(Bc Z0),⟨⟩⟩) fun Y80=>Fo (Al kz28 r) fun B81=>Fu (Sb 0 kk28 r (Ca ⟨Ow' 1,Ow' 2,Op',Ow' 3,⟨⟩⟩) r)<|Nx<|Sr<|Yo (Lb 0 kk28 r)<|Bi fun R82 H83=>Fo (Cl [] impl_EngTidy_c H83 r r1 ⟨(Oc 1 r),(Oc 2 r),(Oc 3 r),⟨⟩⟩) fun Y84=>Qs 3 r<|Fo (Al kz28 r) fun B85=>Fu (Sb 0 kk28 r (Ca ⟨Ow' 1,Ow' 2,Op',Ow' 3,⟨⟩⟩) r)<|Qs 1 r<|Nx<|Sr<|Yo (Lb 4 kk28 r)<|Bi fun R86 H87=>Fo (Cl [] spec_EngTidy_c H87 r r1 ⟨(Oc 5 r),(Oc 6 r),(Oc 7 r),⟨⟩⟩) fun Y88=>Qs 3 r<|Fo (Al kz28 r) fun B89=>?_
  refine Fu (Sb 0 kk28 r (Ca ⟨Ow' 1,Ow' 2,Op',Ow' 3,⟨⟩⟩) r)<|Qs 1 r<|Nx<|Sq<|Jb Unit [] [] (fun T _=>[(2, .bool T)]) (fun _ _=>[]) r2 r2 (?_) fun T90 X91=>?_
  ·refine Dr [0,0,0,0,0,0,0,0,0,0,0,0] r hMix<|Aq [0,1] [0,0,0,0,0,0,0,0,0,0,0,0] r<|Ay 2 [0,0,0,0,0,0,0,0,0,0,0,0] r (Y.eqb kb4 r r)<|Aq [3] [0,0,0,0,0,0,0,0,0,0,0,0] r<|Ia (fun H92=>?_) fun H92=>?_
   ·refine Ag 4 [0,0,0,0,0,0,0,0,0,0,0,0] (gdA (beq_tt H92)) r (Lb 8 kk28 r)<|Ai fun R93 H94=>A1 5<|Xeg [0,0,0,0,0,0,0,0,0,0,0,0] (gdA (beq_tt H92)) r (Cl [] spec_EngOk_c H94 r r1 ⟨(Oc 9 r),(Oc 10 r),(Oc 11 r),⟨⟩⟩) fun _=>Ag 6 [0,0,0,0,0,0,0,0,0,0,0,0] (gdA (beq_tt H92)) r (Y.not r)<|Ag 7 [0,0,0,0,0,0,0,0,0,0,0,0] (gdA (beq_tt H92)) r (Y.move r)<|Ia (fun H96=>?_) fun H96=>?_
    ·exact Ax [8,9,10] [0,0,0,0,0,0,0,0,0,0,0,0] (beq_tf H96) r r<|Au [11,12,13,14,15,16,17,18,19] [0,0,0,0,0,0,0,0,0,0,0,0] r r<|Ax [20] [0,0,0,0,0,0,0,0,0,0,0,0] (beq_tf H96) r r<|Ag 21 [0,0,0,0,0,0,0,0,0,0,0,0] (gdA (beq_tt H92)) r (Pt H96 r)<|Ay 22 [0,0,0,0,0,0,0,0,0,0,0,0] r (Pt H92 r)<|Aq [23] [0,0,0,0,0,0,0,0,0,0,0,0] r<|Az<|Bg () []
    refine Ag 8 [0,0,0,0,0,0,0,0,0,0,0,0] (gdA (beq_ff H96)) r (Lb 4 kk28 r)<|Ai fun R97 H98=>A1 9<|Xeg [0,0,0,0,0,0,0,0,0,0,0,0] (gdA (beq_ff H96)) r (Cl [] spec_EngOk_c H98 r r1 ⟨(Oc 5 r),(Oc 6 r),(Oc 7 r),⟨⟩⟩) fun _=>Ag 10 [0,0,0,0,0,0,0,0,0,0,0,0] (gdA (beq_ff H96)) r (Y.move r)<|Ia (fun H100=>?_) fun H100=>?_
    ·refine Ag 11 [0,0,0,0,0,0,0,0,0,0,0,0] (gdA (beq_tt H100)) r (Lb 4 kk28 r)<|Ag 12 [0,0,0,0,0,0,0,0,0,0,0,0] (gdA (beq_tt H100)) r (Fb kf28_2 r)<|Ag 13 [0,0,0,0,0,0,0,0,0,0,0,0] (gdA (beq_tt H100)) r (Lb 8 kk3 r)<|Ag 15 [0,0,0,0,0,0,0,0,0,0,0,0] (gdA (beq_tt H100)) r (Lb 8 kk28 r)<|Ag 16 [0,0,0,0,0,0,0,0,0,0,0,0] (gdA (beq_tt H100)) r (Fb kf28_2 r)<|Ag 17 [0,0,0,0,0,0,0,0,0,0,0,0] (gdA (beq_tt H100)) r (Lb 8 kk3 r)<|Ai fun R101 H102=>A1 14<|Xeg [1,1,1,1,1,1,1,1,1,1,1,1] (gdA (beq_tt H100)) r (Cl [] impl_EngMap_c H102 r r1 ⟨(Oc 5 r),(Oc 6 r),(Oc 7 r),⟨⟩⟩) fun Y103=>?_
     exact Ai fun R104 H105=>A1 18<|Xeg [2,2,2,2,2,2,2,2,2,2,2,2] (gdA (beq_tt H100)) r (Cl [] spec_EngMap_c H105 r r1 ⟨(Oc 10 r),(Oc 11 r),(Oc 12 r),⟨⟩⟩) fun Y106=>Ai fun R107 H108=>A1 19<|Xeg [2,2,2,2,2,2,2,2,2,2,2,2] (gdA (beq_tt H100)) r (Cl [] laws_sameMap_c H108 r r1 ⟨(Oc 1 r),(Oc 0 r),⟨⟩⟩) fun _=>Ag 20 [2,2,2,2,2,2,2,2,2,2,2,2] (gdA (beq_ff H96)) r (Pt H100 r)<|Ag 21 [2,2,2,2,2,2,2,2,2,2,2,2] (gdA (beq_tt H92)) r (Pf H96 r)<|Ay 22 [2,2,2,2,2,2,2,2,2,2,2,2] r (Pt H92 r)<|Aq [23] [2,2,2,2,2,2,2,2,2,2,2,2] r<|Az<|Bg () []
    exact Ax [11,12,13,14,15,16,17,18,19] [0,0,0,0,0,0,0,0,0,0,0,0] (beq_ft H100) r r<|Ag 20 [0,0,0,0,0,0,0,0,0,0,0,0] (gdA (beq_ff H96)) r (Pf H100 r)<|Ag 21 [0,0,0,0,0,0,0,0,0,0,0,0] (gdA (beq_tt H92)) r (Pf H96 r)<|Ay 22 [0,0,0,0,0,0,0,0,0,0,0,0] r (Pt H92 r)<|Aq [23] [0,0,0,0,0,0,0,0,0,0,0,0] r<|Az<|Bg () []
   exact Ax [4,5,6,7] [0,0,0,0,0,0,0,0,0,0,0,0] (beq_ft H92) r r<|Au [8,9,10] [0,0,0,0,0,0,0,0,0,0,0,0] r r<|Au [11,12,13,14,15,16,17,18,19] [0,0,0,0,0,0,0,0,0,0,0,0] r r<|Au [20] [0,0,0,0,0,0,0,0,0,0,0,0] r r<|Ax [21] [0,0,0,0,0,0,0,0,0,0,0,0] (beq_ft H92) r r<|Ay 22 [0,0,0,0,0,0,0,0,0,0,0,0] r (Pf H92 r)<|Aq [23] [0,0,0,0,0,0,0,0,0,0,0,0] r<|Az<|Bg () []
  exact Ne<|Wr<|Re () []

end Go.Proofs.YthhmnikdlakffaaGreat
