/-
  The functions that a law reaches, each as a pure function, with the proof that the program computes it, and the step from a pure law to the given statement. Conditions: none.
-/
import Derived.Test.YtkheimgjallpkaaGreatQ1
set_option linter.unusedVariables false
set_option maxRecDepth 100000
set_option maxHeartbeats 4000000
namespace Go.Proofs.YtkheimgjallpkaaGreat
open Go Sl

/-- loop.example/g00950/spec.l3Quarter -/
noncomputable def spec_l3Quarter (s : List Int) (a : Int) (b : Int) (c : Int) (d : Int) : Option (List Int) :=
  (idx s a).bind fun E1 =>
  (idx s b).bind fun E3 =>
  (spec_l3Word (IntKind.i64.wrap (E1 + E3))).bind fun R5 =>
  (idx (s.set a.toNat R5) d).bind fun E10 =>
  (idx (s.set a.toNat R5) a).bind fun E12 =>
  (spec_l3Left (ixor .i64 E10 E12) (16 : Int)).bind fun R14 =>
  (idx ((s.set a.toNat R5).set d.toNat R14) c).bind fun E19 =>
  (idx ((s.set a.toNat R5).set d.toNat R14) d).bind fun E21 =>
  (spec_l3Word (IntKind.i64.wrap (E19 + E21))).bind fun R23 =>
  (idx (((s.set a.toNat R5).set d.toNat R14).set c.toNat R23) b).bind fun E28 =>
  (idx (((s.set a.toNat R5).set d.toNat R14).set c.toNat R23) c).bind fun E30 =>
  (spec_l3Left (ixor .i64 E28 E30) (12 : Int)).bind fun R32 =>
  (idx ((((s.set a.toNat R5).set d.toNat R14).set c.toNat R23).set b.toNat R32) a).bind fun E37 =>
  (idx ((((s.set a.toNat R5).set d.toNat R14).set c.toNat R23).set b.toNat R32) b).bind fun E39 =>
  (spec_l3Word (IntKind.i64.wrap (E37 + E39))).bind fun R41 =>
  (idx (((((s.set a.toNat R5).set d.toNat R14).set c.toNat R23).set b.toNat R32).set a.toNat R41) d).bind fun E46 =>
  (idx (((((s.set a.toNat R5).set d.toNat R14).set c.toNat R23).set b.toNat R32).set a.toNat R41) a).bind fun E48 =>
  (spec_l3Left (ixor .i64 E46 E48) (8 : Int)).bind fun R50 =>
  (idx ((((((s.set a.toNat R5).set d.toNat R14).set c.toNat R23).set b.toNat R32).set a.toNat R41).set d.toNat R50) c).bind fun E55 =>
  (idx ((((((s.set a.toNat R5).set d.toNat R14).set c.toNat R23).set b.toNat R32).set a.toNat R41).set d.toNat R50) d).bind fun E57 =>
  (spec_l3Word (IntKind.i64.wrap (E55 + E57))).bind fun R59 =>
  (idx (((((((s.set a.toNat R5).set d.toNat R14).set c.toNat R23).set b.toNat R32).set a.toNat R41).set d.toNat R50).set c.toNat R59) b).bind fun E64 =>
  (idx (((((((s.set a.toNat R5).set d.toNat R14).set c.toNat R23).set b.toNat R32).set a.toNat R41).set d.toNat R50).set c.toNat R59) c).bind fun E66 =>
  (spec_l3Left (ixor .i64 E64 E66) (7 : Int)).bind fun R68 =>
  some ((((((((s.set a.toNat R5).set d.toNat R14).set c.toNat R23).set b.toNat R32).set a.toNat R41).set d.toNat R50).set c.toNat R59).set b.toNat R68)

theorem spec_l3Quarter_c {s : List Int} {a : Int} {b : Int} {c : Int} {d : Int} {U0 : Value} : Cn Tryz.prog 136 [U0, iv a, iv b, iv c, iv d] [.own U0 (lc s)] [] (spec_l3Quarter s a b c d) (fun _ (X : Value) => X) fun r X => [.own X (lc r)] := by
  unfold spec_l3Quarter
  refine Ci Tryz.func136 r r ?_
  rintro w S -
  refine Sr<|Qs 1 r<|Nx<|Sq<|Wi fun E1 H2=>Wi fun E3 H4=>Wi fun R5 H6=>Jw Unit [0,1,2,3,4] [] (fun _=>[]) (fun _=>[.own U0 (lc (s.set a.toNat R5))]) r1 r1 (?_) fun X9=>?_
  ·refine Dr [] r hMix<|Aq [0,1,2,3,6,7] [] r<|A2 4 8 (?_)<|?_
   ·refine Xy [] r (Ix ke56 (Oc 0 r) H2 r)<|A2 5 8 (Xy [] r (Le kk3 (Oc 0 r) H2 r)<|A1 8<|Xy [] r (Ix ke56 (Oc 0 r) H4 r)<|A1 9<|Xy [] r (Le kk3 (Oc 0 r) H4 r)<|Aq [10] [] r<|A1 11<|Xe [] r (Cl [] spec_l3Word_c H6 r r1) fun _=>A1 12<|Xy [] r (Ix ke56 (Oc 0 r) H2 r)<|A1 13<|Xu [] r (Se R5 0 kk3 H2 r (Cp r) r)<|Az<|Bg () [0])<|Xy [] r (Ix ke56 (Oc 0 r) H4 r)<|A2 5 9 (Xy [] r (Le kk3 (Oc 0 r) H2 r)<|A1 9<|Xy [] r (Le kk3 (Oc 0 r) H4 r)<|Aq [10] [] r<|A1 11<|Xe [] r (Cl [] spec_l3Word_c H6 r r1) fun _=>A1 12<|Xy [] r (Ix ke56 (Oc 0 r) H2 r)<|A1 13<|Xu [] r (Se R5 0 kk3 H2 r (Cp r) r)<|Az<|Bg () [0])<|Xy [] r (Le kk3 (Oc 0 r) H4 r)<|A1 5<|Xy [] r (Le kk3 (Oc 0 r) H2 r)<|Aq [10] [] r<|A1 11<|Xe [] r (Cl [] spec_l3Word_c H6 r r1) fun _=>?_
    exact A1 12<|Xy [] r (Ix ke56 (Oc 0 r) H2 r)<|A1 13<|Xu [] r (Se R5 0 kk3 H2 r (Cp r) r)<|Az<|Bg () [0]
   refine Xy [] r (Ix ke56 (Oc 0 r) H4 r)<|A2 4 9 (?_)<|?_
   ·exact Xy [] r (Ix ke56 (Oc 0 r) H2 r)<|A2 5 9 (Xy [] r (Le kk3 (Oc 0 r) H2 r)<|A1 9<|Xy [] r (Le kk3 (Oc 0 r) H4 r)<|Aq [10] [] r<|A1 11<|Xe [] r (Cl [] spec_l3Word_c H6 r r1) fun _=>A1 12<|Xy [] r (Ix ke56 (Oc 0 r) H2 r)<|A1 13<|Xu [] r (Se R5 0 kk3 H2 r (Cp r) r)<|Az<|Bg () [0])<|Xy [] r (Le kk3 (Oc 0 r) H4 r)<|A1 5<|Xy [] r (Le kk3 (Oc 0 r) H2 r)<|Aq [10] [] r<|A1 11<|Xe [] r (Cl [] spec_l3Word_c H6 r r1) fun _=>A1 12<|Xy [] r (Ix ke56 (Oc 0 r) H2 r)<|A1 13<|Xu [] r (Se R5 0 kk3 H2 r (Cp r) r)<|Az<|Bg () [0]
   exact Xy [] r (Le kk3 (Oc 0 r) H4 r)<|A1 4<|Xy [] r (Ix ke56 (Oc 0 r) H2 r)<|A1 5<|Xy [] r (Le kk3 (Oc 0 r) H2 r)<|Aq [10] [] r<|A1 11<|Xe [] r (Cl [] spec_l3Word_c H6 r r1) fun _=>A1 12<|Xy [] r (Ix ke56 (Oc 0 r) H2 r)<|A1 13<|Xu [] r (Se R5 0 kk3 H2 r (Cp r) r)<|Az<|Bg () [0]
  refine Ne<|Sq<|Wi fun E10 H11=>Wi fun E12 H13=>Wi fun R14 H15=>Jw Unit [0,1,2,3,4] [] (fun _=>[]) (fun _=>[.own U0 (lc ((s.set a.toNat R5).set d.toNat R14))]) r1 r1 (?_) fun X18=>?_
  ·refine Dr [] r hMix<|Aq [0,1,2,3,6,7] [] r<|A2 4 8 (?_)<|?_
   ·refine Xy [] r (Ix ke56 (Oc 0 r) H11 r)<|A2 5 8 (?_)<|?_
    ·exact Xy [] r (Le kk3 (Oc 0 r) H11 r)<|A1 8<|Xy [] r (Ix ke56 (Oc 0 r) H13 r)<|A1 9<|Xy [] r (Le kk3 (Oc 0 r) H13 r)<|Aq [10] [] r<|A1 11<|Xe [] r (Cl [] spec_l3Left_c H15 r r1) fun _=>A1 12<|Xy [] r (Ix ke56 (Oc 0 r) H11 r)<|A1 13<|Xu [] r (Se R14 0 kk3 H11 r (Cp r) r)<|Az<|Bg () [0]
    exact Xy [] r (Ix ke56 (Oc 0 r) H13 r)<|A2 5 9 (Xy [] r (Le kk3 (Oc 0 r) H11 r)<|A1 9<|Xy [] r (Le kk3 (Oc 0 r) H13 r)<|Aq [10] [] r<|A1 11<|Xe [] r (Cl [] spec_l3Left_c H15 r r1) fun _=>A1 12<|Xy [] r (Ix ke56 (Oc 0 r) H11 r)<|A1 13<|Xu [] r (Se R14 0 kk3 H11 r (Cp r) r)<|Az<|Bg () [0])<|Xy [] r (Le kk3 (Oc 0 r) H13 r)<|A1 5<|Xy [] r (Le kk3 (Oc 0 r) H11 r)<|Aq [10] [] r<|A1 11<|Xe [] r (Cl [] spec_l3Left_c H15 r r1) fun _=>A1 12<|Xy [] r (Ix ke56 (Oc 0 r) H11 r)<|A1 13<|Xu [] r (Se R14 0 kk3 H11 r (Cp r) r)<|Az<|Bg () [0]
   refine Xy [] r (Ix ke56 (Oc 0 r) H13 r)<|A2 4 9 (?_)<|?_
   ·exact Xy [] r (Ix ke56 (Oc 0 r) H11 r)<|A2 5 9 (Xy [] r (Le kk3 (Oc 0 r) H11 r)<|A1 9<|Xy [] r (Le kk3 (Oc 0 r) H13 r)<|Aq [10] [] r<|A1 11<|Xe [] r (Cl [] spec_l3Left_c H15 r r1) fun _=>A1 12<|Xy [] r (Ix ke56 (Oc 0 r) H11 r)<|A1 13<|Xu [] r (Se R14 0 kk3 H11 r (Cp r) r)<|Az<|Bg () [0])<|Xy [] r (Le kk3 (Oc 0 r) H13 r)<|A1 5<|Xy [] r (Le kk3 (Oc 0 r) H11 r)<|Aq [10] [] r<|A1 11<|Xe [] r (Cl [] spec_l3Left_c H15 r r1) fun _=>A1 12<|Xy [] r (Ix ke56 (Oc 0 r) H11 r)<|A1 13<|Xu [] r (Se R14 0 kk3 H11 r (Cp r) r)<|Az<|Bg () [0]
   exact Xy [] r (Le kk3 (Oc 0 r) H13 r)<|A1 4<|Xy [] r (Ix ke56 (Oc 0 r) H11 r)<|A1 5<|Xy [] r (Le kk3 (Oc 0 r) H11 r)<|Aq [10] [] r<|A1 11<|Xe [] r (Cl [] spec_l3Left_c H15 r r1) fun _=>A1 12<|Xy [] r (Ix ke56 (Oc 0 r) H11 r)<|A1 13<|Xu [] r (Se R14 0 kk3 H11 r (Cp r) r)<|Az<|Bg () [0]
  refine Ne<|Sq<|Wi fun E19 H20=>Wi fun E21 H22=>Wi fun R23 H24=>Jw Unit [0,1,2,3,4] [] (fun _=>[]) (fun _=>[.own U0 (lc (((s.set a.toNat R5).set d.toNat R14).set c.toNat R23))]) r1 r1 (?_) fun X27=>?_
  ·refine Dr [] r hMix<|Aq [0,1,2,3,6,7] [] r<|A2 4 8 (?_)<|?_
   ·refine Xy [] r (Ix ke56 (Oc 0 r) H20 r)<|A2 5 8 (?_)<|?_
    ·exact Xy [] r (Le kk3 (Oc 0 r) H20 r)<|A1 8<|Xy [] r (Ix ke56 (Oc 0 r) H22 r)<|A1 9<|Xy [] r (Le kk3 (Oc 0 r) H22 r)<|Aq [10] [] r<|A1 11<|Xe [] r (Cl [] spec_l3Word_c H24 r r1) fun _=>A1 12<|Xy [] r (Ix ke56 (Oc 0 r) H20 r)<|A1 13<|Xu [] r (Se R23 0 kk3 H20 r (Cp r) r)<|Az<|Bg () [0]
    exact Xy [] r (Ix ke56 (Oc 0 r) H22 r)<|A2 5 9 (Xy [] r (Le kk3 (Oc 0 r) H20 r)<|A1 9<|Xy [] r (Le kk3 (Oc 0 r) H22 r)<|Aq [10] [] r<|A1 11<|Xe [] r (Cl [] spec_l3Word_c H24 r r1) fun _=>A1 12<|Xy [] r (Ix ke56 (Oc 0 r) H20 r)<|A1 13<|Xu [] r (Se R23 0 kk3 H20 r (Cp r) r)<|Az<|Bg () [0])<|Xy [] r (Le kk3 (Oc 0 r) H22 r)<|A1 5<|Xy [] r (Le kk3 (Oc 0 r) H20 r)<|Aq [10] [] r<|A1 11<|Xe [] r (Cl [] spec_l3Word_c H24 r r1) fun _=>A1 12<|Xy [] r (Ix ke56 (Oc 0 r) H20 r)<|A1 13<|Xu [] r (Se R23 0 kk3 H20 r (Cp r) r)<|Az<|Bg () [0]
   refine Xy [] r (Ix ke56 (Oc 0 r) H22 r)<|A2 4 9 (?_)<|?_
   ·exact Xy [] r (Ix ke56 (Oc 0 r) H20 r)<|A2 5 9 (Xy [] r (Le kk3 (Oc 0 r) H20 r)<|A1 9<|Xy [] r (Le kk3 (Oc 0 r) H22 r)<|Aq [10] [] r<|A1 11<|Xe [] r (Cl [] spec_l3Word_c H24 r r1) fun _=>A1 12<|Xy [] r (Ix ke56 (Oc 0 r) H20 r)<|A1 13<|Xu [] r (Se R23 0 kk3 H20 r (Cp r) r)<|Az<|Bg () [0])<|Xy [] r (Le kk3 (Oc 0 r) H22 r)<|A1 5<|Xy [] r (Le kk3 (Oc 0 r) H20 r)<|Aq [10] [] r<|A1 11<|Xe [] r (Cl [] spec_l3Word_c H24 r r1) fun _=>A1 12<|Xy [] r (Ix ke56 (Oc 0 r) H20 r)<|A1 13<|Xu [] r (Se R23 0 kk3 H20 r (Cp r) r)<|Az<|Bg () [0]
   exact Xy [] r (Le kk3 (Oc 0 r) H22 r)<|A1 4<|Xy [] r (Ix ke56 (Oc 0 r) H20 r)<|A1 5<|Xy [] r (Le kk3 (Oc 0 r) H20 r)<|Aq [10] [] r<|A1 11<|Xe [] r (Cl [] spec_l3Word_c H24 r r1) fun _=>A1 12<|Xy [] r (Ix ke56 (Oc 0 r) H20 r)<|A1 13<|Xu [] r (Se R23 0 kk3 H20 r (Cp r) r)<|Az<|Bg () [0]
  refine Ne<|Sq<|Wi fun E28 H29=>Wi fun E30 H31=>Wi fun R32 H33=>Jw Unit [0,1,2,3,4] [] (fun _=>[]) (fun _=>[.own U0 (lc ((((s.set a.toNat R5).set d.toNat R14).set c.toNat R23).set b.toNat R32))]) r1 r1 (?_) fun X36=>?_
  ·refine Dr [] r hMix<|Aq [0,1,2,3,6,7] [] r<|A2 4 8 (?_)<|?_
   ·refine Xy [] r (Ix ke56 (Oc 0 r) H29 r)<|A2 5 8 (?_)<|?_
    ·exact Xy [] r (Le kk3 (Oc 0 r) H29 r)<|A1 8<|Xy [] r (Ix ke56 (Oc 0 r) H31 r)<|A1 9<|Xy [] r (Le kk3 (Oc 0 r) H31 r)<|Aq [10] [] r<|A1 11<|Xe [] r (Cl [] spec_l3Left_c H33 r r1) fun _=>A1 12<|Xy [] r (Ix ke56 (Oc 0 r) H29 r)<|A1 13<|Xu [] r (Se R32 0 kk3 H29 r (Cp r) r)<|Az<|Bg () [0]
    exact Xy [] r (Ix ke56 (Oc 0 r) H31 r)<|A2 5 9 (Xy [] r (Le kk3 (Oc 0 r) H29 r)<|A1 9<|Xy [] r (Le kk3 (Oc 0 r) H31 r)<|Aq [10] [] r<|A1 11<|Xe [] r (Cl [] spec_l3Left_c H33 r r1) fun _=>A1 12<|Xy [] r (Ix ke56 (Oc 0 r) H29 r)<|A1 13<|Xu [] r (Se R32 0 kk3 H29 r (Cp r) r)<|Az<|Bg () [0])<|Xy [] r (Le kk3 (Oc 0 r) H31 r)<|A1 5<|Xy [] r (Le kk3 (Oc 0 r) H29 r)<|Aq [10] [] r<|A1 11<|Xe [] r (Cl [] spec_l3Left_c H33 r r1) fun _=>A1 12<|Xy [] r (Ix ke56 (Oc 0 r) H29 r)<|A1 13<|Xu [] r (Se R32 0 kk3 H29 r (Cp r) r)<|Az<|Bg () [0]
   refine Xy [] r (Ix ke56 (Oc 0 r) H31 r)<|A2 4 9 (?_)<|?_
   ·exact Xy [] r (Ix ke56 (Oc 0 r) H29 r)<|A2 5 9 (Xy [] r (Le kk3 (Oc 0 r) H29 r)<|A1 9<|Xy [] r (Le kk3 (Oc 0 r) H31 r)<|Aq [10] [] r<|A1 11<|Xe [] r (Cl [] spec_l3Left_c H33 r r1) fun _=>A1 12<|Xy [] r (Ix ke56 (Oc 0 r) H29 r)<|A1 13<|Xu [] r (Se R32 0 kk3 H29 r (Cp r) r)<|Az<|Bg () [0])<|Xy [] r (Le kk3 (Oc 0 r) H31 r)<|A1 5<|Xy [] r (Le kk3 (Oc 0 r) H29 r)<|Aq [10] [] r<|A1 11<|Xe [] r (Cl [] spec_l3Left_c H33 r r1) fun _=>A1 12<|Xy [] r (Ix ke56 (Oc 0 r) H29 r)<|A1 13<|Xu [] r (Se R32 0 kk3 H29 r (Cp r) r)<|Az<|Bg () [0]
   exact Xy [] r (Le kk3 (Oc 0 r) H31 r)<|A1 4<|Xy [] r (Ix ke56 (Oc 0 r) H29 r)<|A1 5<|Xy [] r (Le kk3 (Oc 0 r) H29 r)<|Aq [10] [] r<|A1 11<|Xe [] r (Cl [] spec_l3Left_c H33 r r1) fun _=>A1 12<|Xy [] r (Ix ke56 (Oc 0 r) H29 r)<|A1 13<|Xu [] r (Se R32 0 kk3 H29 r (Cp r) r)<|Az<|Bg () [0]
  refine Ne<|Sq<|Wi fun E37 H38=>Wi fun E39 H40=>Wi fun R41 H42=>Jw Unit [0,1,2,3,4] [] (fun _=>[]) (fun _=>[.own U0 (lc (((((s.set a.toNat R5).set d.toNat R14).set c.toNat R23).set b.toNat R32).set a.toNat R41))]) r1 r1 (?_) fun X45=>?_
  ·refine Dr [] r hMix<|Aq [0,1,2,3,6,7] [] r<|A2 4 8 (?_)<|?_
   ·refine Xy [] r (Ix ke56 (Oc 0 r) H38 r)<|A2 5 8 (?_)<|?_
    ·exact Xy [] r (Le kk3 (Oc 0 r) H38 r)<|A1 8<|Xy [] r (Ix ke56 (Oc 0 r) H40 r)<|A1 9<|Xy [] r (Le kk3 (Oc 0 r) H40 r)<|Aq [10] [] r<|A1 11<|Xe [] r (Cl [] spec_l3Word_c H42 r r1) fun _=>A1 12<|Xy [] r (Ix ke56 (Oc 0 r) H38 r)<|A1 13<|Xu [] r (Se R41 0 kk3 H38 r (Cp r) r)<|Az<|Bg () [0]
    exact Xy [] r (Ix ke56 (Oc 0 r) H40 r)<|A2 5 9 (Xy [] r (Le kk3 (Oc 0 r) H38 r)<|A1 9<|Xy [] r (Le kk3 (Oc 0 r) H40 r)<|Aq [10] [] r<|A1 11<|Xe [] r (Cl [] spec_l3Word_c H42 r r1) fun _=>A1 12<|Xy [] r (Ix ke56 (Oc 0 r) H38 r)<|A1 13<|Xu [] r (Se R41 0 kk3 H38 r (Cp r) r)<|Az<|Bg () [0])<|Xy [] r (Le kk3 (Oc 0 r) H40 r)<|A1 5<|Xy [] r (Le kk3 (Oc 0 r) H38 r)<|Aq [10] [] r<|A1 11<|Xe [] r (Cl [] spec_l3Word_c H42 r r1) fun _=>A1 12<|Xy [] r (Ix ke56 (Oc 0 r) H38 r)<|A1 13<|Xu [] r (Se R41 0 kk3 H38 r (Cp r) r)<|Az<|Bg () [0]
   refine Xy [] r (Ix ke56 (Oc 0 r) H40 r)<|A2 4 9 (?_)<|?_
   ·exact Xy [] r (Ix ke56 (Oc 0 r) H38 r)<|A2 5 9 (Xy [] r (Le kk3 (Oc 0 r) H38 r)<|A1 9<|Xy [] r (Le kk3 (Oc 0 r) H40 r)<|Aq [10] [] r<|A1 11<|Xe [] r (Cl [] spec_l3Word_c H42 r r1) fun _=>A1 12<|Xy [] r (Ix ke56 (Oc 0 r) H38 r)<|A1 13<|Xu [] r (Se R41 0 kk3 H38 r (Cp r) r)<|Az<|Bg () [0])<|Xy [] r (Le kk3 (Oc 0 r) H40 r)<|A1 5<|Xy [] r (Le kk3 (Oc 0 r) H38 r)<|Aq [10] [] r<|A1 11<|Xe [] r (Cl [] spec_l3Word_c H42 r r1) fun _=>A1 12<|Xy [] r (Ix ke56 (Oc 0 r) H38 r)<|A1 13<|Xu [] r (Se R41 0 kk3 H38 r (Cp r) r)<|Az<|Bg () [0]
   exact Xy [] r (Le kk3 (Oc 0 r) H40 r)<|A1 4<|Xy [] r (Ix ke56 (Oc 0 r) H38 r)<|A1 5<|Xy [] r (Le kk3 (Oc 0 r) H38 r)<|Aq [10] [] r<|A1 11<|Xe [] r (Cl [] spec_l3Word_c H42 r r1) fun _=>A1 12<|Xy [] r (Ix ke56 (Oc 0 r) H38 r)<|A1 13<|Xu [] r (Se R41 0 kk3 H38 r (Cp r) r)<|Az<|Bg () [0]
  refine Ne<|Sq<|Wi fun E46 H47=>Wi fun E48 H49=>Wi fun R50 H51=>Jw Unit [0,2,3,4] [] (fun _=>[]) (fun _=>[.own U0 (lc ((((((s.set a.toNat R5).set d.toNat R14).set c.toNat R23).set b.toNat R32).set a.toNat R41).set d.toNat R50))]) r1 r1 (?_) fun X54=>?_
  ·refine Dr [] r hMix<|Aq [0,1,2,3,6,7] [] r<|A2 4 8 (?_)<|?_
   ·refine Xy [] r (Ix ke56 (Oc 0 r) H47 r)<|A2 5 8 (?_)<|?_
    ·exact Xy [] r (Le kk3 (Oc 0 r) H47 r)<|A1 8<|Xy [] r (Ix ke56 (Oc 0 r) H49 r)<|A1 9<|Xy [] r (Le kk3 (Oc 0 r) H49 r)<|Aq [10] [] r<|A1 11<|Xe [] r (Cl [] spec_l3Left_c H51 r r1) fun _=>A1 12<|Xy [] r (Ix ke56 (Oc 0 r) H47 r)<|A1 13<|Xu [] r (Se R50 0 kk3 H47 r (Cp r) r)<|Az<|Bg () [0]
    exact Xy [] r (Ix ke56 (Oc 0 r) H49 r)<|A2 5 9 (Xy [] r (Le kk3 (Oc 0 r) H47 r)<|A1 9<|Xy [] r (Le kk3 (Oc 0 r) H49 r)<|Aq [10] [] r<|A1 11<|Xe [] r (Cl [] spec_l3Left_c H51 r r1) fun _=>A1 12<|Xy [] r (Ix ke56 (Oc 0 r) H47 r)<|A1 13<|Xu [] r (Se R50 0 kk3 H47 r (Cp r) r)<|Az<|Bg () [0])<|Xy [] r (Le kk3 (Oc 0 r) H49 r)<|A1 5<|Xy [] r (Le kk3 (Oc 0 r) H47 r)<|Aq [10] [] r<|A1 11<|Xe [] r (Cl [] spec_l3Left_c H51 r r1) fun _=>A1 12<|Xy [] r (Ix ke56 (Oc 0 r) H47 r)<|A1 13<|Xu [] r (Se R50 0 kk3 H47 r (Cp r) r)<|Az<|Bg () [0]
   refine Xy [] r (Ix ke56 (Oc 0 r) H49 r)<|A2 4 9 (?_)<|?_
   ·exact Xy [] r (Ix ke56 (Oc 0 r) H47 r)<|A2 5 9 (Xy [] r (Le kk3 (Oc 0 r) H47 r)<|A1 9<|Xy [] r (Le kk3 (Oc 0 r) H49 r)<|Aq [10] [] r<|A1 11<|Xe [] r (Cl [] spec_l3Left_c H51 r r1) fun _=>A1 12<|Xy [] r (Ix ke56 (Oc 0 r) H47 r)<|A1 13<|Xu [] r (Se R50 0 kk3 H47 r (Cp r) r)<|Az<|Bg () [0])<|Xy [] r (Le kk3 (Oc 0 r) H49 r)<|A1 5<|Xy [] r (Le kk3 (Oc 0 r) H47 r)<|Aq [10] [] r<|A1 11<|Xe [] r (Cl [] spec_l3Left_c H51 r r1) fun _=>A1 12<|Xy [] r (Ix ke56 (Oc 0 r) H47 r)<|A1 13<|Xu [] r (Se R50 0 kk3 H47 r (Cp r) r)<|Az<|Bg () [0]
   exact Xy [] r (Le kk3 (Oc 0 r) H49 r)<|A1 4<|Xy [] r (Ix ke56 (Oc 0 r) H47 r)<|A1 5<|Xy [] r (Le kk3 (Oc 0 r) H47 r)<|Aq [10] [] r<|A1 11<|Xe [] r (Cl [] spec_l3Left_c H51 r r1) fun _=>A1 12<|Xy [] r (Ix ke56 (Oc 0 r) H47 r)<|A1 13<|Xu [] r (Se R50 0 kk3 H47 r (Cp r) r)<|Az<|Bg () [0]
  refine Ne<|Sq<|Wi fun E55 H56=>Wi fun E57 H58=>Wi fun R59 H60=>Jw Unit [0,2,3] [] (fun _=>[]) (fun _=>[.own U0 (lc (((((((s.set a.toNat R5).set d.toNat R14).set c.toNat R23).set b.toNat R32).set a.toNat R41).set d.toNat R50).set c.toNat R59))]) r1 r1 (?_) fun X63=>?_
  ·refine Dr [] r hMix<|Aq [0,1,2,3,6,7] [] r<|A2 4 8 (?_)<|?_
   ·refine Xy [] r (Ix ke56 (Oc 0 r) H56 r)<|A2 5 8 (?_)<|?_
    ·exact Xy [] r (Le kk3 (Oc 0 r) H56 r)<|A1 8<|Xy [] r (Ix ke56 (Oc 0 r) H58 r)<|A1 9<|Xy [] r (Le kk3 (Oc 0 r) H58 r)<|Aq [10] [] r<|A1 11<|Xe [] r (Cl [] spec_l3Word_c H60 r r1) fun _=>A1 12<|Xy [] r (Ix ke56 (Oc 0 r) H56 r)<|A1 13<|Xu [] r (Se R59 0 kk3 H56 r (Cp r) r)<|Az<|Bg () [0]
    exact Xy [] r (Ix ke56 (Oc 0 r) H58 r)<|A2 5 9 (Xy [] r (Le kk3 (Oc 0 r) H56 r)<|A1 9<|Xy [] r (Le kk3 (Oc 0 r) H58 r)<|Aq [10] [] r<|A1 11<|Xe [] r (Cl [] spec_l3Word_c H60 r r1) fun _=>A1 12<|Xy [] r (Ix ke56 (Oc 0 r) H56 r)<|A1 13<|Xu [] r (Se R59 0 kk3 H56 r (Cp r) r)<|Az<|Bg () [0])<|Xy [] r (Le kk3 (Oc 0 r) H58 r)<|A1 5<|Xy [] r (Le kk3 (Oc 0 r) H56 r)<|Aq [10] [] r<|A1 11<|Xe [] r (Cl [] spec_l3Word_c H60 r r1) fun _=>A1 12<|Xy [] r (Ix ke56 (Oc 0 r) H56 r)<|A1 13<|Xu [] r (Se R59 0 kk3 H56 r (Cp r) r)<|Az<|Bg () [0]
   refine Xy [] r (Ix ke56 (Oc 0 r) H58 r)<|A2 4 9 (?_)<|?_
   ·exact Xy [] r (Ix ke56 (Oc 0 r) H56 r)<|A2 5 9 (Xy [] r (Le kk3 (Oc 0 r) H56 r)<|A1 9<|Xy [] r (Le kk3 (Oc 0 r) H58 r)<|Aq [10] [] r<|A1 11<|Xe [] r (Cl [] spec_l3Word_c H60 r r1) fun _=>A1 12<|Xy [] r (Ix ke56 (Oc 0 r) H56 r)<|A1 13<|Xu [] r (Se R59 0 kk3 H56 r (Cp r) r)<|Az<|Bg () [0])<|Xy [] r (Le kk3 (Oc 0 r) H58 r)<|A1 5<|Xy [] r (Le kk3 (Oc 0 r) H56 r)<|Aq [10] [] r<|A1 11<|Xe [] r (Cl [] spec_l3Word_c H60 r r1) fun _=>A1 12<|Xy [] r (Ix ke56 (Oc 0 r) H56 r)<|A1 13<|Xu [] r (Se R59 0 kk3 H56 r (Cp r) r)<|Az<|Bg () [0]
   exact Xy [] r (Le kk3 (Oc 0 r) H58 r)<|A1 4<|Xy [] r (Ix ke56 (Oc 0 r) H56 r)<|A1 5<|Xy [] r (Le kk3 (Oc 0 r) H56 r)<|Aq [10] [] r<|A1 11<|Xe [] r (Cl [] spec_l3Word_c H60 r r1) fun _=>A1 12<|Xy [] r (Ix ke56 (Oc 0 r) H56 r)<|A1 13<|Xu [] r (Se R59 0 kk3 H56 r (Cp r) r)<|Az<|Bg () [0]
  refine Ne<|Sq<|Wi fun E64 H65=>Wi fun E66 H67=>Wi fun R68 H69=>Jw Unit [0] [] (fun _=>[]) (fun _=>[.own U0 (lc ((((((((s.set a.toNat R5).set d.toNat R14).set c.toNat R23).set b.toNat R32).set a.toNat R41).set d.toNat R50).set c.toNat R59).set b.toNat R68))]) r1 r1 (?_) fun X72=>?_
  ·refine Dr [] r hMix<|Aq [0,1,2,3,6,7] [] r<|A2 4 8 (?_)<|?_
   ·refine Xy [] r (Ix ke56 (Oc 0 r) H65 r)<|A2 5 8 (?_)<|?_
    ·exact Xy [] r (Le kk3 (Oc 0 r) H65 r)<|A1 8<|Xy [] r (Ix ke56 (Oc 0 r) H67 r)<|A1 9<|Xy [] r (Le kk3 (Oc 0 r) H67 r)<|Aq [10] [] r<|A1 11<|Xe [] r (Cl [] spec_l3Left_c H69 r r1) fun _=>A1 12<|Xy [] r (Ix ke56 (Oc 0 r) H65 r)<|A1 13<|Xu [] r (Se R68 0 kk3 H65 r (Cp r) r)<|Az<|Bg () [0]
    exact Xy [] r (Ix ke56 (Oc 0 r) H67 r)<|A2 5 9 (Xy [] r (Le kk3 (Oc 0 r) H65 r)<|A1 9<|Xy [] r (Le kk3 (Oc 0 r) H67 r)<|Aq [10] [] r<|A1 11<|Xe [] r (Cl [] spec_l3Left_c H69 r r1) fun _=>A1 12<|Xy [] r (Ix ke56 (Oc 0 r) H65 r)<|A1 13<|Xu [] r (Se R68 0 kk3 H65 r (Cp r) r)<|Az<|Bg () [0])<|Xy [] r (Le kk3 (Oc 0 r) H67 r)<|A1 5<|Xy [] r (Le kk3 (Oc 0 r) H65 r)<|Aq [10] [] r<|A1 11<|Xe [] r (Cl [] spec_l3Left_c H69 r r1) fun _=>A1 12<|Xy [] r (Ix ke56 (Oc 0 r) H65 r)<|A1 13<|Xu [] r (Se R68 0 kk3 H65 r (Cp r) r)<|Az<|Bg () [0]
   refine Xy [] r (Ix ke56 (Oc 0 r) H67 r)<|A2 4 9 (?_)<|?_
   ·exact Xy [] r (Ix ke56 (Oc 0 r) H65 r)<|A2 5 9 (Xy [] r (Le kk3 (Oc 0 r) H65 r)<|A1 9<|Xy [] r (Le kk3 (Oc 0 r) H67 r)<|Aq [10] [] r<|A1 11<|Xe [] r (Cl [] spec_l3Left_c H69 r r1) fun _=>A1 12<|Xy [] r (Ix ke56 (Oc 0 r) H65 r)<|A1 13<|Xu [] r (Se R68 0 kk3 H65 r (Cp r) r)<|Az<|Bg () [0])<|Xy [] r (Le kk3 (Oc 0 r) H67 r)<|A1 5<|Xy [] r (Le kk3 (Oc 0 r) H65 r)<|Aq [10] [] r<|A1 11<|Xe [] r (Cl [] spec_l3Left_c H69 r r1) fun _=>A1 12<|Xy [] r (Ix ke56 (Oc 0 r) H65 r)<|A1 13<|Xu [] r (Se R68 0 kk3 H65 r (Cp r) r)<|Az<|Bg () [0]
   exact Xy [] r (Le kk3 (Oc 0 r) H67 r)<|A1 4<|Xy [] r (Ix ke56 (Oc 0 r) H65 r)<|A1 5<|Xy [] r (Le kk3 (Oc 0 r) H65 r)<|Aq [10] [] r<|A1 11<|Xe [] r (Cl [] spec_l3Left_c H69 r r1) fun _=>A1 12<|Xy [] r (Ix ke56 (Oc 0 r) H65 r)<|A1 13<|Xu [] r (Se R68 0 kk3 H65 r (Cp r) r)<|Az<|Bg () [0]
  exact Ne<|Sr<|Qs 2 r<|Nx<|Wr<|Re U0 [0]

/-- loop.example/g00950/spec.l3Block -/
noncomputable def spec_l3Block (key : List UInt8) (counter : Int) (nonce : List UInt8) : Option (List UInt8) :=
  bindC (loopO (fun (S2 : Int × List Int) => if (decide (S2.1 < (8 : Int))) = true then ((spec_l3Little key (IntKind.i64.wrap ((4 : Int) * S2.1))).bind fun R7 =>
  (app 8 S2.2 ([R7])).bind fun E12 =>
  some (.go (IntKind.i64.wrap (S2.1 + (1 : Int)), E12)))
  else (some (.done (.go S2.2))))
  ((0 : Int), ([(1634760805 : Int), (857760878 : Int), (2036477234 : Int), (1797285236 : Int)])))
  (fun (T4 : List Int) => (spec_l3Little nonce (0 : Int)).bind fun R14 =>
  (spec_l3Little nonce (4 : Int)).bind fun R17 =>
  (spec_l3Little nonce (8 : Int)).bind fun R20 =>
  (app 8 T4 ([counter, R14, R17, R20])).bind fun E25 =>
  (app 8 ([] : List Int) E25).bind fun E29 =>
  bindC (loopO (fun (S31 : Int × List Int) => if (decide (S31.1 < (10 : Int))) = true then ((spec_l3Quarter S31.2 (0 : Int) (4 : Int) (8 : Int) (12 : Int)).bind fun R36 =>
  (spec_l3Quarter R36 (1 : Int) (5 : Int) (9 : Int) (13 : Int)).bind fun R39 =>
  (spec_l3Quarter R39 (2 : Int) (6 : Int) (10 : Int) (14 : Int)).bind fun R42 =>
  (spec_l3Quarter R42 (3 : Int) (7 : Int) (11 : Int) (15 : Int)).bind fun R45 =>
  (spec_l3Quarter R45 (0 : Int) (5 : Int) (10 : Int) (15 : Int)).bind fun R48 =>
  (spec_l3Quarter R48 (1 : Int) (6 : Int) (11 : Int) (12 : Int)).bind fun R51 =>
  (spec_l3Quarter R51 (2 : Int) (7 : Int) (8 : Int) (13 : Int)).bind fun R54 =>
  (spec_l3Quarter R54 (3 : Int) (4 : Int) (9 : Int) (14 : Int)).bind fun R57 =>
  some (.go (IntKind.i64.wrap (S31.1 + (1 : Int)), R57)))
  else (some (.done (.go S31.2))))
  ((0 : Int), E29))
  (fun (T33 : List Int) => bindC (loopO (fun (S61 : Int × List UInt8) => if (decide (S61.1 < (16 : Int))) = true then ((idx T33 S61.1).bind fun E66 =>
  (idx E25 S61.1).bind fun E68 =>
  (spec_l3Word (IntKind.i64.wrap (E66 + E68))).bind fun R70 =>
  (app 1 S61.2 ([toU8 (iand .i64 R70 (255 : Int)), toU8 (iand .i64 (ishr .i64 R70 (8 : Int)) (255 : Int)), toU8 (iand .i64 (ishr .i64 R70 (16 : Int)) (255 : Int)), toU8 (ishr .i64 R70 (24 : Int))])).bind fun E75 =>
  some (.go (IntKind.i64.wrap (S61.1 + (1 : Int)), E75)))
  else (some (.done (.go S61.2))))
  ((0 : Int), ([] : List UInt8)))
  (fun (T63 : List UInt8) => some T63)))

theorem spec_l3Block_c {key : List UInt8} {counter : Int} {nonce : List UInt8} : Cn Tryz.prog 117 [strV key, iv counter, strV nonce] [] [] (spec_l3Block key counter nonce) (fun r (_ : Unit) => strV r) fun _ _ => [] := by
  unfold spec_l3Block
  refine Ci Tryz.func117 r r ?_
  rintro w S -
  refine Sr<|Qs 1 r<|Nx<|Sr<|Fo (Bs [(1634760805 : Int), (857760878 : Int), (2036477234 : Int), (1797285236 : Int)] ke56 kz3) fun B1=>Qs 1 r<|Nx<|Sq<|Sr<|Qs 1 r<|Nx<|Jn Value [1,2] [] (fun _ X=>[(7, X)]) (fun T X=>[.own X (lc T)]) r2 r2 (?_) fun T4 X5=>?_
  ·exact Wb<|Lp Value [0,1,2] [] (fun T X=>[(7, X), (8, iv T.1)]) (fun T X=>[.own X (lc T.2)]) (.slice (some ⟨B1, 0, none⟩) 4 4) [0] r2 r2 fun S2 X3=>Sq<|Sr<|Qs 2 r<|Nx<|Wc r (fun H6=>Sn<|Sq<|Wb<|Rg<|Qs 4 r<|Bi fun R7 H8=>Fo (Cl [] spec_l3Little_c H8 r r1) fun _=>Fo (Bs [R7] ke56 kz3) fun B10=>Bi fun E12 H13=>Fo (Ap [1] H13 ke56 kz3 r (Oc 0 r)) fun V11=>Qs 1 r<|Nl<|Bn<|Ne<|Rg<|Qs 3 r<|Nl<|Lg V11 [0]) fun H6=>Wx<|Tx<|Ex<|Be<|Jg X3 [0]
  refine Ne<|Sr<|Qs 3 r<|Bi fun R14 H15=>Fo (Cl [] spec_l3Little_c H15 r r1) fun _=>Qs 1 r<|Bi fun R17 H18=>Fo (Cl [] spec_l3Little_c H18 r r1) fun _=>Qs 1 r<|Bi fun R20 H21=>Fo (Cl [] spec_l3Little_c H21 r r1) fun _=>Fo (Bs [counter, R14, R17, R20] ke56 kz3) fun B23=>Bi fun E25 H26=>Fo (Ap [1] H26 ke56 kz3 r (Oc 0 r)) fun V24=>Qs 1 r<|Nx<|Sr<|Fo (Bs ([] : List Int) ke56 kz3) fun B27=>Qs 1 r<|Bi fun E29 H30=>Fo (Ap [0] H30 ke56 kz3 r (Oc 1 r)) fun V28=>Qs 1 r<|Nx<|Sq<|Sr<|Qs 1 r<|Nx<|Jn Value [7] [1] (fun _ X=>[(9, X)]) (fun T X=>[.own X (lc T)]) r2 r2 (?_) fun T33 X34=>?_
  ·refine Wb<|Lp Value [7] [1] (fun T X=>[(9, X), (10, iv T.1)]) (fun T X=>[.own X (lc T.2)]) V28 [1,0] r2 r2 fun S31 X32=>Sq<|Sr<|Qs 2 r<|Nx<|Wc r (fun H35=>?_) fun H35=>?_
   ·refine Sn<|Sq<|Wb<|Sr<|Qs 1 r<|Bi fun R36 H37=>Fo (Cl [1] spec_l3Quarter_c H37 r r1) fun Y38=>Qs 1 r<|Nx<|Sr<|Qs 1 r<|Bi fun R39 H40=>Fo (Cl [0] spec_l3Quarter_c H40 r r1) fun Y41=>Qs 1 r<|Nx<|Sr<|Qs 1 r<|Bi fun R42 H43=>Fo (Cl [0] spec_l3Quarter_c H43 r r1) fun Y44=>Qs 1 r<|Nx<|Sr<|Qs 1 r<|Bi fun R45 H46=>Fo (Cl [0] spec_l3Quarter_c H46 r r1) fun Y47=>Qs 1 r<|Nx<|Sr<|Qs 1 r<|Bi fun R48 H49=>Fo (Cl [0] spec_l3Quarter_c H49 r r1) fun Y50=>Qs 1 r<|Nx<|Sr<|Qs 1 r<|Bi fun R51 H52=>Fo (Cl [0] spec_l3Quarter_c H52 r r1) fun Y53=>?_
    exact Qs 1 r<|Nx<|Sr<|Qs 1 r<|Bi fun R54 H55=>Fo (Cl [0] spec_l3Quarter_c H55 r r1) fun Y56=>Qs 1 r<|Nx<|Rg<|Qs 1 r<|Bi fun R57 H58=>Fo (Cl [0] spec_l3Quarter_c H58 r r1) fun Y59=>Qs 1 r<|Nl<|Bn<|Ne<|Rg<|Qs 3 r<|Nl<|Lg Y59 [1,0]
   exact Wx<|Tx<|Ex<|Be<|Jg X32 [0,0]
  refine Ne<|Sr<|Fo (Bs ([] : List UInt8) ke147 kz5) fun B60=>Qs 1 r<|Nx<|Sq<|Sr<|Qs 1 r<|Nx<|Jn Value [] [] (fun _ X=>[(11, X)]) (fun T X=>[.own X (lc T)]) r2 r2 (?_) fun T63 X64=>?_
  ·refine Wb<|Lp Value [7,9] [1,1] (fun T X=>[(11, X), (12, iv T.1)]) (fun T X=>[.own X (lc T.2)]) (.slice (some ⟨B60, 0, none⟩) 0 0) [1,1,0] r2 r2 fun S61 X62=>Sq<|Sr<|Qs 2 r<|Nx<|Wc r (fun H65=>?_) fun H65=>?_
   ·refine Sn<|Sq<|Wb<|Sq<|Dr [0,0,0] r hMix<|Aq [0,1] [0,0,0] r<|Ai fun E66 H67=>Ay 2 [0,0,0] r (Ix ke56 (Oc 1 r) H67 r)<|Ay 3 [0,0,0] r (Le kk3 (Oc 1 r) H67 r)<|Aq [4,5] [0,0,0] r<|Ai fun E68 H69=>Ay 6 [0,0,0] r (Ix ke56 (Oc 0 r) H69 r)<|Ay 7 [0,0,0] r (Le kk3 (Oc 0 r) H69 r)<|Aq [8] [0,0,0] r<|Ai fun R70 H71=>A1 9<|Xe [0,0,0] r (Cl [] spec_l3Word_c H71 r r1) fun _=>Aq [10] [0,0,0] r<|Az<|Ne<|Rg<|Qs 3 r<|Yo (Y.conv8 ki3 ki5 r)<|Qs 1 r<|Yo (Y.shr (by decide) r r)<|Qs 1 r<|Yo (Y.conv8 ki3 ki5 r)<|Qs 1 r<|Yo (Y.shr (by decide) r r)<|Qs 1 r<|Yo (Y.conv8 ki3 ki5 r)<|Qs 1 r<|Yo (Y.shr (by decide) r r)<|Yo (Y.conv8 ki3 ki5 r)<|Fo (Bs [toU8 (iand .i64 R70 (255 : Int)), toU8 (iand .i64 (ishr .i64 R70 (8 : Int)) (255 : Int)), toU8 (iand .i64 (ishr .i64 R70 (16 : Int)) (255 : Int)), toU8 (ishr .i64 R70 (24 : Int))] ke147 kz5) fun B73=>?_
    exact Bi fun E75 H76=>Fo (Ap [3] H76 ke147 kz5 r (Oc 0 r)) fun V74=>Qs 1 r<|Nl<|Bn<|Ne<|Rg<|Qs 3 r<|Nl<|Lg V74 [2,2,0]
   exact Wx<|Tx<|Ex<|Be<|Jg X62 [2]
  exact Ne<|Sr<|Qs 1 r<|Yo (Y.toStr ke147 ki5 ks9 (Oc 0 r) r)<|Qs 1 r<|Nx<|Wr<|Re () []

/-- loop.example/g00950/spec.ChaBlock -/
noncomputable def spec_ChaBlock (key : List UInt8) (counter : Int) (nonce : List UInt8) : Option (List UInt8) :=
  (if (!(decide (((key.length : Nat) : Int) = (32 : Int)))) = true then (some true)
  else (if (!(decide (((nonce.length : Nat) : Int) = (12 : Int)))) = true then (some true)
  else ((spec_l1In counter (0 : Int) (4294967295 : Int)).bind fun R5 =>
  some (!R5)))).bind (fun (T1 : Bool) =>
  if T1 = true then (some ([]))
  else ((spec_l3Block key counter nonce).bind fun R9 =>
  some R9))

theorem spec_ChaBlock_c {key : List UInt8} {counter : Int} {nonce : List UInt8} : Cn Tryz.prog 91 [strV key, iv counter, strV nonce] [] [] (spec_ChaBlock key counter nonce) (fun r (_ : Unit) => strV r) fun _ _ => [] := by
  unfold spec_ChaBlock
  refine Ci Tryz.func91 r r ?_
  rintro w S -
  refine Sr<|Qs 1 r<|Nx<|Sq<|Sq<|Jv [0,1,2] (fun T=>[(19, .bool T)]) r1 (?_) fun T1=>?_
  ·exact Rg<|Qs 1 r<|Yo (Y.slen ks9 r)<|Qs 2 r<|It (fun H3=>Of 3 (beq_tf H3) r r<|Yo (Pt H3 r)<|Qs 1 r<|Of 3 r r r<|Yo (Pt r r)<|Nl<|Bg () []) fun H3=>Qg 1 (beq_ff H3) r r<|Yg (gdA (beq_ff H3)) (Y.slen ks9 r)<|Qg 1 (beq_ff H3) r r<|Yo (Pf H3 r)<|Qs 1 r<|It (fun H4=>Of 3 (beq_tf H4) r r<|Yo (Pt H4 r)<|Nl<|Bg () []) fun H4=>Qg 1 (beq_ff H4) r r<|Bi fun R5 H6=>Fg (gdA (beq_ff H4)) (Cl [] spec_l1In_c H6 r r1) fun _=>Qg 1 (beq_ff H4) r r<|Yo (Pf H4 r)<|Nl<|Bg () []
  exact Ne<|Wc r (fun H8=>Sr<|Qs 1 r<|Nx<|Wr<|Tr<|Re () []) fun H8=>Sn<|Sr<|Qs 3 r<|Bi fun R9 H10=>Fo (Cl [] spec_l3Block_c H10 r r1) fun _=>Qs 1 r<|Nx<|Wr<|Re () []

/-- loop.example/g00950/spec.ChaStream -/
noncomputable def spec_ChaStream (key : List UInt8) (counter : Int) (nonce : List UInt8) (text : List UInt8) : Option (List UInt8) :=
  (spec_ChaBlock key counter nonce).bind fun R2 =>
  if (decide (R2 = ([]))) = true then (some ([]))
  else (bindC (loopO (fun (S6 : Int × List UInt8) => if (decide (S6.1 < ((text.length : Nat) : Int))) = true then ((spec_ChaBlock key (IntKind.i64.wrap (counter + (IntKind.i64.wrap (Int.tdiv S6.1 (64 : Int))))) nonce).bind fun R11 =>
  if (decide (R11 = ([]))) = true then (some (.done (.done ([]))))
  else (bindC (loopO (fun (S15 : Int × List UInt8) => (if (decide (S15.1 < ((text.length : Nat) : Int))) = true then (some (decide (S15.1 < IntKind.i64.wrap (S6.1 + (64 : Int)))))
  else (some false)).bind (fun (T19 : Bool) =>
  if T19 = true then ((sidx text S15.1).bind fun E23 =>
  (sidx R11 (IntKind.i64.wrap (S15.1 - S6.1))).bind fun E25 =>
  (app 1 S15.2 ([(E23 ^^^ E25)])).bind fun E29 =>
  some (.go (IntKind.i64.wrap (S15.1 + (1 : Int)), E29)))
  else (some (.done (.go S15.2)))))
  (S6.1, S6.2))
  (fun (T17 : List UInt8) => some (.go (IntKind.i64.wrap (S6.1 + (64 : Int)), T17)))))
  else (some (.done (.go S6.2))))
  ((0 : Int), ([] : List UInt8)))
  (fun (T8 : List UInt8) => some T8))

theorem spec_ChaStream_c {key : List UInt8} {counter : Int} {nonce : List UInt8} {text : List UInt8} : Cn Tryz.prog 67 [strV key, iv counter, strV nonce, strV text] [] [] (spec_ChaStream key counter nonce text) (fun r (_ : Unit) => strV r) fun _ _ => [] := by
  unfold spec_ChaStream
  refine Ci Tryz.func67 r r ?_
  rintro w S -
  refine Sr<|Qs 1 r<|Nx<|Sr<|Fo (Bs ([] : List UInt8) ke147 kz5) fun B1=>Qs 1 r<|Nx<|Sq<|Sr<|Qs 3 r<|Bi fun R2 H3=>Fo (Cl [] spec_ChaBlock_c H3 r r1) fun _=>Qs 1 r<|Nx<|Wc r (fun H5=>Sr<|Qs 1 r<|Nx<|Wr<|Tr<|Re () []) fun H5=>Sn<|Sq<|Sr<|Qs 1 r<|Nx<|Jn Value [] [] (fun _ X=>[(9, X)]) (fun T X=>[.own X (lc T)]) r2 r2 (?_) fun T8 X9=>?_
  ·refine Wb<|Lp Value [0,1,2,3] [] (fun T X=>[(9, X), (10, iv T.1)]) (fun T X=>[.own X (lc T.2)]) (.slice (some ⟨B1, 0, none⟩) 0 0) [0] r2 r2 fun S6 X7=>Sq<|Sr<|Qs 2 r<|Yo (Y.slen ks9 r)<|Qs 1 r<|Nx<|Wc r (fun H10=>?_) fun H10=>?_
   ·refine Sn<|Sq<|Wb<|Sr<|Qs 3 r<|Yo (Y.quo (by decide) r r)<|Qs 2 r<|Bi fun R11 H12=>Fo (Cl [] spec_ChaBlock_c H12 r r1) fun _=>Qs 1 r<|Nx<|Sq<|Sr<|Qs 2 r<|Nx<|Wc r (fun H14=>Sr<|Qs 1 r<|Nx<|Wr<|Tr<|Br<|Tr<|Er<|Br<|Jd<|Tr<|Re () []) fun H14=>Sn<|Sr<|Qs 2 r<|Nx<|Jn Value [0,1,2,3,10] [] (fun _ X=>[(9, X)]) (fun T X=>[.own X (lc T)]) r2 r2 (?_) fun T17 X18=>?_
    ·refine Wb<|Lp Value [0,1,2,3,10,11] [] (fun T X=>[(9, X), (12, iv T.1)]) (fun T X=>[.own X (lc T.2)]) X7 [0] r2 r2 fun S15 X16=>Sq<|Sq<|Jv [0,1,2,3,9,10,11,12] (fun T=>[(44, .bool T)]) r1 (Rg<|Qs 2 r<|Yo (Y.slen ks9 r)<|Qs 2 r<|It (fun H21=>Qg 4 (beq_tt H21) r r<|Yo (Pt H21 r)<|Nl<|Bg () [0]) fun H21=>Of 4 (beq_ft H21) r r<|Yo (Pf H21 r)<|Nl<|Bg () [0]) fun T19=>Ne<|Wc r (fun H22=>?_) fun H22=>?_
     ·exact Sn<|Sq<|Wb<|Dr [] r hMix<|Aq [0,1,2] [] r<|Ai fun E23 H24=>Ay 3 [] r (Y.sidx H24 ks9 r r)<|Aq [4,5,6,7] [] r<|Ai fun E25 H26=>Ay 8 [] r (Y.sidx H26 ks9 r r)<|Ay 9 [] r (Y.xor8 r r)<|A1 10<|Xe [] r (Bs [(E23 ^^^ E25)] ke147 kz5) fun B27=>Ai fun E29 H30=>A1 11<|Xe [] r (Ap [1] H30 ke147 kz5 r (Oc 0 r)) fun V28=>Aq [12] [] r<|Az<|Bn<|Ne<|Rg<|Qs 3 r<|Nl<|Lg V28 [0]
     exact Wx<|Tx<|Ex<|Be<|Jg X16 [0]
    exact Bn<|Ne<|Rg<|Qs 3 r<|Nl<|Lg X18 [0]
   exact Wx<|Tx<|Ex<|Be<|Jg X7 [0]
  exact Ne<|Sr<|Qs 1 r<|Yo (Y.toStr ke147 ki5 ks9 (Oc 0 r) r)<|Qs 1 r<|Nx<|Wr<|Re () []

/-- loop.example/g00950/spec.Var -/
noncomputable def spec_Var (n : Int) : Option (List UInt8) :=
  (spec_l1In n (0 : Int) (562949953421311 : Int)).bind fun R1 =>
  if (!R1) = true then (some ([]))
  else (bindC (loopO (fun (S6 : Int × List UInt8) => if (decide (S6.1 ≥ (128 : Int))) = true then ((app 1 S6.2 ([toU8 (IntKind.i64.wrap ((128 : Int) + (Int.tmod S6.1 (128 : Int))))])).bind fun E13 =>
  some (.go (IntKind.i64.wrap (Int.tdiv S6.1 (128 : Int)), E13)))
  else (some (.done (.go (S6.1, S6.2)))))
  (n, ([] : List UInt8)))
  (fun (T8 : Int × List UInt8) => (app 1 T8.2 ([toU8 T8.1])).bind fun E17 =>
  some E17))

theorem spec_Var_c {n : Int} : Cn Tryz.prog 115 [iv n] [] [] (spec_Var n) (fun r (_ : Unit) => strV r) fun _ _ => [] := by
  unfold spec_Var
  refine Ci Tryz.func115 r r ?_
  rintro w S -
  refine Sr<|Qs 1 r<|Nx<|Sq<|Sr<|Qs 1 r<|Bi fun R1 H2=>Fo (Cl [] spec_l1In_c H2 r r1) fun _=>Qs 1 r<|Nx<|Wc r (fun H4=>Sr<|Qs 1 r<|Nx<|Wr<|Tr<|Re () []) fun H4=>Sn<|Sr<|Fo (Bs ([] : List UInt8) ke147 kz5) fun B5=>Qs 1 r<|Nx<|Sq<|Jn Value [] [] (fun T X=>[(0, iv T.1), (3, X)]) (fun T X=>[.own X (lc T.2)]) r2 r2 (?_) fun T8 X9=>?_
  ·refine Wb<|Lp Value [] [] (fun T X=>[(0, iv T.1), (3, X)]) (fun T X=>[.own X (lc T.2)]) (.slice (some ⟨B5, 0, none⟩) 0 0) [0] r2 r2 fun S6 X7=>Sq<|Sr<|Qs 2 r<|Nx<|Wc r (fun H10=>?_) fun H10=>?_
   ·exact Sn<|Wb<|Sr<|Qs 2 r<|Yo (Y.rem (by decide) r r)<|Qs 1 r<|Yo (Y.conv8 ki3 ki5 r)<|Fo (Bs [toU8 (IntKind.i64.wrap ((128 : Int) + (Int.tmod S6.1 (128 : Int))))] ke147 kz5) fun B11=>Bi fun E13 H14=>Fo (Ap [1] H14 ke147 kz5 r (Oc 0 r)) fun V12=>Qs 1 r<|Nx<|Rg<|Qs 1 r<|Yo (Y.quo (by decide) r r)<|Qs 1 r<|Nl<|Bn<|Lg V12 [0]
   exact Wx<|Tx<|Ex<|Be<|Jg X7 [0]
  exact Ne<|Sr<|Qs 2 r<|Yo (Y.conv8 ki3 ki5 r)<|Fo (Bs [toU8 T8.1] ke147 kz5) fun B15=>Bi fun E17 H18=>Fo (Ap [1] H18 ke147 kz5 r (Oc 0 r)) fun V16=>Yo (Y.toStr ke147 ki5 ks9 (Oc 0 r) r)<|Qs 1 r<|Nx<|Wr<|Re () []

/-- loop.example/g00950/spec.ReadVar -/
noncomputable def spec_ReadVar (s : List UInt8) : Option (Int × Int) :=
  bindC (loopO (fun (S1 : Int) => (if (decide (S1 ≤ (7 : Int))) = true then (some (decide (S1 ≤ ((s.length : Nat) : Int))))
  else (some false)).bind (fun (T5 : Bool) =>
  if T5 = true then (bindC (loopO (fun (S9 : Int × Int) => if (decide (S9.2 ≥ (0 : Int))) = true then ((sidx s S9.2).bind fun E14 =>
  some (.go (IntKind.i64.wrap (IntKind.i64.wrap (S9.1 * (128 : Int)) + (Int.tmod (IntKind.i64.wrap ((E14.toNat : Nat) : Int)) (128 : Int))), IntKind.i64.wrap (S9.2 - (1 : Int)))))
  else (some (.done (.go S9.1))))
  ((0 : Int), IntKind.i64.wrap (S1 - (1 : Int))))
  (fun (T11 : Int) => (ssub s 0 S1).bind fun E16 =>
  (spec_Var T11).bind fun R18 =>
  if (decide (R18 = E16)) = true then (some (.done (.done (T11, S1))))
  else (some (.go (IntKind.i64.wrap (S1 + (1 : Int)))))))
  else (some (.done (.go ())))))
  (1 : Int))
  (fun (T3 : Unit) => some ((0 : Int), (0 : Int)))

theorem spec_ReadVar_c {s : List UInt8} : Cn Tryz.prog 114 [strV s] [] [] (spec_ReadVar s) (fun r (_ : Unit) => .tuple #[iv r.1, iv r.2]) fun _ _ => [] := by
  unfold spec_ReadVar
  refine Ci Tryz.func114 r r ?_
  rintro w S -
  refine Sr<|Qs 2 r<|Nx<|Sq<|Sr<|Qs 1 r<|Nx<|Ju [] (fun _=>[]) r1 (?_) fun T3=>?_
  ·refine Wb<|Lu [0] (fun T=>[(4, iv T)]) r1 fun S1=>Sq<|Sq<|Jv [0,4] (fun T=>[(14, .bool T)]) r1 (Rg<|Qs 3 r<|It (fun H7=>Qg 2 (beq_tt H7) r r<|Yg (gdA (beq_tt H7)) (Y.slen ks9 r)<|Qg 1 (beq_tt H7) r r<|Yo (Pt H7 r)<|Nl<|Bg () []) fun H7=>Of 4 (beq_ft H7) r r<|Yo (Pf H7 r)<|Nl<|Bg () []) fun T5=>Ne<|Wc r (fun H8=>?_) fun H8=>?_
   ·refine Sn<|Sq<|Wb<|Sr<|Qs 1 r<|Nx<|Sq<|Sr<|Qs 3 r<|Nx<|Ju [0,4] (fun T=>[(5, iv T)]) r1 (?_) fun T11=>?_
    ·exact Wb<|Lu [0,4] (fun T=>[(5, iv T.1), (6, iv T.2)]) r1 fun S9=>Sq<|Sr<|Qs 2 r<|Nx<|Wc r (fun H13=>Sn<|Sq<|Wb<|Rg<|Qs 4 r<|Bi fun E14 H15=>Yo (Y.sidx H15 ks9 r r)<|Yo (Y.conv ki5 ki3 r)<|Yo (Y.rem (by decide) r r)<|Qs 2 r<|Nl<|Bn<|Ne<|Rg<|Qs 3 r<|Nl<|Lg () []) fun H13=>Wx<|Tx<|Ex<|Be<|Jg () []
    exact Ne<|Sq<|Dr [] r hMix<|Aq [0,2,3] [] r<|Ai fun E16 H17=>Ay 4 [] r (Y.ssub_to H17 ks9 r r)<|Ai fun R18 H19=>A1 1<|Xe [] r (Cl [] spec_Var_c H19 r r1) fun _=>Aq [5] [] r<|Az<|Ne<|Wc r (fun H21=>Sr<|Qs 4 r<|Nx<|Wr<|Br<|Tr<|Er<|Br<|Jd<|Tr<|Re () []) fun H21=>Sk<|Bn<|Ne<|Rg<|Qs 3 r<|Nl<|Lg () []
   exact Wx<|Tx<|Ex<|Be<|Jg () []
  exact Ne<|Sr<|Qs 2 r<|Nx<|Wr<|Re () []

/-- loop.example/g00950/spec.l6Vars -/
noncomputable def spec_l6Vars (s : List UInt8) (at_ : Int) (n : Int) : Option (List Int × Int) :=
  bindC (loopO (fun (S2 : Int × Int × List Int) => if (decide (S2.2.1 < n)) = true then ((if (decide (S2.1 < (0 : Int))) = true then (some true)
  else (some (decide (S2.1 > ((s.length : Nat) : Int))))).bind (fun (T7 : Bool) =>
  if T7 = true then (some (.done (.done (S2.2.2, (-1 : Int)))))
  else ((ssub s S2.1 (s.length : Int)).bind fun E11 =>
  (spec_ReadVar E11).bind fun R13 =>
  if (decide (R13.2 = (0 : Int))) = true then (some (.done (.done (S2.2.2, (-1 : Int)))))
  else ((app 8 S2.2.2 ([R13.1])).bind fun E19 =>
  some (.go (IntKind.i64.wrap (S2.1 + R13.2), IntKind.i64.wrap (S2.2.1 + (1 : Int)), E19))))))
  else (some (.done (.go (S2.1, S2.2.2)))))
  (at_, (0 : Int), ([] : List Int)))
  (fun (T4 : Int × List Int) => some (T4.2, T4.1))

theorem spec_l6Vars_c {s : List UInt8} {at_ : Int} {n : Int} : Cn Tryz.prog 88 [strV s, iv at_, iv n] [] [] (spec_l6Vars s at_ n) (fun r (X : Value) => .tuple #[X, iv r.2]) fun r X => [.own X (lc r.1)] := by
  unfold spec_l6Vars
  refine Ci Tryz.func88 r r ?_
  rintro w S -
  refine Sr<|Qs 2 r<|Nx<|Sr<|Fo (Bs ([] : List Int) ke56 kz3) fun B1=>Qs 1 r<|Nx<|Sq<|Sr<|Qs 1 r<|Nx<|Jn Value [] [] (fun T X=>[(1, iv T.1), (8, X)]) (fun T X=>[.own X (lc T.2)]) r2 r2 (?_) fun T4 X5=>?_
  ·refine Wb<|Lp Value [0,2] [] (fun T X=>[(1, iv T.1), (8, X), (9, iv T.2.1)]) (fun T X=>[.own X (lc T.2.2)]) (.slice (some ⟨B1, 0, none⟩) 0 0) [0] r2 r2 fun S2 X3=>Sq<|Sr<|Qs 3 r<|Nx<|Wc r (fun H6=>?_) fun H6=>?_
   ·refine Sn<|Sq<|Wb<|Sq<|Sq<|Jv [0,1,2,8,9] (fun T=>[(25, .bool T)]) r1 (Rg<|Qs 3 r<|It (fun H9=>Of 4 (beq_tf H9) r r<|Yo (Pt H9 r)<|Nl<|Bg () [0]) fun H9=>Qg 2 (beq_ff H9) r r<|Yg (gdA (beq_ff H9)) (Y.slen ks9 r)<|Qg 1 (beq_ff H9) r r<|Yo (Pf H9 r)<|Nl<|Bg () [0]) fun T7=>Ne<|Wc r (fun H10=>Sr<|Qs 3 r<|Nx<|Wr<|Tr<|Br<|Tr<|Er<|Br<|Jd<|Tr<|Re X3 [0]) fun H10=>Sn<|Sr<|Qs 2 r<|Bi fun E11 H12=>Yo (Y.ssub_from H12 ks9 r r)<|Bi fun R13 H14=>Fo (Cl [] spec_ReadVar_c H14 r r1) fun _=>Qs 5 r<|Nx<|Sq<|Sr<|Qs 2 r<|Nx<|Wc r (fun H16=>Sr<|Qs 3 r<|Nx<|Wr<|Tr<|Br<|Tr<|Er<|Br<|Jd<|Tr<|Re X3 [0]) fun H16=>?_
    exact Sn<|Sr<|Qs 2 r<|Fo (Bs [R13.1] ke56 kz3) fun B17=>Bi fun E19 H20=>Fo (Ap [1] H20 ke56 kz3 r (Oc 0 r)) fun V18=>Qs 1 r<|Nx<|Rg<|Qs 4 r<|Nl<|Bn<|Ne<|Rg<|Qs 3 r<|Nl<|Lg V18 [0]
   exact Wx<|Tx<|Ex<|Be<|Jg X3 [0]
  exact Ne<|Sr<|Qs 4 r<|Nx<|Wr<|Re X5 [0]

/-- loop.example/g00950/spec.l6Take -/
noncomputable def spec_l6Take (s : List UInt8) (at_ : Int) : Option (List UInt8 × Int) :=
  (spec_l6Vars s at_ (1 : Int)).bind fun R1 =>
  (if (decide (R1.2 < (0 : Int))) = true then (some true)
  else ((idx R1.1 (0 : Int)).bind fun E7 =>
  some (decide (E7 > IntKind.i64.wrap (((s.length : Nat) : Int) - R1.2))))).bind (fun (T4 : Bool) =>
  if T4 = true then (some ([], (-1 : Int)))
  else ((idx R1.1 (0 : Int)).bind fun E10 =>
  (ssub s R1.2 (IntKind.i64.wrap (R1.2 + E10))).bind fun E12 =>
  some (E12, IntKind.i64.wrap (R1.2 + E10))))

theorem spec_l6Take_c {s : List UInt8} {at_ : Int} : Cn Tryz.prog 89 [strV s, iv at_] [] [] (spec_l6Take s at_) (fun r (_ : Unit) => .tuple #[strV r.1, iv r.2]) fun _ _ => [] := by
  unfold spec_l6Take
  refine Ci Tryz.func89 r r ?_
  rintro w S -
  refine Sr<|Qs 2 r<|Nx<|Sr<|Qs 2 r<|Bi fun R1 H2=>Fo (Cl [] spec_l6Vars_c H2 r r1) fun Y3=>Qs 5 r<|Nx<|Sq<|Sq<|Jv [0,6,7] (fun T=>[(25, .bool T)]) r1 (?_) fun T4=>?_
  ·exact Rg<|Qs 3 r<|It (fun H6=>Of 8 (beq_tf H6) r r<|Yo (Pt H6 r)<|Nl<|Bg () [0]) fun H6=>Qg 1 (beq_ff H6) r r<|Bi fun E7 H8=>Yg (gdA (beq_ff H6)) (Ix ke56 (Oc 0 r) H8 r)<|Yg (gdA (beq_ff H6)) (Le kk3 (Oc 0 r) H8 r)<|Qg 1 (beq_ff H6) r r<|Yg (gdA (beq_ff H6)) (Y.slen ks9 r)<|Qg 3 (beq_ff H6) r r<|Yo (Pf H6 r)<|Nl<|Bg () [0]
  exact Ne<|Wc r (fun H9=>Sr<|Qs 2 r<|Nx<|Wr<|Tr<|Re () []) fun H9=>Sn<|Sq<|Dr [0] r hMix<|Aq [0,1,2,3] [0] r<|Ai fun E10 H11=>Ay 4 [0] r (Ix ke56 (Oc 0 r) H11 r)<|Ay 5 [0] r (Le kk3 (Oc 0 r) H11 r)<|Aq [6] [0] r<|Ai fun E12 H13=>Ay 7 [0] r (Y.ssub_both H13 ks9 r r r)<|Aq [8,9] [0] r<|Ay 10 [0] r (Ix ke56 (Oc 0 r) H11 r)<|Ay 11 [0] r (Le kk3 (Oc 0 r) H11 r)<|Aq [12,13,14] [0] r<|Az<|Ne<|Wr<|Re () []

/-- loop.example/g00950/spec.BatchOk -/
noncomputable def spec_BatchOk (l : List Op) : Option Bool :=
  (spec_l1In ((l.length : Nat) : Int) (1 : Int) (6 : Int)).bind fun R1 =>
  if (!R1) = true then (some false)
  else (bindC (loopO (fun (S5 : Int) => if (decide (S5 < ((l.length : Nat) : Int))) = true then ((idx l S5).bind fun E10 =>
  (spec_l7Op E10).bind fun R12 =>
  if (!R12) = true then (some (.done (.done false)))
  else (some (.go (IntKind.i64.wrap (S5 + (1 : Int))))))
  else (some (.done (.go ()))))
  (0 : Int))
  (fun (T7 : Unit) => some true))

theorem spec_BatchOk_c {l : List Op} {U0 : Value} : Cn Tryz.prog 70 [U0] [] [(U0, lc l)] (spec_BatchOk l) (fun r (_ : Unit) => .bool r) fun _ _ => [] := by
  unfold spec_BatchOk
  refine Ci Tryz.func70 r r ?_
  rintro w S ⟨Z0,-⟩
  refine Sr<|Qs 1 r<|Nx<|Sq<|Sr<|Qs 1 r<|Yo (Ln ke96 (Bc Z0) r)<|Bi fun R1 H2=>Fo (Cl [] spec_l1In_c H2 r r1) fun _=>Qs 1 r<|Nx<|Wc r (fun H4=>Sr<|Qs 1 r<|Nx<|Wr<|Tr<|Re () []) fun H4=>Sn<|Sq<|Sr<|Qs 1 r<|Nx<|Ju [] (fun _=>[]) r1 (?_) fun T7=>?_
  ·refine Wb<|Lu [0] (fun T=>[(3, iv T)]) r1 fun S5=>Sq<|Sr<|Qs 2 r<|Yo (Ln ke96 (Bc Z0) r)<|Qs 1 r<|Nx<|Wc r (fun H9=>?_) fun H9=>?_
   ·exact Sn<|Sq<|Wb<|Sr<|Qs 2 r<|Bi fun E10 H11=>Yo (Ix ke96 (Bc Z0) H11 r)<|Yo (Le kk129 (Bc Z0) H11 r)<|Bi fun R12 H13=>Fo (Cl [] spec_l7Op_c H13 r r1) fun _=>Qs 1 r<|Nx<|Wc r (fun H15=>Sr<|Qs 1 r<|Nx<|Wr<|Br<|Tr<|Er<|Br<|Jd<|Tr<|Re () []) fun H15=>Sk<|Bn<|Ne<|Rg<|Qs 3 r<|Nl<|Lg () []
   exact Wx<|Tx<|Ex<|Be<|Jg () []
  exact Ne<|Sr<|Qs 1 r<|Nx<|Wr<|Re () []

/-- loop.example/g00950/spec.l6Piece -/
noncomputable def spec_l6Piece (s : List UInt8) : Option (List UInt8) :=
  (spec_Var ((s.length : Nat) : Int)).bind fun R1 =>
  (cat R1 s).bind fun E4 =>
  some E4

theorem spec_l6Piece_c {s : List UInt8} : Cn Tryz.prog 116 [strV s] [] [] (spec_l6Piece s) (fun r (_ : Unit) => strV r) fun _ _ => [] := by
  unfold spec_l6Piece
  refine Ci Tryz.func116 r r ?_
  rintro w S -
  exact Sr<|Qs 1 r<|Nx<|Sr<|Qs 1 r<|Yo (Y.slen ks9 r)<|Bi fun R1 H2=>Fo (Cl [] spec_Var_c H2 r r1) fun _=>Qs 1 r<|Bi fun E4 H5=>Yo (Y.cat H5 r r)<|Qs 1 r<|Nx<|Wr<|Re () []

/-- loop.example/g00950/spec.ShowBatch -/
noncomputable def spec_ShowBatch (l : List Op) : Option (List UInt8) :=
  (spec_BatchOk l).bind fun R1 =>
  if (!R1) = true then (some ([]))
  else ((spec_Var ((l.length : Nat) : Int)).bind fun R5 =>
  bindC (loopO (fun (S8 : List UInt8 × Int) => if (decide (S8.2 < ((l.length : Nat) : Int))) = true then ((idx l S8.2).bind fun E13 =>
  bindC (if E13.Del = true then ((cat S8.1 ([1])).bind fun E18 =>
  (spec_l6Piece E13.Key).bind fun R20 =>
  (cat E18 R20).bind fun E23 =>
  some (.go E23))
  else ((cat S8.1 ([0])).bind fun E25 =>
  (spec_l6Piece E13.Key).bind fun R27 =>
  (cat E25 R27).bind fun E30 =>
  (spec_l6Piece E13.Val).bind fun R32 =>
  (cat E30 R32).bind fun E35 =>
  some (.go E35)))
  (fun (T15 : List UInt8) => some (.go (T15, IntKind.i64.wrap (S8.2 + (1 : Int))))))
  else (some (.done (.go S8.1))))
  (R5, (0 : Int)))
  (fun (T10 : List UInt8) => some T10))

theorem spec_ShowBatch_c {l : List Op} {U0 : Value} : Cn Tryz.prog 90 [U0] [] [(U0, lc l)] (spec_ShowBatch l) (fun r (_ : Unit) => strV r) fun _ _ => [] := by
  unfold spec_ShowBatch
  refine Ci Tryz.func90 r r ?_
  rintro w S ⟨Z0,-⟩
  refine Sr<|Qs 1 r<|Nx<|Sq<|Sr<|Qs 1 r<|Bi fun R1 H2=>Fo (Cl [] spec_BatchOk_c H2 r r1 ⟨(Bc Z0),⟨⟩⟩) fun _=>Qs 1 r<|Nx<|Wc r (fun H4=>Sr<|Qs 1 r<|Nx<|Wr<|Tr<|Re () []) fun H4=>Sn<|Sr<|Qs 1 r<|Yo (Ln ke96 (Bc Z0) r)<|Bi fun R5 H6=>Fo (Cl [] spec_Var_c H6 r r1) fun _=>Qs 1 r<|Nx<|Sq<|Sr<|Qs 1 r<|Nx<|Ju [] (fun T=>[(3, strV T)]) r1 (?_) fun T10=>?_
  ·refine Wb<|Lu [0] (fun T=>[(3, strV T.1), (4, iv T.2)]) r1 fun S8=>Sq<|Sr<|Qs 2 r<|Yo (Ln ke96 (Bc Z0) r)<|Qs 1 r<|Nx<|Wc r (fun H12=>?_) fun H12=>?_
   ·refine Sn<|Sq<|Wb<|Sr<|Qs 2 r<|Bi fun E13 H14=>Yo (Ix ke96 (Bc Z0) H14 r)<|Yo (Fe kf129_1 (Bc Z0) H14 r)<|Yo (Le kk4 (Bc Z0) H14 r)<|Nx<|Ju [0,4] (fun T=>[(3, strV T)]) r1 (?_) fun T15=>?_
    ·refine Wc r (fun H17=>?_) fun H17=>?_
     ·exact Rg<|Qs 1 r<|Bi fun E18 H19=>Yo (Y.cat H19 r r)<|Qs 2 r<|Yo (Ix ke96 (Bc Z0) H14 r)<|Yo (Fe kf129_0 (Bc Z0) H14 r)<|Yo (Le kk9 (Bc Z0) H14 r)<|Bi fun R20 H21=>Fo (Cl [] spec_l6Piece_c H21 r r1) fun _=>Bi fun E23 H24=>Yo (Y.cat H24 r r)<|Qs 1 r<|Nl<|Jg () []
     refine Dr [] r hMix<|Aq [0] [] r<|Ai fun E25 H26=>Ay 1 [] r (Y.cat H26 r r)<|Aq [2,3] [] r<|Ay 4 [] r (Ix ke96 (Bc Z0) H14 r)<|Ay 5 [] r (Fe kf129_0 (Bc Z0) H14 r)<|Ay 6 [] r (Le kk9 (Bc Z0) H14 r)<|Aq [9,10] [] r<|Ay 11 [] r (Ix ke96 (Bc Z0) H14 r)<|Ay 12 [] r (Fe kf129_2 (Bc Z0) H14 r)<|Ay 13 [] r (Le kk9 (Bc Z0) H14 r)<|Ai fun R27 H28=>A1 7<|Xe [] r (Cl [] spec_l6Piece_c H28 r r1) fun _=>Ai fun E30 H31=>Ay 8 [] r (Y.cat H31 r r)<|Ai fun R32 H33=>A1 14<|Xe [] r (Cl [] spec_l6Piece_c H33 r r1) fun _=>Ai fun E35 H36=>?_
     exact Ay 15 [] r (Y.cat H36 r r)<|Aq [16] [] r<|Az<|Jg () []
    exact Bn<|Ne<|Rg<|Qs 3 r<|Nl<|Lg () []
   exact Wx<|Tx<|Ex<|Be<|Jg () []
  exact Ne<|Sr<|Qs 2 r<|Nx<|Wr<|Re () []

/-- loop.example/g00950/spec.ReadBatch -/
noncomputable def spec_ReadBatch (s : List UInt8) : Option (List Op × Bool) :=
  (spec_l6Vars s (0 : Int) (1 : Int)).bind fun R2 =>
  (if (decide (R2.2 < (0 : Int))) = true then (some true)
  else ((idx R2.1 (0 : Int)).bind fun E8 =>
  some (decide (E8 > (6 : Int))))).bind (fun (T5 : Bool) =>
  if T5 = true then (some (([] : List Op), false))
  else (bindC (loopO (fun (S11 : Int × Int × List Op) => (idx R2.1 (0 : Int)).bind fun E15 =>
  if (decide (S11.2.1 < E15)) = true then (if (decide (S11.1 ≥ ((s.length : Nat) : Int))) = true then (some (.done (.done (([] : List Op), false))))
  else ((sidx s S11.1).bind fun E20 =>
  (spec_l6Take s (IntKind.i64.wrap (S11.1 + (1 : Int)))).bind fun R22 =>
  bindC (if (!(decide (((E20.toNat : Nat) : Int) = (1 : Int)))) = true then ((spec_l6Take s R22.2).bind fun R28 =>
  some (.go (R28.2, R28.1)))
  else (some (.go (R22.2, []))))
  (fun (T25 : Int × List UInt8) => if (decide (T25.1 < (0 : Int))) = true then (some (.done (.done (([] : List Op), false))))
  else ((app 40 S11.2.2 ([{ Key := R22.1, Del := decide (((E20.toNat : Nat) : Int) = (1 : Int)), Val := T25.2 : Op }])).bind fun E35 =>
  some (.go (T25.1, IntKind.i64.wrap (S11.2.1 + (1 : Int)), E35))))))
  else (some (.done (.go S11.2.2))))
  (R2.2, (0 : Int), ([] : List Op)))
  (fun (T13 : List Op) => (if (decide (((T13.length : Nat) : Int) = (0 : Int))) = true then (some true)
  else ((spec_ShowBatch T13).bind fun R40 =>
  some (!(decide (R40 = s))))).bind (fun (T37 : Bool) =>
  if T37 = true then (some (([] : List Op), false))
  else (some (T13, true))))))

theorem spec_ReadBatch_c {s : List UInt8} : Cn Tryz.prog 66 [strV s] [] [] (spec_ReadBatch s) (fun r (X : Value) => .tuple #[X, .bool r.2]) fun r X => [.own X (lc r.1)] := by
  unfold spec_ReadBatch
  refine Ci Tryz.func66 r r ?_
  rintro w S -
  refine Sr<|Qs 2 r<|Nx<|Sr<|Fo (Bs ([] : List Op) ke96 kz129) fun B1=>Qs 1 r<|Nx<|Sr<|Qs 1 r<|Bi fun R2 H3=>Fo (Cl [] spec_l6Vars_c H3 r r1) fun Y4=>Qs 5 r<|Nx<|Sq<|Sq<|Jv [0,4,5,6] (fun T=>[(25, .bool T)]) r1 (Rg<|Qs 3 r<|It (fun H7=>Of 4 (beq_tf H7) r r<|Yo (Pt H7 r)<|Nl<|Bg () [0,0]) fun H7=>Qg 1 (beq_ff H7) r r<|Bi fun E8 H9=>Yg (gdA (beq_ff H7)) (Ix ke56 (Oc 0 r) H9 r)<|Yg (gdA (beq_ff H7)) (Le kk3 (Oc 0 r) H9 r)<|Qg 1 (beq_ff H7) r r<|Yo (Pf H7 r)<|Nl<|Bg () [0,0]) fun T5=>Ne<|Wc r (fun H10=>Sr<|Qs 3 r<|Nx<|Wr<|Tr<|Re (.slice (some ⟨B1, 0, none⟩) 0 0) [1]) fun H10=>?_
  refine Sn<|Sq<|Sr<|Qs 1 r<|Nx<|Jn Value [0] [] (fun _ X=>[(4, X)]) (fun T X=>[.own X (lc T)]) r2 r2 (?_) fun T13 X14=>?_
  ·refine Wb<|Lp Value [0,5] [0] (fun T X=>[(4, X), (6, iv T.1), (7, iv T.2.1)]) (fun T X=>[.own X (lc T.2.2)]) (.slice (some ⟨B1, 0, none⟩) 0 0) [0,0] r2 r2 fun S11 X12=>Sq<|Sr<|Qs 2 r<|Bi fun E15 H16=>Yo (Ix ke56 (Oc 0 r) H16 r)<|Yo (Le kk3 (Oc 0 r) H16 r)<|Qs 1 r<|Nx<|Wc r (fun H17=>?_) fun H17=>?_
   ·refine Sn<|Sq<|Wb<|Sq<|Sr<|Qs 2 r<|Yo (Y.slen ks9 r)<|Qs 1 r<|Nx<|Wc r (fun H18=>Sr<|Fo (Bs ([] : List Op) ke96 kz129) fun B19=>Qs 2 r<|Nx<|Wr<|Tr<|Br<|Tr<|Er<|Br<|Jd<|Tr<|Re (.slice (some ⟨B19, 0, none⟩) 0 0) [0]) fun H18=>Sn<|Sr<|Qs 2 r<|Bi fun E20 H21=>Yo (Y.sidx H21 ks9 r r)<|Qs 2 r<|Nx<|Sr<|Qs 3 r<|Bi fun R22 H23=>Fo (Cl [] spec_l6Take_c H23 r r1) fun _=>Qs 5 r<|Nx<|Sr<|Qs 1 r<|Nx<|Sq<|Sr<|Qs 2 r<|Nx<|Ju [0,4,5,7,8,9] (fun T=>[(10, iv T.1), (11, strV T.2)]) r1 (Wc r (fun H27=>Rg<|Qs 2 r<|Bi fun R28 H29=>Fo (Cl [] spec_l6Take_c H29 r r1) fun _=>Qs 5 r<|Nl<|Jg () [0,0]) fun H27=>Sk<|Jg () [0,0]) fun T25=>?_
    exact Ne<|Sq<|Sr<|Qs 2 r<|Nx<|Wc r (fun H31=>Sr<|Fo (Bs ([] : List Op) ke96 kz129) fun B32=>Qs 2 r<|Nx<|Wr<|Tr<|Br<|Tr<|Er<|Br<|Jd<|Tr<|Re (.slice (some ⟨B32, 0, none⟩) 0 0) [0]) fun H31=>Sn<|Sr<|Qs 4 r<|Yo (Bd kp129 kz129 (Pc r (Cp r)<|Pc r (Cp r)<|Pc r (Cp r)<|Pz) r)<|Fo (Bs [{ Key := R22.1, Del := decide (((E20.toNat : Nat) : Int) = (1 : Int)), Val := T25.2 : Op }] ke96 kz129) fun B33=>Bi fun E35 H36=>Fo (Ap [2] H36 ke96 kz129 r (Oc 0 r)) fun V34=>Qs 1 r<|Nx<|Rg<|Qs 2 r<|Nl<|Bn<|Ne<|Rg<|Qs 3 r<|Nl<|Lg V34 [2,0]
   exact Wx<|Tx<|Ex<|Be<|Jg X12 [1]
  refine Ne<|Sq<|Sq<|Jv [4] (fun T=>[(77, .bool T)]) r1 (?_) fun T37=>?_
  ·exact Rg<|Qs 1 r<|Yo (Ln ke96 (Oc 0 r) r)<|Qs 2 r<|It (fun H39=>Of 4 (beq_tf H39) r r<|Yo (Pt H39 r)<|Nl<|Bg () [0]) fun H39=>Qg 1 (beq_ff H39) r r<|Bi fun R40 H41=>Fg (gdA (beq_ff H39)) (Cl [] spec_ShowBatch_c H41 r r1 ⟨(Oc 0 r),⟨⟩⟩) fun _=>Qg 2 (beq_ff H39) r r<|Yo (Pf H39 r)<|Nl<|Bg () [0]
  exact Ne<|Wc r (fun H43=>Sr<|Fo (Bs ([] : List Op) ke96 kz129) fun B44=>Qs 2 r<|Nx<|Wr<|Tr<|Re (.slice (some ⟨B44, 0, none⟩) 0 0) [0]) fun H43=>Sn<|Sr<|Qs 3 r<|Nx<|Wr<|Re X14 [0]

/-- loop.example/g00950/spec.OpenBatch -/
noncomputable def spec_OpenBatch (key : List UInt8) (boot : Int) (seq : Int) (s : List UInt8) : Option (List Op × Bool) :=
  (if (!(decide (((key.length : Nat) : Int) = (32 : Int)))) = true then (some true)
  else ((spec_l8At boot seq).bind fun R4 =>
  some (!R4))).bind (fun (T1 : Bool) =>
  if T1 = true then (some (([] : List Op), false))
  else ((spec_NonceOf (3 : Int) (IntKind.i64.wrap (IntKind.i64.wrap (boot * (1000000 : Int)) + seq))).bind fun R9 =>
  (spec_ChaStream key (0 : Int) R9 s).bind fun R12 =>
  (spec_ReadBatch R12).bind fun R15 =>
  some (R15.1, R15.2)))

theorem spec_OpenBatch_c {key : List UInt8} {boot : Int} {seq : Int} {s : List UInt8} : Cn Tryz.prog 41 [strV key, iv boot, iv seq, strV s] [] [] (spec_OpenBatch key boot seq s) (fun r (X : Value) => .tuple #[X, .bool r.2]) fun r X => [.own X (lc r.1)] := by
  unfold spec_OpenBatch
  refine Ci Tryz.func41 r r ?_
  rintro w S -
  refine Sr<|Qs 2 r<|Nx<|Sq<|Sq<|Jv [0,1,2,3] (fun T=>[(20, .bool T)]) r1 (Rg<|Qs 1 r<|Yo (Y.slen ks9 r)<|Qs 2 r<|It (fun H3=>Of 4 (beq_tf H3) r r<|Yo (Pt H3 r)<|Nl<|Bg () []) fun H3=>Qg 2 (beq_ff H3) r r<|Bi fun R4 H5=>Fg (gdA (beq_ff H3)) (Cl [] spec_l8At_c H5 r r1) fun _=>Qg 1 (beq_ff H3) r r<|Yo (Pf H3 r)<|Nl<|Bg () []) fun T1=>Ne<|Wc r (fun H7=>Sr<|Fo (Bs ([] : List Op) ke96 kz129) fun B8=>Qs 2 r<|Nx<|Wr<|Tr<|Re (.slice (some ⟨B8, 0, none⟩) 0 0) [0]) fun H7=>Sn<|Sr<|Qs 5 r<|Bi fun R9 H10=>Fo (Cl [] spec_NonceOf_c H10 r r1) fun _=>?_
  exact Qs 1 r<|Bi fun R12 H13=>Fo (Cl [] spec_ChaStream_c H13 r r1) fun _=>Bi fun R15 H16=>Fo (Cl [] spec_ReadBatch_c H16 r r1) fun Y17=>Qs 5 r<|Nx<|Sr<|Qs 4 r<|Nx<|Wr<|Re Y17 [0]

/-- loop.example/g00950/spec.l20Copy -/
noncomputable def spec_l20Copy (e : Eng) : Option Eng :=
  (app 48 ([] : List Ent) e.Mem).bind fun E7 =>
  (app 8 ([] : List Int) e.Snaps).bind fun E14 =>
  bindC (loopO (fun (S24 : Int × List (List Ent)) => if (decide (S24.1 < ((e.Tables.length : Nat) : Int))) = true then ((idx e.Tables S24.1).bind fun E29 =>
  (app 48 ([] : List Ent) E29).bind fun E35 =>
  (app 24 S24.2 ([E35])).bind fun E39 =>
  some (.go (IntKind.i64.wrap (S24.1 + (1 : Int)), E39)))
  else (some (.done (.go S24.2))))
  ((0 : Int), ([] : List (List Ent))))
  (fun (T26 : List (List Ent)) => some ({ Mem := E7, Tables := T26, Seq := e.Seq, Snaps := E14 : Eng }))

theorem spec_l20Copy_c {e : Eng} {U0 U1 U2 : Value} : Cn Tryz.prog 69 [.agg #[U0, U1, iv e.Seq, U2]] [] [(U0, lc e.Mem), (U1, lc e.Tables), (U2, lc e.Snaps)] (spec_l20Copy e) (fun r (X : Value × Value × Value) => .agg #[X.1, X.2.1, iv r.Seq, X.2.2]) fun r X => [.own X.1 (lc r.Mem), .own X.2.1 (lc r.Tables), .own X.2.2 (lc r.Snaps)] := by
  unfold spec_l20Copy
  refine Ci Tryz.func69 r r ?_
  rintro w S ⟨Z0,Z1,Z2,-⟩
  refine Sr<|Fo (Bx r (Ca ⟨Ob Z0,Ob Z1,Op',Ob Z2,⟨⟩⟩)) fun B1=>Fo (Al kz58 r) fun B2=>Nx<|Sq<|Wi fun E7 H8=>Wi fun E14 H15=>Jw (Nat × Value × Value) [1,2] [1,0] (fun X=>[(3, pt X.1)]) (fun X=>[.box X.1 58 [X.2.1, .slice none 0 0, iv e.Seq, X.2.2], .own X.2.1 (lc E7), .own X.2.2 (lc E14)]) r1 r1 (?_) fun X20=>?_
  ·refine Dr [0,0] r hMix<|Ay 1 [0,0] r (Fb kf58_0 r)<|Ay 2 [0,0] r (Lb 1 kk54 r)<|Ay 4 [0,0] r (Fb kf58_2 r)<|Ay 5 [0,0] r (Lb 1 kk3 r)<|Ay 7 [0,0] r (Fb kf58_3 r)<|Ay 8 [0,0] r (Lb 1 kk56 r)<|A3 0 6 11 (?_) (?_)<|?_
   ·refine Xe [1,1] r (Bs ([] : List Ent) ke54 kz102) fun B21=>A3 3 6 11 (?_) (?_)<|?_
    ·refine Xe [1,1] r (Ap [0] H8 ke54 kz102 r (Bc Z0)) fun V24=>A2 6 11 (?_)<|?_
     ·refine Xe [2,2] r (Bs ([] : List Int) ke56 kz3) fun B27=>A2 9 11 (?_)<|?_
      ·exact Xe [2,2] r (Ap [0] H15 ke56 kz3 r (Bc Z2)) fun V29=>A2 10 11 (Xy [2,2] r (Bd kp58 kz58 (Pc r (Co 1)<|Pc r (Cp r)<|Pc r (Co 0)<|Pz) r)<|A1 11<|Xe [3,3] r (Al kz58 r) fun B32=>A1 12<|Xu [3,3] r (Sb 0 kk58 r (Ca ⟨Ow' 2,Op',Op',Ow' 1,⟨⟩⟩) r)<|Az<|Bg (B32, V24, V29) [4,3,0,1,0])<|Xe [3,3] r (Al kz58 r) fun B31=>A1 10<|Xy [3,3] r (Bd kp58 kz58 (Pc r (Co 2)<|Pc r (Cp r)<|Pc r (Co 1)<|Pz) r)<|A1 12<|Xu [3,3] r (Sb 0 kk58 r (Ca ⟨Ow' 2,Op',Op',Ow' 1,⟨⟩⟩) r)<|Az<|Bg (B31, V24, V29) [4,3,0,1,0]
      exact Xe [3,3] r (Al kz58 r) fun B30=>A1 9<|Xe [3,3] r (Ap [1] H15 ke56 kz3 r (Bc Z2)) fun V31=>A1 10<|Xy [3,3] r (Bd kp58 kz58 (Pc r (Co 2)<|Pc r (Cp r)<|Pc r (Co 0)<|Pz) r)<|A1 12<|Xu [3,3] r (Sb 1 kk58 r (Ca ⟨Ow' 2,Op',Op',Ow' 0,⟨⟩⟩) r)<|Az<|Bg (B30, V24, V31) [4,3,1,1,0]
     exact Xe [2,2] r (Al kz58 r) fun B28=>A1 6<|Xe [3,3] r (Bs ([] : List Int) ke56 kz3) fun B29=>A1 9<|Xe [3,3] r (Ap [0] H15 ke56 kz3 r (Bc Z2)) fun V30=>A1 10<|Xy [3,3] r (Bd kp58 kz58 (Pc r (Co 2)<|Pc r (Cp r)<|Pc r (Co 0)<|Pz) r)<|A1 12<|Xu [3,3] r (Sb 1 kk58 r (Ca ⟨Ow' 2,Op',Op',Ow' 0,⟨⟩⟩) r)<|Az<|Bg (B28, V24, V30) [4,3,1,1,0]
    ·refine Xe [2,2] r (Bs ([] : List Int) ke56 kz3) fun B25=>A2 3 11 (?_)<|?_
     ·refine Xe [2,2] r (Ap [1] H8 ke54 kz102 r (Bc Z0)) fun V27=>A2 9 11 (?_)<|?_
      ·exact Xe [2,2] r (Ap [1] H15 ke56 kz3 r (Bc Z2)) fun V29=>A2 10 11 (Xy [2,2] r (Bd kp58 kz58 (Pc r (Co 1)<|Pc r (Cp r)<|Pc r (Co 0)<|Pz) r)<|A1 11<|Xe [3,3] r (Al kz58 r) fun B32=>A1 12<|Xu [3,3] r (Sb 0 kk58 r (Ca ⟨Ow' 2,Op',Op',Ow' 1,⟨⟩⟩) r)<|Az<|Bg (B32, V27, V29) [4,3,0,1,0])<|Xe [3,3] r (Al kz58 r) fun B31=>A1 10<|Xy [3,3] r (Bd kp58 kz58 (Pc r (Co 2)<|Pc r (Cp r)<|Pc r (Co 1)<|Pz) r)<|A1 12<|Xu [3,3] r (Sb 0 kk58 r (Ca ⟨Ow' 2,Op',Op',Ow' 1,⟨⟩⟩) r)<|Az<|Bg (B31, V27, V29) [4,3,0,1,0]
      exact Xe [3,3] r (Al kz58 r) fun B30=>A1 9<|Xe [3,3] r (Ap [2] H15 ke56 kz3 r (Bc Z2)) fun V31=>A1 10<|Xy [3,3] r (Bd kp58 kz58 (Pc r (Co 2)<|Pc r (Cp r)<|Pc r (Co 0)<|Pz) r)<|A1 12<|Xu [3,3] r (Sb 1 kk58 r (Ca ⟨Ow' 2,Op',Op',Ow' 0,⟨⟩⟩) r)<|Az<|Bg (B30, V27, V31) [4,3,1,1,0]
     exact Xe [3,3] r (Al kz58 r) fun B28=>A1 3<|Xe [3,3] r (Ap [2] H8 ke54 kz102 r (Bc Z0)) fun V29=>A1 9<|Xe [3,3] r (Ap [2] H15 ke56 kz3 r (Bc Z2)) fun V30=>A1 10<|Xy [3,3] r (Bd kp58 kz58 (Pc r (Co 1)<|Pc r (Cp r)<|Pc r (Co 0)<|Pz) r)<|A1 12<|Xu [3,3] r (Sb 2 kk58 r (Ca ⟨Ow' 1,Op',Op',Ow' 0,⟨⟩⟩) r)<|Az<|Bg (B28, V29, V30) [4,3,2,1,0]
    refine Xe [2,2] r (Al kz58 r) fun B26=>A2 3 6 (?_)<|?_
    ·exact Xe [2,2] r (Ap [1] H8 ke54 kz102 r (Bc Z0)) fun V27=>A1 6<|Xe [3,3] r (Bs ([] : List Int) ke56 kz3) fun B29=>A1 9<|Xe [3,3] r (Ap [0] H15 ke56 kz3 r (Bc Z2)) fun V30=>A1 10<|Xy [3,3] r (Bd kp58 kz58 (Pc r (Co 1)<|Pc r (Cp r)<|Pc r (Co 0)<|Pz) r)<|A1 12<|Xu [3,3] r (Sb 2 kk58 r (Ca ⟨Ow' 1,Op',Op',Ow' 0,⟨⟩⟩) r)<|Az<|Bg (B26, V27, V30) [4,3,2,1,0]
    exact Xe [3,3] r (Bs ([] : List Int) ke56 kz3) fun B28=>A1 3<|Xe [3,3] r (Ap [2] H8 ke54 kz102 r (Bc Z0)) fun V29=>A1 9<|Xe [3,3] r (Ap [1] H15 ke56 kz3 r (Bc Z2)) fun V30=>A1 10<|Xy [3,3] r (Bd kp58 kz58 (Pc r (Co 1)<|Pc r (Cp r)<|Pc r (Co 0)<|Pz) r)<|A1 12<|Xu [3,3] r (Sb 2 kk58 r (Ca ⟨Ow' 1,Op',Op',Ow' 0,⟨⟩⟩) r)<|Az<|Bg (B26, V29, V30) [4,3,2,1,0]
   ·refine Xe [1,1] r (Bs ([] : List Int) ke56 kz3) fun B22=>A2 0 11 (?_)<|?_
    ·refine Xe [2,2] r (Bs ([] : List Ent) ke54 kz102) fun B24=>A2 3 11 (?_)<|?_
     ·refine Xe [2,2] r (Ap [0] H8 ke54 kz102 r (Bc Z0)) fun V26=>A2 9 11 (?_)<|?_
      ·exact Xe [2,2] r (Ap [1] H15 ke56 kz3 r (Bc Z2)) fun V28=>A2 10 11 (Xy [2,2] r (Bd kp58 kz58 (Pc r (Co 1)<|Pc r (Cp r)<|Pc r (Co 0)<|Pz) r)<|A1 11<|Xe [3,3] r (Al kz58 r) fun B31=>A1 12<|Xu [3,3] r (Sb 0 kk58 r (Ca ⟨Ow' 2,Op',Op',Ow' 1,⟨⟩⟩) r)<|Az<|Bg (B31, V26, V28) [4,3,0,1,0])<|Xe [3,3] r (Al kz58 r) fun B30=>A1 10<|Xy [3,3] r (Bd kp58 kz58 (Pc r (Co 2)<|Pc r (Cp r)<|Pc r (Co 1)<|Pz) r)<|A1 12<|Xu [3,3] r (Sb 0 kk58 r (Ca ⟨Ow' 2,Op',Op',Ow' 1,⟨⟩⟩) r)<|Az<|Bg (B30, V26, V28) [4,3,0,1,0]
      exact Xe [3,3] r (Al kz58 r) fun B29=>A1 9<|Xe [3,3] r (Ap [2] H15 ke56 kz3 r (Bc Z2)) fun V30=>A1 10<|Xy [3,3] r (Bd kp58 kz58 (Pc r (Co 2)<|Pc r (Cp r)<|Pc r (Co 0)<|Pz) r)<|A1 12<|Xu [3,3] r (Sb 1 kk58 r (Ca ⟨Ow' 2,Op',Op',Ow' 0,⟨⟩⟩) r)<|Az<|Bg (B29, V26, V30) [4,3,1,1,0]
     exact Xe [3,3] r (Al kz58 r) fun B27=>A1 3<|Xe [3,3] r (Ap [1] H8 ke54 kz102 r (Bc Z0)) fun V28=>A1 9<|Xe [3,3] r (Ap [2] H15 ke56 kz3 r (Bc Z2)) fun V29=>A1 10<|Xy [3,3] r (Bd kp58 kz58 (Pc r (Co 1)<|Pc r (Cp r)<|Pc r (Co 0)<|Pz) r)<|A1 12<|Xu [3,3] r (Sb 2 kk58 r (Ca ⟨Ow' 1,Op',Op',Ow' 0,⟨⟩⟩) r)<|Az<|Bg (B27, V28, V29) [4,3,2,1,0]
    exact Xe [2,2] r (Al kz58 r) fun B25=>A1 0<|Xe [3,3] r (Bs ([] : List Ent) ke54 kz102) fun B26=>A1 3<|Xe [3,3] r (Ap [0] H8 ke54 kz102 r (Bc Z0)) fun V27=>A1 9<|Xe [3,3] r (Ap [2] H15 ke56 kz3 r (Bc Z2)) fun V28=>A1 10<|Xy [3,3] r (Bd kp58 kz58 (Pc r (Co 1)<|Pc r (Cp r)<|Pc r (Co 0)<|Pz) r)<|A1 12<|Xu [3,3] r (Sb 2 kk58 r (Ca ⟨Ow' 1,Op',Op',Ow' 0,⟨⟩⟩) r)<|Az<|Bg (B25, V27, V28) [4,3,2,1,0]
   refine Xe [1,1] r (Al kz58 r) fun B23=>A2 0 6 (?_)<|?_
   ·refine Xe [2,2] r (Bs ([] : List Ent) ke54 kz102) fun B24=>A2 3 6 (?_)<|?_
    ·exact Xe [2,2] r (Ap [0] H8 ke54 kz102 r (Bc Z0)) fun V26=>A1 6<|Xe [3,3] r (Bs ([] : List Int) ke56 kz3) fun B28=>A1 9<|Xe [3,3] r (Ap [0] H15 ke56 kz3 r (Bc Z2)) fun V29=>A1 10<|Xy [3,3] r (Bd kp58 kz58 (Pc r (Co 1)<|Pc r (Cp r)<|Pc r (Co 0)<|Pz) r)<|A1 12<|Xu [3,3] r (Sb 2 kk58 r (Ca ⟨Ow' 1,Op',Op',Ow' 0,⟨⟩⟩) r)<|Az<|Bg (B23, V26, V29) [4,3,2,1,0]
    exact Xe [3,3] r (Bs ([] : List Int) ke56 kz3) fun B27=>A1 3<|Xe [3,3] r (Ap [1] H8 ke54 kz102 r (Bc Z0)) fun V28=>A1 9<|Xe [3,3] r (Ap [1] H15 ke56 kz3 r (Bc Z2)) fun V29=>A1 10<|Xy [3,3] r (Bd kp58 kz58 (Pc r (Co 1)<|Pc r (Cp r)<|Pc r (Co 0)<|Pz) r)<|A1 12<|Xu [3,3] r (Sb 2 kk58 r (Ca ⟨Ow' 1,Op',Op',Ow' 0,⟨⟩⟩) r)<|Az<|Bg (B23, V28, V29) [4,3,2,1,0]
   exact Xe [2,2] r (Bs ([] : List Int) ke56 kz3) fun B25=>A1 0<|Xe [3,3] r (Bs ([] : List Ent) ke54 kz102) fun B26=>A1 3<|Xe [3,3] r (Ap [0] H8 ke54 kz102 r (Bc Z0)) fun V27=>A1 9<|Xe [3,3] r (Ap [1] H15 ke56 kz3 r (Bc Z2)) fun V28=>A1 10<|Xy [3,3] r (Bd kp58 kz58 (Pc r (Co 1)<|Pc r (Cp r)<|Pc r (Co 0)<|Pz) r)<|A1 12<|Xu [3,3] r (Sb 2 kk58 r (Ca ⟨Ow' 1,Op',Op',Ow' 0,⟨⟩⟩) r)<|Az<|Bg (B23, V27, V28) [4,3,2,1,0]
  refine Ne<|Sq<|Sr<|Qs 1 r<|Nx<|Jn Value [2,3] [1,2,2] (fun _ _=>[]) (fun T X=>[.box X20.1 58 [X20.2.1, X, iv e.Seq, X20.2.2], .own X (lc T)]) r2 r2 (?_) fun T26 X27=>?_
  ·refine Wb<|Nw 1<|Lp Value [1,2,3] [1,1,2,2] (fun T _=>[(4, iv T.1)]) (fun T X=>[.box X20.1 58 [X20.2.1, X, iv e.Seq, X20.2.2], .own X (lc T.2)]) (.slice none 0 0) [1,1,2,2,1,0] r2 r2 fun S24 X25=>Sq<|Sr<|Qs 1 r<|Yo (Fb kf58_1 r)<|Yo (Lb 0 kk55 r)<|Yo (Ln ke55 (Bc Z1) r)<|Qs 1 r<|Nx<|Wc r (fun H28=>?_) fun H28=>?_
   ·refine Sn<|Sq<|Wb<|Wi fun E29 H30=>Wi fun E35 H36=>Wi fun E39 H40=>Jw Value [1,2,3,4] [0,0,0,0] (fun _=>[]) (fun X=>[.box X20.1 58 [X20.2.1, X, iv e.Seq, X20.2.2], .own X (lc E39)]) r1 r1 (?_) fun X42=>?_
    ·refine Dr [0,0,0,0] r hMix<|Ay 0 [0,0,0,0] r (Fb kf58_1 r)<|Ay 3 [0,0,0,0] r (Fb kf58_1 r)<|Ay 4 [0,0,0,0] r (Lb 0 kk55 r)<|Aq [5] [0,0,0,0] r<|Ay 6 [0,0,0,0] r (Ix ke55 (Bc Z1) H30 r)<|?_
     have Q43 : Base w S (elv w U1 (S24.1.toNat * 1 + 0)) (lc E29):=Base.el Z1 (idx_get H30).2.2 r r
     refine Ay 7 [0,0,0,0] r (Lz kk54 Z1 H30 r)<|A2 1 2 (?_)<|?_
     ·exact Xy [0,0,0,0] r (Lb 4 kk55 r)<|A1 2<|Xe [1,1,1,1] r (Bs ([] : List Ent) ke54 kz102) fun B45=>A1 8<|Xe [1,1,1,1] r (Ap [0] H36 ke54 kz102 r (Bc Q43)) fun V46=>A1 9<|Xe [2,2,2,2] r (Bk [.raw V46] ke55 kz54 r (Qc (Co 0)<|Qz)) fun B47=>Ka (Ha [0, 0] ([E35] : List (List Ent)) r (Cf Cz))<|A1 10<|Xe [1,1,1,1] r (Aw [6, 0] H40 ke55 kz54 r) fun V48=>Ay 11 [1,1,1,1] r (Fb kf58_1 r)<|A1 12<|Xu [1,1,1,1] r (Sb 5 kk55 r (Co 0) r)<|Az<|Bg V48 [1,1,1,1,1,0]
     refine Xe [1,1,1,1] r (Bs ([] : List Ent) ke54 kz102) fun B44=>A2 1 8 (?_)<|?_
     ·exact Xy [1,1,1,1] r (Lb 5 kk55 r)<|A1 8<|Xe [1,1,1,1] r (Ap [0] H36 ke54 kz102 r (Bc Q43)) fun V46=>A1 9<|Xe [2,2,2,2] r (Bk [.raw V46] ke55 kz54 r (Qc (Co 0)<|Qz)) fun B47=>Ka (Ha [0, 0] ([E35] : List (List Ent)) r (Cf Cz))<|A1 10<|Xe [1,1,1,1] r (Aw [6, 0] H40 ke55 kz54 r) fun V48=>Ay 11 [1,1,1,1] r (Fb kf58_1 r)<|A1 12<|Xu [1,1,1,1] r (Sb 5 kk55 r (Co 0) r)<|Az<|Bg V48 [1,1,1,1,1,0]
     refine Xe [1,1,1,1] r (Ap [0] H36 ke54 kz102 r (Bc Q43)) fun V45=>A2 1 9 (?_)<|?_
     ·exact Xy [1,1,1,1] r (Lb 5 kk55 r)<|A1 9<|Xe [2,2,2,2] r (Bk [.raw V45] ke55 kz54 r (Qc (Co 0)<|Qz)) fun B47=>Ka (Ha [0, 0] ([E35] : List (List Ent)) r (Cf Cz))<|A1 10<|Xe [1,1,1,1] r (Aw [6, 0] H40 ke55 kz54 r) fun V48=>Ay 11 [1,1,1,1] r (Fb kf58_1 r)<|A1 12<|Xu [1,1,1,1] r (Sb 5 kk55 r (Co 0) r)<|Az<|Bg V48 [1,1,1,1,1,0]
     exact Xe [2,2,2,2] r (Bk [.raw V45] ke55 kz54 r (Qc (Co 0)<|Qz)) fun B46=>Ka (Ha [0, 0] ([E35] : List (List Ent)) r (Cf Cz))<|A1 1<|Xy [1,1,1,1] r (Lb 5 kk55 r)<|A1 10<|Xe [1,1,1,1] r (Aw [6, 0] H40 ke55 kz54 r) fun V47=>Ay 11 [1,1,1,1] r (Fb kf58_1 r)<|A1 12<|Xu [1,1,1,1] r (Sb 5 kk55 r (Co 0) r)<|Az<|Bg V47 [1,1,1,1,1,0]
    exact Bn<|Ne<|Rg<|Qs 3 r<|Nl<|Lg X42 [0,0,0,0,0,0]
   exact Wx<|Tx<|Ex<|Be<|Jg X25 [1,1,1,1,1]
  exact Ne<|Sr<|Yo (Lb 3 kk58 r)<|Fu (Sb 0 kk58 r (Ca ⟨Ow' 1,Ow' 4,Op',Ow' 2,⟨⟩⟩) r)<|Nx<|Wr<|TE.leaf fun _ _ hf_ hs_ => ret_any (rs := [.cell 2 58]) (vs := [.agg #[X20.2.1, X27, iv e.Seq, X20.2.2]]) (.inl r) r (RV.cell 0 r r kk58 r ⟨⟩) hf_ hs_ ⟨(X20.2.1, X27, X20.2.2), r, hs_.pulls [1, 3, 1] r⟩

/-- loop.example/g00950/spec.l9Put -/
noncomputable def spec_l9Put (l : List Ent) (e : Ent) : Option (List Ent) :=
  bindC (loopO (fun (S3 : Bool × Int × List Ent) => if (decide (S3.2.1 < ((l.length : Nat) : Int))) = true then ((if (!S3.1) = true then ((idx l S3.2.1).bind fun E11 =>
  (spec_l9Ahead e E11).bind fun R13 =>
  some R13)
  else (some false)).bind (fun (T8 : Bool) =>
  bindC (if T8 = true then ((app 48 S3.2.2 ([e])).bind fun E21 =>
  some (.go (true, E21)))
  else (some (.go (S3.1, S3.2.2))))
  (fun (T16 : Bool × List Ent) => (idx l S3.2.1).bind fun E23 =>
  (app 48 T16.2 ([E23])).bind fun E27 =>
  some (.go (T16.1, IntKind.i64.wrap (S3.2.1 + (1 : Int)), E27)))))
  else (some (.done (.go (S3.1, S3.2.2)))))
  (false, (0 : Int), ([] : List Ent)))
  (fun (T5 : Bool × List Ent) => bindC (if (!T5.1) = true then ((app 48 T5.2 ([e])).bind fun E34 =>
  some (.go E34))
  else (some (.go T5.2)))
  (fun (T29 : List Ent) => some T29))

theorem spec_l9Put_c {l : List Ent} {e : Ent} {U0 : Value} : Cn Tryz.prog 71 [U0, .agg #[strV e.Key, iv e.Seq, .bool e.Del, strV e.Val]] [] [(U0, lc l)] (spec_l9Put l e) (fun _ (X : Value) => X) fun r X => [.own X (lc r)] := by
  unfold spec_l9Put
  refine Ci Tryz.func71 r r ?_
  rintro w S ⟨Z0,-⟩
  refine Sr<|Fo (Bx r (Cp r)) fun B1=>Qs 1 r<|Nx<|Sr<|Fo (Bs ([] : List Ent) ke54 kz102) fun B2=>Qs 1 r<|Nx<|Sr<|Qs 1 r<|Nx<|Sq<|Sr<|Qs 1 r<|Nx<|Jn Value [3] [1] (fun T X=>[(5, X), (6, .bool T.1)]) (fun T X=>[.own X (lc T.2)]) r2 r2 (?_) fun T5 X6=>?_
  ·refine Wb<|Lp Value [0,3] [1] (fun T X=>[(5, X), (6, .bool T.1), (7, iv T.2.1)]) (fun T X=>[.own X (lc T.2.2)]) (.slice (some ⟨B2, 0, none⟩) 0 0) [1,0] r2 r2 fun S3 X4=>Sq<|Sr<|Qs 2 r<|Yo (Ln ke54 (Bc Z0) r)<|Qs 1 r<|Nx<|Wc r (fun H7=>?_) fun H7=>?_
   ·refine Sn<|Sq<|Wb<|Sq<|Sq<|Jv [0,3,5,6,7] (fun T=>[(24, .bool T)]) r1 (?_) fun T8=>?_
    ·refine Dr [0,0] r hMix<|Aq [0,1,2] [0,0] r<|Ia (fun H10=>?_) fun H10=>?_
     ·exact Ag 3 [0,0] (gdA (beq_tt H10)) r (Lb 0 kk102 r)<|Ag 4 [0,0] (gdA (beq_tt H10)) r (Y.move r)<|Ag 5 [0,0] (gdA (beq_tt H10)) r (Y.move r)<|Ai fun E11 H12=>Ag 6 [0,0] (gdA (beq_tt H10)) r (Ix ke54 (Bc Z0) H12 r)<|Ag 7 [0,0] (gdA (beq_tt H10)) r (Le kk102 (Bc Z0) H12 r)<|Ai fun R13 H14=>A1 8<|Xeg [0,0] (gdA (beq_tt H10)) r (Cl [] spec_l9Ahead_c H14 r r1) fun _=>Ay 9 [0,0] r (Pt H10 r)<|Az<|Bg () [0,0]
     exact Ax [3,4,5,6,7,8] [0,0] (beq_ft H10) r r<|Ay 9 [0,0] r (Pf H10 r)<|Az<|Bg () [0,0]
    exact Ne<|Jn Value [0,3,7] [0] (fun T X=>[(5, X), (6, .bool T.1)]) (fun T X=>[.own X (lc T.2)]) r2 r2 (Wc r (fun H18=>Sr<|Qs 1 r<|Yo (Lb 0 kk102 r)<|Fo (Bs [e] ke54 kz102) fun B19=>Bi fun E21 H22=>Fo (Ap [2] H22 ke54 kz102 r (Oc 0 r)) fun V20=>Qs 1 r<|Nx<|Rg<|Qs 1 r<|Nl<|Jg V20 [2,0]) fun H18=>Sk<|Jg X4 [0,0]) fun T16 X17=>Ne<|Rg<|Qs 3 r<|Bi fun E23 H24=>Yo (Ix ke54 (Bc Z0) H24 r)<|Yo (Le kk102 (Bc Z0) H24 r)<|Fo (Bs [E23] ke54 kz102) fun B25=>Bi fun E27 H28=>Fo (Ap [2] H28 ke54 kz102 r (Oc 0 r)) fun V26=>Qs 1 r<|Nl<|Bn<|Ne<|Rg<|Qs 3 r<|Nl<|Lg V26 [2,0]
   exact Wx<|Tx<|Ex<|Be<|Jg X4 [0,0]
  exact Ne<|Sq<|Sr<|Qs 2 r<|Nx<|Jn Value [] [] (fun _ X=>[(5, X)]) (fun T X=>[.own X (lc T)]) r2 r2 (Wc r (fun H31=>Rg<|Qs 1 r<|Yo (Lb 0 kk102 r)<|Fo (Bs [e] ke54 kz102) fun B32=>Bi fun E34 H35=>Fo (Ap [2] H35 ke54 kz102 r (Oc 0 r)) fun V33=>Qs 1 r<|Nl<|Jg V33 [0]) fun H31=>Sk<|Jg X6 [1]) fun T29 X30=>Ne<|Sr<|Qs 2 r<|Nx<|Wr<|Re X30 [0]

/-- loop.example/g00950/spec.EngPut -/
noncomputable def spec_EngPut (e : Eng) (l : List Op) : Option (Eng × Bool) :=
  (spec_EngOk e).bind fun R3 =>
  if (!R3) = true then (some ({ Mem := ([] : List Ent), Tables := ([] : List (List Ent)), Seq := (0 : Int), Snaps := ([] : List Int) : Eng }, false))
  else ((spec_l20Copy e).bind fun R10 =>
  (spec_BatchOk l).bind fun R14 =>
  if (!R14) = true then (some (R10, false))
  else (bindC (loopO (fun (S18 : Int × List Ent) => if (decide (S18.1 < ((l.length : Nat) : Int))) = true then (bindC (loopO (fun (S23 : Bool × Int) => if (decide (S23.2 < ((l.length : Nat) : Int))) = true then ((if S23.1 = true then ((idx l S23.2).bind fun E31 =>
  (idx l S18.1).bind fun E33 =>
  some (!(decide (E31.Key = E33.Key))))
  else (some false)).bind (fun (T28 : Bool) =>
  some (.go (T28, IntKind.i64.wrap (S23.2 + (1 : Int))))))
  else (some (.done (.go S23.1))))
  (true, IntKind.i64.wrap (S18.1 + (1 : Int))))
  (fun (T25 : Bool) => bindC (if T25 = true then ((idx l S18.1).bind fun E38 =>
  (spec_l9Put S18.2 ({ Key := E38.Key, Seq := IntKind.i64.wrap (R10.Seq + (1 : Int)), Del := E38.Del, Val := E38.Val : Ent })).bind fun R40 =>
  some (.go R40))
  else (some (.go S18.2)))
  (fun (T35 : List Ent) => some (.go (IntKind.i64.wrap (S18.1 + (1 : Int)), T35)))))
  else (some (.done (.go S18.2))))
  ((0 : Int), R10.Mem))
  (fun (T20 : List Ent) => (spec_EngOk ({ Mem := T20, Tables := R10.Tables, Seq := IntKind.i64.wrap (R10.Seq + (1 : Int)), Snaps := R10.Snaps : Eng })).bind fun R45 =>
  if (!R45) = true then (some (R10, false))
  else (some ({ Mem := T20, Tables := R10.Tables, Seq := IntKind.i64.wrap (R10.Seq + (1 : Int)), Snaps := R10.Snaps : Eng }, true)))))

theorem spec_EngPut_c {e : Eng} {l : List Op} {U0 U1 U2 U3 : Value} : Cn Tryz.prog 42 [.agg #[U0, U1, iv e.Seq, U2], U3] [] [(U0, lc e.Mem), (U1, lc e.Tables), (U2, lc e.Snaps), (U3, lc l)] (spec_EngPut e l) (fun r (X : Value × Value × Value) => .tuple #[.agg #[X.1, X.2.1, iv r.1.Seq, X.2.2], .bool r.2]) fun r X => [.own X.1 (lc r.1.Mem), .own X.2.1 (lc r.1.Tables), .own X.2.2 (lc r.1.Snaps)] := by
  unfold spec_EngPut
  refine Ci Tryz.func42 r r ?_
  rintro w S ⟨Z0,Z1,Z2,Z3,-⟩
  refine Sr<|Fo (Bx r (Ca ⟨Ob Z0,Ob Z1,Op',Ob Z2,⟨⟩⟩)) fun B1=>Fo (Al kz58 r) fun B2=>Qs 1 r<|Nx<|Sq<|Sr<|Yo (Lb 1 kk58 r)<|Bi fun R3 H4=>Fo (Cl [] spec_EngOk_c H4 r r1 ⟨(Bc Z0),(Bc Z1),(Bc Z2),⟨⟩⟩) fun _=>Qs 1 r<|Nx<|Wc r (fun H6=>?_) fun H6=>?_
  ·exact Sr<|Yo (Bd kp58 kz58 (Pz) r)<|Fu (Sb 0 kk58 r (Cp r) r)<|Qs 1 r<|Nx<|Wr<|Tr<|TE.leaf fun _ _ hf_ hs_ => ret_any (rs := [.cell 4 58, .tmp 5]) (vs := [.agg #[.slice none 0 0, .slice none 0 0, iv (0 : Int), .slice none 0 0], .bool false]) (.inl r) r (RV.cell 0 r r kk58 r ⟨r, ⟨⟩⟩) hf_ hs_ ⟨((.slice none 0 0), (.slice none 0 0), (.slice none 0 0)), r, (((hs_.nilItem 4).nilItem 1).nilItem 1).pulls [2, 1, 0] r⟩
  refine Sn<|Sr<|Yo (Lb 1 kk58 r)<|Bi fun R10 H11=>Fo (Cl [] spec_l20Copy_c H11 r r1 ⟨(Bc Z0),(Bc Z1),(Bc Z2),⟨⟩⟩) fun Y12=>Fo (Al kz58 r) fun B13=>Fu (Sb 0 kk58 r (Ca ⟨Ow' 1,Ow' 2,Op',Ow' 3,⟨⟩⟩) r)<|Nx<|Sq<|Sr<|Qs 1 r<|Bi fun R14 H15=>Fo (Cl [] spec_BatchOk_c H15 r r1 ⟨(Bc Z3),⟨⟩⟩) fun _=>Qs 1 r<|Nx<|Wc r (fun H17=>?_) fun H17=>?_
  ·exact Sr<|Yo (Lb 0 kk58 r)<|Fu (Sb 4 kk58 r (Ca ⟨Ow' 1,Ow' 2,Op',Ow' 3,⟨⟩⟩) r)<|Qs 1 r<|Nx<|Wr<|Tr<|TE.leaf fun _ _ hf_ hs_ => ret_any (rs := [.cell 4 58, .tmp 5]) (vs := [.agg #[Y12.1, Y12.2.1, iv R10.Seq, Y12.2.2], .bool false]) (.inl r) r (RV.cell 4 r r kk58 r ⟨r, ⟨⟩⟩) hf_ hs_ ⟨(Y12.1, Y12.2.1, Y12.2.2), r, hs_.pulls [1, 1, 1] r⟩
  refine Sn<|Sr<|Yo (Fb kf58_2 r)<|Yo (Lb 0 kk3 r)<|Qs 1 r<|Yo (Fb kf58_2 r)<|Fu (Sb 0 kk3 r (Cp r) r)<|Nx<|Sq<|Sr<|Qs 1 r<|Nx<|Jn Value [2,4,6] [5,4,2,2] (fun _ _=>[]) (fun T X=>[.box B13 58 [X, Y12.2.1, iv (IntKind.i64.wrap (R10.Seq + (1 : Int))), Y12.2.2], .own X (lc T)]) r2 r2 (?_) fun T20 X21=>?_
  ·refine Wb<|Lp Value [1,2,4,6] [5,4,2,2] (fun T _=>[(7, iv T.1)]) (fun T X=>[.box B13 58 [X, Y12.2.1, iv (IntKind.i64.wrap (R10.Seq + (1 : Int))), Y12.2.2], .own X (lc T.2)]) Y12.1 [5,4,2,2,0,0] r2 r2 fun S18 X19=>Sq<|Sr<|Qs 2 r<|Yo (Ln ke96 (Bc Z3) r)<|Qs 1 r<|Nx<|Wc r (fun H22=>?_) fun H22=>?_
   ·refine Sn<|Sq<|Wb<|Sr<|Qs 1 r<|Nx<|Sq<|Sr<|Qs 3 r<|Nx<|Ju [1,2,4,6,7] (fun T=>[(8, .bool T)]) r1 (?_) fun T25=>?_
    ·refine Wb<|Lu [1,2,4,6,7] (fun T=>[(8, .bool T.1), (9, iv T.2)]) r1 fun S23=>Sq<|Sr<|Qs 2 r<|Yo (Ln ke96 (Bc Z3) r)<|Qs 1 r<|Nx<|Wc r (fun H27=>?_) fun H27=>?_
     ·refine Sn<|Sq<|Wb<|Jv [1,2,4,6,7,9] (fun T=>[(8, .bool T)]) r1 (?_) fun T28=>?_
      ·refine Dr [0,0,0,0,0,0] r hMix<|Aq [0,1] [0,0,0,0,0,0] r<|Ia (fun H30=>?_) fun H30=>?_
       ·exact Ag 2 [0,0,0,0,0,0] (gdA (beq_tt H30)) r (Y.move r)<|Ag 3 [0,0,0,0,0,0] (gdA (beq_tt H30)) r (Y.move r)<|Ai fun E31 H32=>Ag 4 [0,0,0,0,0,0] (gdA (beq_tt H30)) r (Ix ke96 (Bc Z3) H32 r)<|Ag 5 [0,0,0,0,0,0] (gdA (beq_tt H30)) r (Fe kf129_0 (Bc Z3) H32 r)<|Ag 6 [0,0,0,0,0,0] (gdA (beq_tt H30)) r (Le kk9 (Bc Z3) H32 r)<|Ag 7 [0,0,0,0,0,0] (gdA (beq_tt H30)) r (Y.move r)<|Ag 8 [0,0,0,0,0,0] (gdA (beq_tt H30)) r (Y.move r)<|Ai fun E33 H34=>Ag 9 [0,0,0,0,0,0] (gdA (beq_tt H30)) r (Ix ke96 (Bc Z3) H34 r)<|Ag 10 [0,0,0,0,0,0] (gdA (beq_tt H30)) r (Fe kf129_0 (Bc Z3) H34 r)<|Ag 11 [0,0,0,0,0,0] (gdA (beq_tt H30)) r (Le kk9 (Bc Z3) H34 r)<|Ag 12 [0,0,0,0,0,0] (gdA (beq_tt H30)) r (Y.sneq r r)<|Ay 13 [0,0,0,0,0,0] r (Pt H30 r)<|Aq [14] [0,0,0,0,0,0] r<|Az<|Bg () [0,0,0,0,0,0]
       exact Ax [2,3,4,5,6,7,8,9,10,11,12] [0,0,0,0,0,0] (beq_ft H30) r r<|Ay 13 [0,0,0,0,0,0] r (Pf H30 r)<|Aq [14] [0,0,0,0,0,0] r<|Az<|Bg () [0,0,0,0,0,0]
      exact Bn<|Ne<|Rg<|Qs 3 r<|Nl<|Lg () [0,0,0,0,0,0]
     exact Wx<|Tx<|Ex<|Be<|Jg () [0,0,0,0,0,0]
    refine Ne<|Sr<|Qs 1 r<|Nx<|Jn Value [1,2,4,6,7] [0,0,0,0] (fun _ _=>[]) (fun T X=>[.box B13 58 [X, Y12.2.1, iv (IntKind.i64.wrap (R10.Seq + (1 : Int))), Y12.2.2], .own X (lc T)]) r2 r2 (?_) fun T35 X36=>?_
    ·refine Wc r (fun H37=>?_) fun H37=>?_
     ·refine Wi fun E38 H39=>Wi fun R40 H41=>Jw Value [1,2,4,6,7] [0,0,0,0] (fun _=>[]) (fun X=>[.box B13 58 [X, Y12.2.1, iv (IntKind.i64.wrap (R10.Seq + (1 : Int))), Y12.2.2], .own X (lc R40)]) r1 r1 (?_) fun X44=>?_
      ·refine Dr [0,0,0,0,1] r hMix<|Ay 0 [0,0,0,0,1] r (Fb kf58_0 r)<|Aq [2,3] [0,0,0,0,1] r<|Ay 4 [0,0,0,0,1] r (Ix ke96 (Bc Z3) H39 r)<|Ay 5 [0,0,0,0,1] r (Fe kf129_0 (Bc Z3) H39 r)<|Ay 6 [0,0,0,0,1] r (Le kk9 (Bc Z3) H39 r)<|Ay 7 [0,0,0,0,1] r (Fb kf58_2 r)<|Aq [9,10] [0,0,0,0,1] r<|Ay 11 [0,0,0,0,1] r (Ix ke96 (Bc Z3) H39 r)<|Ay 12 [0,0,0,0,1] r (Fe kf129_1 (Bc Z3) H39 r)<|Ay 13 [0,0,0,0,1] r (Le kk4 (Bc Z3) H39 r)<|Aq [14,15] [0,0,0,0,1] r<|Ay 16 [0,0,0,0,1] r (Ix ke96 (Bc Z3) H39 r)<|Ay 17 [0,0,0,0,1] r (Fe kf129_2 (Bc Z3) H39 r)<|Ay 18 [0,0,0,0,1] r (Le kk9 (Bc Z3) H39 r)<|A2 1 8 (?_)<|?_
       ·exact Xy [0,0,0,0,1] r (Lb 4 kk54 r)<|A1 8<|Xy [0,0,0,0,1] r (Lb 4 kk3 r)<|Ay 19 [0,0,0,0,1] r (Bd kp102 kz102 (Pc r (Cp r)<|Pc r (Cp r)<|Pc r (Cp r)<|Pc r (Cp r)<|Pz) r)<|A1 20<|Xe [1,1,1,1,2] r (Cl [] spec_l9Put_c H41 r r1 ⟨(Oc 5 r),⟨⟩⟩) fun Y45=>Ay 21 [1,1,1,1,2] r (Fb kf58_0 r)<|A1 22<|Xu [1,1,1,1,2] r (Sb 5 kk54 r (Co 0) r)<|Az<|Bg Y45 [1,1,1,1,1,0]
       exact Xy [0,0,0,0,1] r (Lb 4 kk3 r)<|Ay 19 [0,0,0,0,1] r (Bd kp102 kz102 (Pc r (Cp r)<|Pc r (Cp r)<|Pc r (Cp r)<|Pc r (Cp r)<|Pz) r)<|A1 1<|Xy [0,0,0,0,1] r (Lb 4 kk54 r)<|A1 20<|Xe [1,1,1,1,2] r (Cl [] spec_l9Put_c H41 r r1 ⟨(Oc 5 r),⟨⟩⟩) fun Y45=>Ay 21 [1,1,1,1,2] r (Fb kf58_0 r)<|A1 22<|Xu [1,1,1,1,2] r (Sb 5 kk54 r (Co 0) r)<|Az<|Bg Y45 [1,1,1,1,1,0]
      exact Jg X44 [0,0,0,0,0,0]
     exact Sk<|Jg X19 [0,0,0,0,0,0]
    exact Bn<|Ne<|Rg<|Qs 3 r<|Nl<|Lg X36 [0,0,0,0,0,0]
   exact Wx<|Tx<|Ex<|Be<|Jg X19 [0,0,0,0,0,0]
  refine Ne<|Sq<|Sr<|Yo (Lb 4 kk58 r)<|Bi fun R45 H46=>Fo (Cl [] spec_EngOk_c H46 r r1 ⟨(Oc 5 r),(Oc 2 r),(Oc 3 r),⟨⟩⟩) fun _=>Qs 1 r<|Nx<|Wc r (fun H48=>?_) fun H48=>?_
  ·exact Sr<|Yo (Lb 0 kk58 r)<|Fo (Cl [] spec_l20Copy_c H11 r r1 ⟨(Bc Z0),(Bc Z1),(Bc Z2),⟨⟩⟩) fun Y49=>Fu (Sb 4 kk58 r (Ca ⟨Ow' 0,Ow' 1,Op',Ow' 2,⟨⟩⟩) r)<|Qs 1 r<|Nx<|Wr<|Tr<|TE.leaf fun _ _ hf_ hs_ => ret_any (rs := [.cell 4 58, .tmp 5]) (vs := [.agg #[Y49.1, Y49.2.1, iv R10.Seq, Y49.2.2], .bool false]) (.inl r) r (RV.cell 4 r r kk58 r ⟨r, ⟨⟩⟩) hf_ hs_ ⟨(Y49.1, Y49.2.1, Y49.2.2), r, hs_.pulls [0, 0, 0] r⟩
  exact Sn<|Sr<|Yo (Lb 4 kk58 r)<|Fu (Sb 1 kk58 r (Ca ⟨Ow' 5,Ow' 2,Op',Ow' 3,⟨⟩⟩) r)<|Qs 1 r<|Nx<|Wr<|TE.leaf fun _ _ hf_ hs_ => ret_any (rs := [.cell 4 58, .tmp 5]) (vs := [.agg #[X21, Y12.2.1, iv (IntKind.i64.wrap (R10.Seq + (1 : Int))), Y12.2.2], .bool true]) (.inl r) r (RV.cell 1 r r kk58 r ⟨r, ⟨⟩⟩) hf_ hs_ ⟨(X21, Y12.2.1, Y12.2.2), r, hs_.pulls [5, 2, 2] r⟩

/-- loop.example/g00950/spec.l22Mine -/
noncomputable def spec_l22Mine (s : Store) (t : STen) : Option Bool :=
  (spec_KeyOf s.Keys t.Id).bind fun R3 =>
  bindC (loopO (fun (S7 : Int × Int × Int × List Ent × List (List Ent) × List Int) => if (decide (S7.2.2.1 < ((s.Rows.length : Nat) : Int))) = true then (bindC ((idx s.Rows S7.2.2.1).bind fun E14 =>
  if (!(decide (E14.Tenant = t.Id))) = true then (some (.go (S7.1, S7.2.1, S7.2.2.2.1, S7.2.2.2.2.1, S7.2.2.2.2.2)))
  else ((spec_OpenBatch R3 E14.Boot E14.Seq E14.Text).bind fun R18 =>
  (spec_EngPut ({ Mem := S7.2.2.2.1, Tables := S7.2.2.2.2.1, Seq := S7.2.1, Snaps := S7.2.2.2.2.2 : Eng }) R18.1).bind fun R21 =>
  (if (!R18.2) = true then (some (true, S7.2.2.2.2.1))
  else (if (!R21.2) = true then (some (true, S7.2.2.2.2.1))
  else (some (!(decide (E14.Seq = IntKind.i64.wrap (t.Base + (IntKind.i64.wrap (S7.1 + (1 : Int)))))), S7.2.2.2.2.1)))).bind (fun (T25 : Bool × List (List Ent)) =>
  if T25.1 = true then (some (.done (.done (.done false))))
  else (some (.go (IntKind.i64.wrap (S7.1 + (1 : Int)), R21.1.Seq, R21.1.Mem, R21.1.Tables, R21.1.Snaps))))))
  (fun (T12 : Int × Int × List Ent × List (List Ent) × List Int) => some (.go (T12.1, T12.2.1, IntKind.i64.wrap (S7.2.2.1 + (1 : Int)), T12.2.2.1, T12.2.2.2.1, T12.2.2.2.2))))
  else (some (.done (.go (S7.1, S7.2.1, S7.2.2.2.1, S7.2.2.2.2.1, S7.2.2.2.2.2)))))
  ((0 : Int), t.Base, (0 : Int), ([] : List Ent), t.Eng.Tables, ([] : List Int)))
  (fun (T9 : Int × Int × List Ent × List (List Ent) × List Int) => (if (!(decide (((T9.2.2.1.length : Nat) : Int) = ((t.Eng.Mem.length : Nat) : Int)))) = true then (some (true, T9.2.2.2.1))
  else (some (decide (((t.Eng.Tables.length : Nat) : Int) > (1 : Int)), T9.2.2.2.1))).bind (fun (T30 : Bool × List (List Ent)) =>
  if T30.1 = true then (some false)
  else (bindC (loopO (fun (S34 : Int × List (List Ent)) => if (decide (S34.1 < ((T9.2.2.1.length : Nat) : Int))) = true then ((idx T9.2.2.1 S34.1).bind fun E39 =>
  (idx t.Eng.Mem S34.1).bind fun E41 =>
  if (!(decide (E39.Key = E41.Key) && (decide (E39.Seq = E41.Seq) && (decide (E39.Del = E41.Del) && (decide (E39.Val = E41.Val) && true))))) = true then (some (.done (.done false)))
  else (some (.go (IntKind.i64.wrap (S34.1 + (1 : Int)), S34.2))))
  else (some (.done (.go ()))))
  ((0 : Int), T30.2))
  (fun (T36 : Unit) => (if (decide (T9.1 ≤ (6 : Int))) = true then (some (decide (IntKind.i64.wrap (t.Base + T9.1) = t.Eng.Seq)))
  else (some false)).bind (fun (T44 : Bool) =>
  some T44)))))

theorem spec_l22Mine_c {s : Store} {t : STen} {U0 U1 U2 U3 U4 U5 U6 U7 : Value} : Cn Tryz.prog 17 [.agg #[strV s.Secret, strV s.Keys.Master, U0, iv s.Keys.Wiped, iv s.Shares.Size, U1, U2, U3, U4, iv s.Boot], .agg #[iv t.Id, iv t.Epoch, iv t.Base, U5, U6, iv t.Eng.Seq, U7]] [] [(U0, lc s.Keys.Slots), (U1, lc s.Shares.List), (U2, lc s.Tens), (U3, lc s.Rows), (U4, lc s.Hist), (U5, lc t.Eng.Mem), (U6, lc t.Eng.Tables), (U7, lc t.Eng.Snaps)] (spec_l22Mine s t) (fun r (_ : Unit) => .bool r) fun _ _ => [] := by
  unfold spec_l22Mine
  refine Ci Tryz.func17 r r ?_
  rintro w S ⟨Z0,Z1,Z2,Z3,Z4,Z5,Z6,Z7,-⟩
  refine Sr<|Fo (Bx r (Ca ⟨Op',Op',Ob Z0,Op',Op',Ob Z1,Ob Z2,Ob Z3,Ob Z4,Op',⟨⟩⟩)) fun B1=>Fo (Bx r (Ca ⟨Op',Op',Op',Ob Z5,Ob Z6,Op',Ob Z7,⟨⟩⟩)) fun B2=>Qs 1 r<|Nx<|Sr<|Qs 1 r<|Nx<|Sr<|Yo (Fb kf43_1 r)<|Yo (Lb 1 kk36 r)<|Yo (Fb kf60_0 r)<|Yo (Lb 0 kk3 r)<|Bi fun R3 H4=>Fo (Cl [] spec_KeyOf_c H4 r r1 ⟨(Bc Z0),⟨⟩⟩) fun _=>Qs 1 r<|Nx<|Sr<|Yo (Fb kf60_3 r)<|Yo (Fb kf58_1 r)<|Yo (Lb 0 kk55 r)<|Yo (Fb kf60_2 r)<|Yo (Lb 0 kk3 r)<|Yo (Bd kp58 kz58 (Pc r (Cb Z6)<|Pc r (Cp r)<|Pz) r)<|Fo (Al kz58 r) fun B6=>?_
  refine Fu (Sb 0 kk58 r (Ca ⟨Op',Ob Z6,Op',Op',⟨⟩⟩) r)<|Nx<|Sq<|Sr<|Qs 1 r<|Nx<|Jn (Value × Value × Value) [3,7] [1] (fun T _=>[(5, iv T.1)]) (fun T X=>[.box B6 58 [X.1, X.2.1, iv T.2.1, X.2.2], .own X.1 (lc T.2.2.1), .alt X.2.1 (lc T.2.2.2.1) U6 (lc t.Eng.Tables), .own X.2.2 (lc T.2.2.2.2)]) r2 r2 (?_) fun T9 X10=>?_
  ·refine Wb<|Nw 4<|TW.conv (St.alt_new U6 (lc t.Eng.Tables))<|Nw 1<|Lp (Value × Value × Value) [2,3,6,7] [5,4] (fun T _=>[(5, iv T.1), (8, iv T.2.2.1)]) (fun T X=>[.box B6 58 [X.1, X.2.1, iv T.2.1, X.2.2], .own X.1 (lc T.2.2.2.1), .alt X.2.1 (lc T.2.2.2.2.1) U6 (lc t.Eng.Tables), .own X.2.2 (lc T.2.2.2.2.2)]) (.slice none 0 0, U6, .slice none 0 0) [5,4,3,2,1,0] r2 r2 fun S7 X8=>Sq<|Sr<|Qs 1 r<|Yo (Fb kf43_4 r)<|Yo (Lb 0 kk41 r)<|Yo (Ln ke41 (Bc Z3) r)<|Qs 1 r<|Nx<|Wc r (fun H11=>?_) fun H11=>?_
   ·refine Sn<|Sq<|Jn (Value × Value × Value) [2,3,6,7,8] [0,0] (fun T _=>[(5, iv T.1)]) (fun T X=>[.box B6 58 [X.1, X.2.1, iv T.2.1, X.2.2], .own X.1 (lc T.2.2.1), .alt X.2.1 (lc T.2.2.2.1) U6 (lc t.Eng.Tables), .own X.2.2 (lc T.2.2.2.2)]) r2 r2 (?_) fun T12 X13=>?_
    ·refine Wb<|Sr<|Yo (Fb kf43_4 r)<|Yo (Lb 0 kk41 r)<|Qs 1 r<|Bi fun E14 H15=>Yo (Ix ke41 (Bc Z3) H15 r)<|Yo (Le kk69 (Bc Z3) H15 r)<|Fo (Al kz69 r) fun B16=>Fu (Sb 0 kk69 r (Cp r) r)<|Nx<|Sq<|Sr<|Yo (Fb kf69_0 r)<|Yo (Lb 0 kk3 r)<|Yo (Fb kf60_0 r)<|Yo (Lb 2 kk3 r)<|Qs 1 r<|Nx<|Wc r (fun H17=>Wx<|Tx<|Be<|Jg (X8.1, X8.2.1, X8.2.2) [1,1,1,1,1,1]) fun H17=>Sn<|Sr<|Qs 3 r<|Nx<|Sr<|Qs 1 r<|Yo (Fb kf69_1 r)<|Yo (Lb 0 kk3 r)<|Yo (Fb kf69_2 r)<|Yo (Lb 0 kk3 r)<|Yo (Fb kf69_3 r)<|Yo (Lb 0 kk9 r)<|Bi fun R18 H19=>Fo (Cl [] spec_OpenBatch_c H19 r r1) fun Y20=>?_
     refine Qs 5 r<|Nx<|Sr<|Yo (Lb 4 kk58 r)<|Qs 1 r<|Bi fun R21 H22=>Fo (Cl [] spec_EngPut_c H22 r r1 ⟨(Oc 5 r),(Can.altb 6 rfl Z6),(Oc 7 r),(Oc 0 r),⟨⟩⟩) fun Y23=>Qs 3 r<|Fo (Al kz58 r) fun B24=>Fu (Sb 0 kk58 r (Ca ⟨Ow' 1,Ow' 2,Op',Ow' 3,⟨⟩⟩) r)<|Qs 1 r<|Nx<|Sq<|Sq<|Jb Value [2,3,5,6,7,8,12] [6,6,0,6,7,0,0,0] (fun T _=>[(76, .bool T.1)]) (fun T X=>[.box B6 58 [X8.1, X, iv S7.2.1, X8.2.2], .alt X (lc T.2) U6 (lc t.Eng.Tables)]) r2 r2 (?_) fun T25 X26=>?_
     ·exact Rg<|Qs 3 r<|It (fun H27=>Of 2 (beq_tf H27) r r<|Yo (Pt H27 r)<|Qs 1 r<|Of 7 r r r<|Yo (Pt r r)<|Nl<|Bg X8.2.1 [6,6,0,6,7,0,0,0,2,2]) fun H27=>Qg 2 (beq_ff H27) r r<|Yo (Pf H27 r)<|Qs 1 r<|It (fun H28=>Of 7 (beq_tf H28) r r<|Yo (Pt H28 r)<|Nl<|Bg X8.2.1 [6,6,0,6,7,0,0,0,2,2]) fun H28=>Yg (gdA (beq_ff H28)) (Fb kf69_2 r)<|Yg (gdA (beq_ff H28)) (Lb 5 kk3 r)<|Yg (gdA (beq_ff H28)) (Fb kf60_2 r)<|Yg (gdA (beq_ff H28)) (Lb 7 kk3 r)<|Qg 3 (beq_ff H28) r r<|Yo (Pf H28 r)<|Nl<|Bg X8.2.1 [6,6,0,6,7,0,0,0,2,2]
     exact Ne<|Wc r (fun H29=>Sr<|Qs 1 r<|Nx<|Wr<|Tr<|Br<|Jd<|Tr<|Er<|Br<|Jd<|Tr<|Re () []) fun H29=>Sn<|Rg<|Yo (Lb 2 kk58 r)<|Fu (Sb 8 kk58 r (Ca ⟨Ow' 5,Ow' 6,Op',Ow' 7,⟨⟩⟩) r)<|Nl<|Bn<|TE.conv (is' := [.box B1 43 [strV s.Secret, strV s.Keys.Master, U0, iv s.Keys.Wiped, iv s.Shares.Size, U1, U2, U3, U4, iv s.Boot], .box B2 60 [iv t.Id, iv t.Epoch, iv t.Base, U5, U6, iv t.Eng.Seq, U7], .box B24 58 [Y23.1, Y23.2.1, iv R21.1.Seq, Y23.2.2], .own X8.1 (lc S7.2.2.2.1), .own X8.2.2 (lc S7.2.2.2.2.2), .own Y23.1 (lc R21.1.Mem), .alt Y23.2.1 (lc R21.1.Tables) U6 (lc t.Eng.Tables), .own Y23.2.2 (lc R21.1.Snaps), .box B6 58 [Y23.1, Y23.2.1, iv R21.1.Seq, Y23.2.2], .alt X26 (lc T25.2) U6 (lc t.Eng.Tables)]) (St.alt_own (i := 6) U6 (lc t.Eng.Tables) r r)<|Jg (Y23.1, Y23.2.1, Y23.2.2) [0,0,6,3,3,3]
    exact Ne<|Rg<|Qs 3 r<|Nl<|Lg (X13.1, X13.2.1, X13.2.2) [0,0,0,0,0,0]
   exact Wx<|Tx<|Ex<|Be<|Jg (X8.1, X8.2.1, X8.2.2) [1,1,1,1,1]
  refine Ne<|Sq<|Sq<|Jb Value [3,5,7] [0,1,2] (fun T _=>[(92, .bool T.1)]) (fun T X=>[.box B6 58 [X10.1, X, iv T9.2.1, X10.2.2], .alt X (lc T.2) U6 (lc t.Eng.Tables)]) r2 r2 (?_) fun T30 X31=>?_
  ·exact Rg<|Yo (Fb kf58_0 r)<|Yo (Lb 1 kk54 r)<|Yo (Ln ke54 (Oc 2 r) r)<|Yo (Fb kf60_3 r)<|Yo (Fb kf58_0 r)<|Yo (Lb 0 kk54 r)<|Yo (Ln ke54 (Bc Z5) r)<|Qs 2 r<|It (fun H32=>Of 5 (beq_tf H32) r r<|Yo (Pt H32 r)<|Nl<|Bg X10.2.1 [0,1,2,0,0]) fun H32=>Yg (gdA (beq_ff H32)) (Fb kf60_3 r)<|Yg (gdA (beq_ff H32)) (Fb kf58_1 r)<|Yg (gdA (beq_ff H32)) (Lb 0 kk55 r)<|Yg (gdA (beq_ff H32)) (Ln ke55 (Bc Z6) r)<|Qg 1 (beq_ff H32) r r<|Yo (Pf H32 r)<|Nl<|Bg X10.2.1 [0,1,2,0,0]
  refine Ne<|Wc r (fun H33=>Sr<|Qs 1 r<|Nx<|Wr<|Tr<|Re () []) fun H33=>Sn<|Sq<|Sr<|Qs 1 r<|Nx<|Jn Unit [3,5] [0] (fun _ _=>[]) (fun _ _=>[]) r2 r2 (?_) fun T36 X37=>?_
  ·refine Wb<|Lp Value [3,5,7] [0,0,0] (fun T _=>[(14, iv T.1)]) (fun T X=>[.box B6 58 [X10.1, X, iv T9.2.1, X10.2.2], .alt X (lc T.2) U6 (lc t.Eng.Tables)]) X31 [0,0,0,0,0] r2 r2 fun S34 X35=>Sq<|Sr<|Qs 1 r<|Yo (Fb kf58_0 r)<|Yo (Lb 3 kk54 r)<|Yo (Ln ke54 (Oc 1 r) r)<|Qs 1 r<|Nx<|Wc r (fun H38=>?_) fun H38=>?_
   ·refine Sn<|Sq<|Wb<|Sq<|Dr [0,0,0,0,0] r hMix<|Ay 0 [0,0,0,0,0] r (Fb kf58_0 r)<|Ay 1 [0,0,0,0,0] r (Lb 3 kk54 r)<|Aq [2] [0,0,0,0,0] r<|Ai fun E39 H40=>Ay 3 [0,0,0,0,0] r (Ix ke54 (Oc 1 r) H40 r)<|Ay 4 [0,0,0,0,0] r (Le kk102 (Oc 1 r) H40 r)<|Ay 5 [0,0,0,0,0] r (Fb kf60_3 r)<|Ay 6 [0,0,0,0,0] r (Fb kf58_0 r)<|Ay 7 [0,0,0,0,0] r (Lb 0 kk54 r)<|Aq [8] [0,0,0,0,0] r<|Ai fun E41 H42=>Ay 9 [0,0,0,0,0] r (Ix ke54 (Bc Z5) H42 r)<|Ay 10 [0,0,0,0,0] r (Le kk102 (Bc Z5) H42 r)<|Ay 11 [0,0,0,0,0] r (Y.neqA keq102 (EqA.str (EqA.int (EqA.bool (EqA.str EqA.nil)))) r r)<|Az<|Ne<|Wc r (fun H43=>Sr<|Qs 1 r<|Nx<|Wr<|Br<|Tr<|Er<|Br<|Jd<|Tr<|Re () []) fun H43=>?_
    exact Sk<|Bn<|Ne<|Rg<|Qs 3 r<|Nl<|Lg X35 [0,0,0,0,0]
   exact Wx<|Tx<|Ex<|Be<|Jg () [0]
  refine Ne<|Sq<|Jb Unit [] [] (fun T _=>[(4, .bool T)]) (fun _ _=>[]) r2 r2 (?_) fun T44 X45=>?_
  ·exact Rg<|Qs 3 r<|It (fun H46=>Yg (gdA (beq_tt H46)) (Fb kf60_2 r)<|Yg (gdA (beq_tt H46)) (Lb 0 kk3 r)<|Qg 2 (beq_tt H46) r r<|Yg (gdA (beq_tt H46)) (Fb kf60_3 r)<|Yg (gdA (beq_tt H46)) (Fb kf58_2 r)<|Yg (gdA (beq_tt H46)) (Lb 0 kk3 r)<|Qg 1 (beq_tt H46) r r<|Yo (Pt H46 r)<|Qs 1 r<|Nl<|Bg () []) fun H46=>Of 8 (beq_ft H46) r r<|Yo (Pf H46 r)<|Qs 1 r<|Nl<|Bg () []
  exact Ne<|Wr<|Re () []

/-- loop.example/g00950/spec.l22At -/
noncomputable def spec_l22At (l : List STen) (id : Int) : Option Int :=
  bindC (loopO (fun (S1 : Int) => if (decide (S1 < ((l.length : Nat) : Int))) = true then ((idx l S1).bind fun E6 =>
  if (decide (E6.Id = id)) = true then (some (.done (.done S1)))
  else (some (.go (IntKind.i64.wrap (S1 + (1 : Int))))))
  else (some (.done (.go ()))))
  (0 : Int))
  (fun (T3 : Unit) => some (-1 : Int))

theorem spec_l22At_c {l : List STen} {id : Int} {U0 : Value} : Cn Tryz.prog 18 [U0, iv id] [] [(U0, lc l)] (spec_l22At l id) (fun r (_ : Unit) => iv r) fun _ _ => [] := by
  unfold spec_l22At
  refine Ci Tryz.func18 r r ?_
  rintro w S ⟨Z0,-⟩
  refine Sr<|Qs 1 r<|Nx<|Sq<|Sr<|Qs 1 r<|Nx<|Ju [] (fun _=>[]) r1 (?_) fun T3=>?_
  ·exact Wb<|Lu [0,1] (fun T=>[(5, iv T)]) r1 fun S1=>Sq<|Sr<|Qs 2 r<|Yo (Ln ke40 (Bc Z0) r)<|Qs 1 r<|Nx<|Wc r (fun H5=>Sn<|Sq<|Wb<|Sr<|Qs 2 r<|Bi fun E6 H7=>Yo (Ix ke40 (Bc Z0) H7 r)<|Yo (Fe kf60_0 (Bc Z0) H7 r)<|Yo (Le kk3 (Bc Z0) H7 r)<|Qs 2 r<|Nx<|Wc r (fun H8=>Sr<|Qs 2 r<|Nx<|Wr<|Br<|Tr<|Er<|Br<|Jd<|Tr<|Re () []) fun H8=>Sk<|Bn<|Ne<|Rg<|Qs 3 r<|Nl<|Lg () []) fun H5=>Wx<|Tx<|Ex<|Be<|Jg () []
  exact Ne<|Sr<|Qs 1 r<|Nx<|Wr<|Re () []

/-- loop.example/g00950/spec.StoreOk -/
noncomputable def spec_StoreOk (s : Store) : Option Bool :=
  (if (!(decide (((s.Secret.length : Nat) : Int) = (32 : Int)))) = true then (some true)
  else ((spec_KeyOk s.Keys).bind fun R5 =>
  if (!R5) = true then (some true)
  else ((spec_SharesOk s.Shares).bind fun R9 =>
  if (!R9) = true then (some true)
  else (if (!(decide (((s.Tens.length : Nat) : Int) = ((s.Keys.Slots.length : Nat) : Int)))) = true then (some true)
  else (if (!(decide (((s.Tens.length : Nat) : Int) = ((s.Shares.List.length : Nat) : Int)))) = true then (some true)
  else ((spec_l1In s.Boot (0 : Int) (1000 : Int)).bind fun R15 =>
  if (!R15) = true then (some true)
  else (some (decide (((s.Hist.length : Nat) : Int) > (120 : Int)))))))))).bind (fun (T2 : Bool) =>
  if T2 = true then (some false)
  else (bindC (loopO (fun (S20 : Int) => if (decide (S20 < ((s.Tens.length : Nat) : Int))) = true then ((idx s.Tens S20).bind fun E25 =>
  ((idx s.Keys.Slots S20).bind fun E33 =>
  if (!(decide (E25.Id = E33.Tenant))) = true then (some true)
  else ((idx s.Shares.List S20).bind fun E36 =>
  if (!(decide (E25.Id = E36.Tenant))) = true then (some true)
  else ((spec_l1In E25.Epoch (0 : Int) (1000000 : Int)).bind fun R39 =>
  if (!R39) = true then (some true)
  else ((spec_l1In E25.Base (0 : Int) (1000000 : Int)).bind fun R43 =>
  if (!R43) = true then (some true)
  else ((spec_EngOk E25.Eng).bind fun R47 =>
  if (!R47) = true then (some true)
  else (if (decide (((E25.Eng.Snaps.length : Nat) : Int) > (2 : Int))) = true then (some true)
  else ((spec_l22Mine s E25).bind fun R52 =>
  some (!R52)))))))).bind (fun (T31 : Bool) =>
  if T31 = true then (some (.done (.done false)))
  else (some (.go (IntKind.i64.wrap (S20 + (1 : Int)))))))
  else (some (.done (.go ()))))
  (0 : Int))
  (fun (T22 : Unit) => bindC (loopO (fun (S56 : Int) => if (decide (S56 < ((s.Rows.length : Nat) : Int))) = true then ((idx s.Rows S56).bind fun E61 =>
  (spec_l22At s.Tens E61.Tenant).bind fun R63 =>
  if (decide (R63 < (0 : Int))) = true then (some (.done (.done false)))
  else (some (.go (IntKind.i64.wrap (S56 + (1 : Int))))))
  else (some (.done (.go ()))))
  (0 : Int))
  (fun (T58 : Unit) => some true))))

theorem spec_StoreOk_c {s : Store} {U0 U1 U2 U3 U4 : Value} : Cn Tryz.prog 5 [.agg #[strV s.Secret, strV s.Keys.Master, U0, iv s.Keys.Wiped, iv s.Shares.Size, U1, U2, U3, U4, iv s.Boot]] [] [(U0, lc s.Keys.Slots), (U1, lc s.Shares.List), (U2, lc s.Tens), (U3, lc s.Rows), (U4, lc s.Hist)] (spec_StoreOk s) (fun r (_ : Unit) => .bool r) fun _ _ => [] := by
  unfold spec_StoreOk
  refine Ci Tryz.func5 r r ?_
  rintro w S ⟨Z0,Z1,Z2,Z3,Z4,-⟩
  refine Sr<|Fo (Bx r (Ca ⟨Op',Op',Ob Z0,Op',Op',Ob Z1,Ob Z2,Ob Z3,Ob Z4,Op',⟨⟩⟩)) fun B1=>Qs 1 r<|Nx<|Sq<|Sq<|Jv [1] (fun T=>[(53, .bool T)]) r1 (?_) fun T2=>?_
  ·refine Rg<|Yo (Fb kf43_0 r)<|Yo (Lb 0 kk9 r)<|Yo (Y.slen ks9 r)<|Qs 2 r<|It (fun H4=>Of 4 (beq_tf H4) r r<|Yo (Pt H4 r)<|Qs 1 r<|Of 4 r r r<|Yo (Pt r r)<|Qs 1 r<|Of 8 r r r<|Yo (Pt r r)<|Qs 1 r<|Of 8 r r r<|Yo (Pt r r)<|Qs 1 r<|Of 4 r r r<|Yo (Pt r r)<|Qs 1 r<|Of 4 r r r<|Yo (Pt r r)<|Nl<|Bg () [0]) fun H4=>Yg (gdA (beq_ff H4)) (Fb kf43_1 r)<|Yg (gdA (beq_ff H4)) (Lb 0 kk36 r)<|Bi fun R5 H6=>Fg (gdA (beq_ff H4)) (Cl [] spec_KeyOk_c H6 r r1 ⟨(Bc Z0),⟨⟩⟩) fun _=>Qg 1 (beq_ff H4) r r<|Yo (Pf H4 r)<|Qs 1 r<|It (fun H8=>Of 4 (beq_tf H8) r r<|Yo (Pt H8 r)<|Qs 1 r<|Of 8 r r r<|Yo (Pt r r)<|Qs 1 r<|Of 8 r r r<|Yo (Pt r r)<|Qs 1 r<|Of 4 r r r<|Yo (Pt r r)<|Qs 1 r<|Of 4 r r r<|Yo (Pt r r)<|Nl<|Bg () [0]) fun H8=>?_
   refine Yg (gdA (beq_ff H8)) (Fb kf43_2 r)<|Yg (gdA (beq_ff H8)) (Lb 0 kk39 r)<|Bi fun R9 H10=>Fg (gdA (beq_ff H8)) (Cl [] spec_SharesOk_c H10 r r1 ⟨(Bc Z1),⟨⟩⟩) fun _=>Qg 1 (beq_ff H8) r r<|Yo (Pf H8 r)<|Qs 1 r<|It (fun H12=>Of 8 (beq_tf H12) r r<|Yo (Pt H12 r)<|Qs 1 r<|Of 8 r r r<|Yo (Pt r r)<|Qs 1 r<|Of 4 r r r<|Yo (Pt r r)<|Qs 1 r<|Of 4 r r r<|Yo (Pt r r)<|Nl<|Bg () [0]) fun H12=>Yg (gdA (beq_ff H12)) (Fb kf43_3 r)<|Yg (gdA (beq_ff H12)) (Lb 0 kk40 r)<|Yg (gdA (beq_ff H12)) (Ln ke40 (Bc Z2) r)<|Yg (gdA (beq_ff H12)) (Fb kf43_1 r)<|Yg (gdA (beq_ff H12)) (Fb kf36_1 r)<|Yg (gdA (beq_ff H12)) (Lb 0 kk34 r)<|Yg (gdA (beq_ff H12)) (Ln ke34 (Bc Z0) r)<|Qg 1 (beq_ff H12) r r<|Yo (Pf H12 r)<|Qs 1 r<|It (fun H13=>Of 8 (beq_tf H13) r r<|Yo (Pt H13 r)<|Qs 1 r<|Of 4 r r r<|Yo (Pt r r)<|Qs 1 r<|Of 4 r r r<|Yo (Pt r r)<|Nl<|Bg () [0]) fun H13=>?_
   refine Yg (gdA (beq_ff H13)) (Fb kf43_3 r)<|Yg (gdA (beq_ff H13)) (Lb 0 kk40 r)<|Yg (gdA (beq_ff H13)) (Ln ke40 (Bc Z2) r)<|Yg (gdA (beq_ff H13)) (Fb kf43_2 r)<|Yg (gdA (beq_ff H13)) (Fb kf39_1 r)<|Yg (gdA (beq_ff H13)) (Lb 0 kk37 r)<|Yg (gdA (beq_ff H13)) (Ln ke37 (Bc Z1) r)<|Qg 1 (beq_ff H13) r r<|Yo (Pf H13 r)<|Qs 1 r<|It (fun H14=>Of 4 (beq_tf H14) r r<|Yo (Pt H14 r)<|Qs 1 r<|Of 4 r r r<|Yo (Pt r r)<|Nl<|Bg () [0]) fun H14=>Yg (gdA (beq_ff H14)) (Fb kf43_6 r)<|Yg (gdA (beq_ff H14)) (Lb 0 kk3 r)<|Bi fun R15 H16=>Fg (gdA (beq_ff H14)) (Cl [] spec_l1In_c H16 r r1) fun _=>?_
   exact Qg 1 (beq_ff H14) r r<|Yo (Pf H14 r)<|Qs 1 r<|It (fun H18=>Of 4 (beq_tf H18) r r<|Yo (Pt H18 r)<|Nl<|Bg () [0]) fun H18=>Yg (gdA (beq_ff H18)) (Fb kf43_5 r)<|Yg (gdA (beq_ff H18)) (Lb 0 kk41 r)<|Yg (gdA (beq_ff H18)) (Ln ke41 (Bc Z4) r)<|Qg 1 (beq_ff H18) r r<|Yo (Pf H18 r)<|Nl<|Bg () [0]
  refine Ne<|Wc r (fun H19=>Sr<|Qs 1 r<|Nx<|Wr<|Tr<|Re () []) fun H19=>Sn<|Sq<|Sr<|Qs 1 r<|Nx<|Ju [1] (fun _=>[]) r1 (?_) fun T22=>?_
  ·refine Wb<|Lu [1] (fun T=>[(3, iv T)]) r1 fun S20=>Sq<|Sr<|Qs 1 r<|Yo (Fb kf43_3 r)<|Yo (Lb 0 kk40 r)<|Yo (Ln ke40 (Bc Z2) r)<|Qs 1 r<|Nx<|Wc r (fun H24=>?_) fun H24=>?_
   ·refine Sn<|Sq<|Wb<|Sr<|Yo (Fb kf43_3 r)<|Yo (Lb 0 kk40 r)<|Qs 1 r<|Bi fun E25 H26=>Yo (Ix ke40 (Bc Z2) H26 r)<|?_
    have Q27 : Base w S (elv w U2 (S20.toNat * 7 + 3)) (lc E25.Eng.Mem):=Base.el Z2 (idx_get H26).2.2 r r
    have Q28 : Base w S (elv w U2 (S20.toNat * 7 + 4)) (lc E25.Eng.Tables):=Base.el Z2 (idx_get H26).2.2 r r
    have Q29 : Base w S (elv w U2 (S20.toNat * 7 + 6)) (lc E25.Eng.Snaps):=Base.el Z2 (idx_get H26).2.2 r r
    refine Yo (Lz kk60 Z2 H26 r)<|Fo (Al kz60 r) fun B30=>Fu (Sb 0 kk60 r (Ca ⟨Op',Op',Op',Ob Q27,Ob Q28,Op',Ob Q29,⟨⟩⟩) r)<|Nx<|Sq<|Jb Unit [1,3] [1] (fun T _=>[(118, .bool T)]) (fun _ _=>[]) r2 r2 (?_) fun T31 X32=>?_
    ·refine Dr [0,0] r hMix<|Ay 0 [0,0] r (Fb kf60_0 r)<|Ay 1 [0,0] r (Lb 0 kk3 r)<|Ay 2 [0,0] r (Fb kf43_1 r)<|Ay 3 [0,0] r (Fb kf36_1 r)<|Ay 4 [0,0] r (Lb 1 kk34 r)<|Aq [5] [0,0] r<|Ai fun E33 H34=>Ay 6 [0,0] r (Ix ke34 (Bc Z0) H34 r)<|Ay 7 [0,0] r (Fe kf62_0 (Bc Z0) H34 r)<|Ay 8 [0,0] r (Le kk3 (Bc Z0) H34 r)<|Aq [9,10] [0,0] r<|Ia (fun H35=>?_) fun H35=>?_
     ·exact Ax [11,12,13,14,15,16,17,18,19,20] [0,0] (beq_tf H35) r r<|Ay 21 [0,0] r (Pt H35 r)<|Aq [22] [0,0] r<|Ax [23,24,25,26] [0,0] r r r<|Ay 27 [0,0] r (Pt r r)<|Aq [28] [0,0] r<|Ax [29,30,31,32] [0,0] r r r<|Ay 33 [0,0] r (Pt r r)<|Aq [34] [0,0] r<|Ax [35,36,37,38] [0,0] r r r<|Ay 39 [0,0] r (Pt r r)<|Aq [40] [0,0] r<|Ax [41,42,43,44,45] [0,0] r r r<|Ay 46 [0,0] r (Pt r r)<|Aq [47] [0,0] r<|Ax [48,49,50,51] [0,0] r r r<|Ay 52 [0,0] r (Pt r r)<|Az<|Bg () [1]
     refine Ag 11 [0,0] (gdA (beq_ff H35)) r (Fb kf60_0 r)<|Ag 12 [0,0] (gdA (beq_ff H35)) r (Lb 0 kk3 r)<|Ag 13 [0,0] (gdA (beq_ff H35)) r (Fb kf43_2 r)<|Ag 14 [0,0] (gdA (beq_ff H35)) r (Fb kf39_1 r)<|Ag 15 [0,0] (gdA (beq_ff H35)) r (Lb 1 kk37 r)<|Ag 16 [0,0] (gdA (beq_ff H35)) r (Y.move r)<|Ai fun E36 H37=>Ag 17 [0,0] (gdA (beq_ff H35)) r (Ix ke37 (Bc Z1) H37 r)<|Ag 18 [0,0] (gdA (beq_ff H35)) r (Fe kf64_0 (Bc Z1) H37 r)<|Ag 19 [0,0] (gdA (beq_ff H35)) r (Le kk3 (Bc Z1) H37 r)<|Ag 20 [0,0] (gdA (beq_ff H35)) r (Y.neq r r)<|Ay 21 [0,0] r (Pf H35 r)<|Aq [22] [0,0] r<|Ia (fun H38=>?_) fun H38=>?_
     ·exact Ax [23,24,25,26] [0,0] (beq_tf H38) r r<|Ay 27 [0,0] r (Pt H38 r)<|Aq [28] [0,0] r<|Ax [29,30,31,32] [0,0] r r r<|Ay 33 [0,0] r (Pt r r)<|Aq [34] [0,0] r<|Ax [35,36,37,38] [0,0] r r r<|Ay 39 [0,0] r (Pt r r)<|Aq [40] [0,0] r<|Ax [41,42,43,44,45] [0,0] r r r<|Ay 46 [0,0] r (Pt r r)<|Aq [47] [0,0] r<|Ax [48,49,50,51] [0,0] r r r<|Ay 52 [0,0] r (Pt r r)<|Az<|Bg () [1]
     refine Ag 23 [0,0] (gdA (beq_ff H38)) r (Fb kf60_1 r)<|Ag 24 [0,0] (gdA (beq_ff H38)) r (Lb 0 kk3 r)<|Ai fun R39 H40=>A1 25<|Xeg [0,0] (gdA (beq_ff H38)) r (Cl [] spec_l1In_c H40 r r1) fun _=>Ag 26 [0,0] (gdA (beq_ff H38)) r (Y.not r)<|Ay 27 [0,0] r (Pf H38 r)<|Aq [28] [0,0] r<|Ia (fun H42=>?_) fun H42=>?_
     ·exact Ax [29,30,31,32] [0,0] (beq_tf H42) r r<|Ay 33 [0,0] r (Pt H42 r)<|Aq [34] [0,0] r<|Ax [35,36,37,38] [0,0] r r r<|Ay 39 [0,0] r (Pt r r)<|Aq [40] [0,0] r<|Ax [41,42,43,44,45] [0,0] r r r<|Ay 46 [0,0] r (Pt r r)<|Aq [47] [0,0] r<|Ax [48,49,50,51] [0,0] r r r<|Ay 52 [0,0] r (Pt r r)<|Az<|Bg () [1]
     refine Ag 29 [0,0] (gdA (beq_ff H42)) r (Fb kf60_2 r)<|Ag 30 [0,0] (gdA (beq_ff H42)) r (Lb 0 kk3 r)<|Ai fun R43 H44=>A1 31<|Xeg [0,0] (gdA (beq_ff H42)) r (Cl [] spec_l1In_c H44 r r1) fun _=>Ag 32 [0,0] (gdA (beq_ff H42)) r (Y.not r)<|Ay 33 [0,0] r (Pf H42 r)<|Aq [34] [0,0] r<|Ia (fun H46=>Ax [35,36,37,38] [0,0] (beq_tf H46) r r<|Ay 39 [0,0] r (Pt H46 r)<|Aq [40] [0,0] r<|Ax [41,42,43,44,45] [0,0] r r r<|Ay 46 [0,0] r (Pt r r)<|Aq [47] [0,0] r<|Ax [48,49,50,51] [0,0] r r r<|Ay 52 [0,0] r (Pt r r)<|Az<|Bg () [1]) fun H46=>Ag 35 [0,0] (gdA (beq_ff H46)) r (Fb kf60_3 r)<|Ag 36 [0,0] (gdA (beq_ff H46)) r (Lb 0 kk58 r)<|Ai fun R47 H48=>?_
     refine A1 37<|Xeg [0,0] (gdA (beq_ff H46)) r (Cl [] spec_EngOk_c H48 r r1 ⟨(Bc Q27),(Bc Q28),(Bc Q29),⟨⟩⟩) fun _=>Ag 38 [0,0] (gdA (beq_ff H46)) r (Y.not r)<|Ay 39 [0,0] r (Pf H46 r)<|Aq [40] [0,0] r<|Ia (fun H50=>Ax [41,42,43,44,45] [0,0] (beq_tf H50) r r<|Ay 46 [0,0] r (Pt H50 r)<|Aq [47] [0,0] r<|Ax [48,49,50,51] [0,0] r r r<|Ay 52 [0,0] r (Pt r r)<|Az<|Bg () [1]) fun H50=>Ag 41 [0,0] (gdA (beq_ff H50)) r (Fb kf60_3 r)<|Ag 42 [0,0] (gdA (beq_ff H50)) r (Fb kf58_3 r)<|Ag 43 [0,0] (gdA (beq_ff H50)) r (Lb 0 kk56 r)<|Ag 44 [0,0] (gdA (beq_ff H50)) r (Ln ke56 (Bc Q29) r)<|Ag 45 [0,0] (gdA (beq_ff H50)) r (Y.gtr r r)<|Ay 46 [0,0] r (Pf H50 r)<|Aq [47] [0,0] r<|Ia (fun H51=>Ax [48,49,50,51] [0,0] (beq_tf H51) r r<|Ay 52 [0,0] r (Pt H51 r)<|Az<|Bg () [1]) fun H51=>?_
     exact Ag 48 [0,0] (gdA (beq_ff H51)) r (Lb 1 kk43 r)<|Ag 49 [0,0] (gdA (beq_ff H51)) r (Lb 0 kk60 r)<|Ai fun R52 H53=>A1 50<|Xeg [0,0] (gdA (beq_ff H51)) r (Cl [] spec_l22Mine_c H53 r r1 ⟨(Bc Z0),(Bc Z1),(Bc Z2),(Bc Z3),(Bc Z4),(Bc Q27),(Bc Q28),(Bc Q29),⟨⟩⟩) fun _=>Ag 51 [0,0] (gdA (beq_ff H51)) r (Y.not r)<|Ay 52 [0,0] r (Pf H51 r)<|Az<|Bg () [1]
    exact Ne<|Wc r (fun H55=>Sr<|Qs 1 r<|Nx<|Wr<|Br<|Tr<|Er<|Br<|Jd<|Tr<|Re () []) fun H55=>Sk<|Bn<|Ne<|Rg<|Qs 3 r<|Nl<|Lg () [0]
   exact Wx<|Tx<|Ex<|Be<|Jg () [0]
  refine Ne<|Sq<|Sr<|Qs 1 r<|Nx<|Jn Unit [] [] (fun _ _=>[]) (fun _ _=>[]) r2 r2 (?_) fun T58 X59=>?_
  ·refine Wb<|Lu [1] (fun T=>[(5, iv T)]) r1 fun S56=>Sq<|Sr<|Qs 1 r<|Yo (Fb kf43_4 r)<|Yo (Lb 0 kk41 r)<|Yo (Ln ke41 (Bc Z3) r)<|Qs 1 r<|Nx<|Wc r (fun H60=>?_) fun H60=>?_
   ·exact Sn<|Sq<|Wb<|Sq<|Dr [0] r hMix<|Ay 0 [0] r (Fb kf43_3 r)<|Ay 1 [0] r (Lb 0 kk40 r)<|Ay 2 [0] r (Fb kf43_4 r)<|Ay 3 [0] r (Lb 0 kk41 r)<|Aq [4] [0] r<|Ai fun E61 H62=>Ay 5 [0] r (Ix ke41 (Bc Z3) H62 r)<|Ay 6 [0] r (Fe kf69_0 (Bc Z3) H62 r)<|Ay 7 [0] r (Le kk3 (Bc Z3) H62 r)<|Ai fun R63 H64=>A1 8<|Xe [0] r (Cl [] spec_l22At_c H64 r r1 ⟨(Bc Z2),⟨⟩⟩) fun _=>Aq [9] [0] r<|Az<|Ne<|Wc r (fun H66=>Sr<|Qs 1 r<|Nx<|Wr<|Br<|Tr<|Er<|Br<|Jd<|Tr<|Re () []) fun H66=>Sk<|Bn<|Ne<|Rg<|Qs 3 r<|Nl<|Lg () [0]
   exact Wx<|Tx<|Ex<|Be<|Jg () []
  exact Ne<|Sr<|Qs 1 r<|Nx<|Wr<|Re () []

/-- loop.example/g00950/impl.inRange -/
noncomputable def impl_inRange (n : Int) (least : Int) (most : Int) : Option Bool :=
  (if (decide (n ≥ least)) = true then (some (decide (n ≤ most)))
  else (some false)).bind (fun (T1 : Bool) =>
  some T1)

theorem impl_inRange_c {n : Int} {least : Int} {most : Int} : Cn Tryz.prog 25 [iv n, iv least, iv most] [] [] (impl_inRange n least most) (fun r (_ : Unit) => .bool r) fun _ _ => [] := by
  unfold impl_inRange
  refine Ci Tryz.func25 r r ?_
  rintro w S -
  exact Sr<|Qs 1 r<|Nx<|Sq<|Jv [] (fun T=>[(6, .bool T)]) r1 (Rg<|Qs 4 r<|It (fun H3=>Qg 3 (beq_tt H3) r r<|Yo (Pt H3 r)<|Qs 1 r<|Nl<|Bg () []) fun H3=>Of 3 (beq_ft H3) r r<|Yo (Pf H3 r)<|Qs 1 r<|Nl<|Bg () []) fun T1=>Ne<|Wr<|Re () []

/-- loop.example/g00950/impl.isNumber -/
noncomputable def impl_isNumber (n : Int) : Option Bool :=
  (impl_inRange n (0 : Int) (1000000 : Int)).bind fun R1 =>
  some R1

theorem impl_isNumber_c {n : Int} : Cn Tryz.prog 47 [iv n] [] [] (impl_isNumber n) (fun r (_ : Unit) => .bool r) fun _ _ => [] := by
  unfold impl_isNumber
  refine Ci Tryz.func47 r r ?_
  rintro w S -
  exact Sr<|Qs 1 r<|Nx<|Sr<|Qs 1 r<|Bi fun R1 H2=>Fo (Cl [] impl_inRange_c H2 r r1) fun _=>Qs 1 r<|Nx<|Wr<|Re () []

/-- loop.example/g00950/impl.isTenant -/
noncomputable def impl_isTenant (n : Int) : Option Bool :=
  (impl_inRange n (1 : Int) (99 : Int)).bind fun R1 =>
  some R1

theorem impl_isTenant_c {n : Int} : Cn Tryz.prog 48 [iv n] [] [] (impl_isTenant n) (fun r (_ : Unit) => .bool r) fun _ _ => [] := by
  unfold impl_isTenant
  refine Ci Tryz.func48 r r ?_
  rintro w S -
  exact Sr<|Qs 1 r<|Nx<|Sr<|Qs 1 r<|Bi fun R1 H2=>Fo (Cl [] impl_inRange_c H2 r r1) fun _=>Qs 1 r<|Nx<|Wr<|Re () []

/-- loop.example/g00950/impl.KeyOk -/
noncomputable def impl_KeyOk (d : KeyDev) : Option Bool :=
  (if (!(decide (((d.Master.length : Nat) : Int) = (32 : Int)))) = true then (some true)
  else (if (decide (((d.Slots.length : Nat) : Int) > (4 : Int))) = true then (some true)
  else ((impl_isNumber d.Wiped).bind fun R6 =>
  some (!R6)))).bind (fun (T2 : Bool) =>
  if T2 = true then (some false)
  else (bindC (loopO (fun (S10 : Int) => if (decide (S10 < ((d.Slots.length : Nat) : Int))) = true then ((idx d.Slots S10).bind fun E15 =>
  ((impl_isTenant E15.Tenant).bind fun R20 =>
  if (!R20) = true then (some true)
  else (if (!(decide (((E15.Key.length : Nat) : Int) = (32 : Int)))) = true then (some true)
  else (if (decide (S10 > (0 : Int))) = true then ((idx d.Slots (IntKind.i64.wrap (S10 - (1 : Int)))).bind fun E26 =>
  some (decide (E15.Tenant ≤ E26.Tenant)))
  else (some false)))).bind (fun (T18 : Bool) =>
  if T18 = true then (some (.done (.done false)))
  else (some (.go (IntKind.i64.wrap (S10 + (1 : Int)))))))
  else (some (.done (.go ()))))
  (0 : Int))
  (fun (T12 : Unit) => some true)))

theorem impl_KeyOk_c {d : KeyDev} {U0 : Value} : Cn Tryz.prog 23 [.agg #[strV d.Master, U0, iv d.Wiped]] [] [(U0, lc d.Slots)] (impl_KeyOk d) (fun r (_ : Unit) => .bool r) fun _ _ => [] := by
  unfold impl_KeyOk
  refine Ci Tryz.func23 r r ?_
  rintro w S ⟨Z0,-⟩
  refine Sr<|Fo (Bx r (Ca ⟨Op',Ob Z0,Op',⟨⟩⟩)) fun B1=>Qs 1 r<|Nx<|Sq<|Sq<|Jv [1] (fun T=>[(20, .bool T)]) r1 (?_) fun T2=>?_
  ·refine Rg<|Yo (Fb kf36_0 r)<|Yo (Lb 0 kk9 r)<|Yo (Y.slen ks9 r)<|Qs 2 r<|It (fun H4=>Of 4 (beq_tf H4) r r<|Yo (Pt H4 r)<|Qs 1 r<|Of 4 r r r<|Yo (Pt r r)<|Nl<|Bg () [0]) fun H4=>Yg (gdA (beq_ff H4)) (Fb kf36_1 r)<|Yg (gdA (beq_ff H4)) (Lb 0 kk34 r)<|Yg (gdA (beq_ff H4)) (Ln ke34 (Bc Z0) r)<|Qg 1 (beq_ff H4) r r<|Yo (Pf H4 r)<|Qs 1 r<|It (fun H5=>Of 4 (beq_tf H5) r r<|Yo (Pt H5 r)<|Nl<|Bg () [0]) fun H5=>Yg (gdA (beq_ff H5)) (Fb kf36_2 r)<|Yg (gdA (beq_ff H5)) (Lb 0 kk3 r)<|Bi fun R6 H7=>Fg (gdA (beq_ff H5)) (Cl [] impl_isNumber_c H7 r r1) fun _=>?_
   exact Qg 1 (beq_ff H5) r r<|Yo (Pf H5 r)<|Nl<|Bg () [0]
  refine Ne<|Wc r (fun H9=>Sr<|Qs 1 r<|Nx<|Wr<|Tr<|Re () []) fun H9=>Sn<|Sq<|Sr<|Yo (Fb kf36_1 r)<|Yo (Lb 0 kk34 r)<|Yo (Ln ke34 (Bc Z0) r)<|Qs 1 r<|Nx<|Jn Unit [] [] (fun _ _=>[]) (fun _ _=>[]) r2 r2 (?_) fun T12 X13=>?_
  ·refine Wb<|Lu [1,22,23] (fun T=>[(24, iv T)]) r1 fun S10=>Sr<|Qs 1 r<|Nx<|Sq<|Wc r (fun H14=>?_) fun H14=>?_
   ·refine Sn<|Sq<|Wb<|Sr<|Qs 1 r<|Bi fun E15 H16=>Yo (Ix ke34 (Bc Z0) H16 r)<|Yo (Le kk62 (Bc Z0) H16 r)<|Fo (Al kz62 r) fun B17=>Qs 1 r<|Fu (Sb 0 kk62 r (Cp r) r)<|Nx<|Sq<|Jb Unit [1,22,23,24] [1] (fun T _=>[(54, .bool T)]) (fun _ _=>[]) r2 r2 (?_) fun T18 X19=>?_
    ·refine Dr [0,0] r hMix<|Ay 0 [0,0] r (Fb kf62_0 r)<|Ay 1 [0,0] r (Lb 0 kk3 r)<|Ai fun R20 H21=>A1 2<|Xe [0,0] r (Cl [] impl_isTenant_c H21 r r1) fun _=>Aq [3,4] [0,0] r<|Ia (fun H23=>Ax [5,6,7,8] [0,0] (beq_tf H23) r r<|Ay 9 [0,0] r (Pt H23 r)<|Aq [10] [0,0] r<|Ax [11,12,13] [0,0] r r r<|Au [14,15,16,17,18,19,20,21,22,23] [0,0] r r<|Ax [24] [0,0] r r r<|Ay 25 [0,0] r (Pt r r)<|Az<|Bg () [1]) fun H23=>Ag 5 [0,0] (gdA (beq_ff H23)) r (Fb kf62_1 r)<|Ag 6 [0,0] (gdA (beq_ff H23)) r (Lb 0 kk9 r)<|Ag 7 [0,0] (gdA (beq_ff H23)) r (Y.slen ks9 r)<|Ag 8 [0,0] (gdA (beq_ff H23)) r (Y.neq r r)<|Ay 9 [0,0] r (Pf H23 r)<|Aq [10] [0,0] r<|Ia (fun H24=>Ax [11,12,13] [0,0] (beq_tf H24) r r<|Au [14,15,16,17,18,19,20,21,22,23] [0,0] r r<|Ax [24] [0,0] (beq_tf H24) r r<|Ay 25 [0,0] r (Pt H24 r)<|Az<|Bg () [1]) fun H24=>?_
     refine Ag 11 [0,0] (gdA (beq_ff H24)) r (Y.move r)<|Ag 12 [0,0] (gdA (beq_ff H24)) r (Y.gtr r r)<|Ag 13 [0,0] (gdA (beq_ff H24)) r (Y.move r)<|Ia (fun H25=>?_) fun H25=>?_
     ·exact Ag 14 [0,0] (gdA (beq_tt H25)) r (Fb kf62_0 r)<|Ag 15 [0,0] (gdA (beq_tt H25)) r (Lb 0 kk3 r)<|Ag 16 [0,0] (gdA (beq_tt H25)) r (Fb kf36_1 r)<|Ag 17 [0,0] (gdA (beq_tt H25)) r (Lb 1 kk34 r)<|Ag 18 [0,0] (gdA (beq_tt H25)) r (Y.move r)<|Ag 19 [0,0] (gdA (beq_tt H25)) r (Y.sub r r)<|Ai fun E26 H27=>Ag 20 [0,0] (gdA (beq_tt H25)) r (Ix ke34 (Bc Z0) H27 r)<|Ag 21 [0,0] (gdA (beq_tt H25)) r (Fe kf62_0 (Bc Z0) H27 r)<|Ag 22 [0,0] (gdA (beq_tt H25)) r (Le kk3 (Bc Z0) H27 r)<|Ag 23 [0,0] (gdA (beq_tt H25)) r (Y.leq r r)<|Ag 24 [0,0] (gdA (beq_ff H24)) r (Pt H25 r)<|Ay 25 [0,0] r (Pf H24 r)<|Az<|Bg () [1]
     exact Ax [14,15,16,17,18,19,20,21,22,23] [0,0] (beq_ft H25) r r<|Ag 24 [0,0] (gdA (beq_ff H24)) r (Pf H25 r)<|Ay 25 [0,0] r (Pf H24 r)<|Az<|Bg () [1]
    exact Ne<|Wc r (fun H28=>Sr<|Qs 1 r<|Nx<|Wr<|Br<|Tr<|Er<|Br<|Jd<|Tr<|Re () []) fun H28=>Sk<|Bn<|Ne<|Rg<|Qs 2 r<|Nl<|Lg () [0]
   exact Wx<|Tx<|Ex<|Be<|Jg () []
  exact Ne<|Sr<|Qs 1 r<|Nx<|Wr<|Re () []

/-- loop.example/g00950/impl.Need -/
noncomputable def impl_Need (quota : Int) : Option Int :=
  (impl_inRange quota (0 : Int) (1000 : Int)).bind fun R1 =>
  if (!R1) = true then (some (0 : Int))
  else (some (IntKind.i64.wrap ((2 : Int) + (IntKind.i64.wrap ((2 : Int) * (IntKind.i64.wrap (Int.tdiv (IntKind.i64.wrap (IntKind.i64.wrap (quota + (50 : Int)) - (1 : Int))) (50 : Int))))))))

theorem impl_Need_c {quota : Int} : Cn Tryz.prog 75 [iv quota] [] [] (impl_Need quota) (fun r (_ : Unit) => iv r) fun _ _ => [] := by
  unfold impl_Need
  refine Ci Tryz.func75 r r ?_
  rintro w S -
  exact Sr<|Qs 1 r<|Nx<|Sq<|Sr<|Qs 1 r<|Bi fun R1 H2=>Fo (Cl [] impl_inRange_c H2 r r1) fun _=>Qs 1 r<|Nx<|Wc r (fun H4=>Sr<|Qs 1 r<|Nx<|Wr<|Tr<|Re () []) fun H4=>Sn<|Sr<|Qs 3 r<|Yo (Y.quo (by decide) r r)<|Qs 3 r<|Nx<|Wr<|Re () []

/-- loop.example/g00950/impl.needOf -/
noncomputable def impl_needOf (s : Shares) : Option Int :=
  bindC (loopO (fun (S2 : Int × Int) => if (decide (S2.2 < ((s.List.length : Nat) : Int))) = true then ((idx s.List S2.2).bind fun E7 =>
  (impl_Need E7.Quota).bind fun R10 =>
  some (.go (IntKind.i64.wrap (S2.1 + R10), IntKind.i64.wrap (S2.2 + (1 : Int)))))
  else (some (.done (.go S2.1))))
  ((4 : Int), (0 : Int)))
  (fun (T4 : Int) => some T4)

theorem impl_needOf_c {s : Shares} {U0 : Value} : Cn Tryz.prog 49 [.agg #[iv s.Size, U0]] [] [(U0, lc s.List)] (impl_needOf s) (fun r (_ : Unit) => iv r) fun _ _ => [] := by
  unfold impl_needOf
  refine Ci Tryz.func49 r r ?_
  rintro w S ⟨Z0,-⟩
  refine Sr<|Fo (Bx r (Ca ⟨Op',Ob Z0,⟨⟩⟩)) fun B1=>Qs 1 r<|Nx<|Sr<|Qs 1 r<|Nx<|Sq<|Sr<|Yo (Fb kf39_1 r)<|Yo (Lb 0 kk37 r)<|Yo (Ln ke37 (Bc Z0) r)<|Qs 1 r<|Nx<|Jn Unit [] [] (fun T _=>[(3, iv T)]) (fun _ _=>[]) r2 r2 (?_) fun T4 X5=>?_
  ·refine Wb<|Lp Unit [7,8] [] (fun T _=>[(3, iv T.1), (9, iv T.2)]) (fun _ _=>[]) () [] r2 r2 fun S2 X3=>Sr<|Qs 1 r<|Nx<|Sq<|Wc r (fun H6=>?_) fun H6=>?_
   ·exact Sn<|Sq<|Wb<|Sr<|Bi fun E7 H8=>Yo (Ix ke37 (Bc Z0) H8 r)<|Yo (Le kk64 (Bc Z0) H8 r)<|Fo (Al kz64 r) fun B9=>Fu (Sb 0 kk64 r (Cp r) r)<|Nx<|Rg<|Qs 1 r<|Yo (Fb kf64_1 r)<|Yo (Lb 0 kk3 r)<|Bi fun R10 H11=>Fo (Cl [] impl_Need_c H11 r r1) fun _=>Qs 2 r<|Nl<|Bn<|Ne<|Rg<|Qs 2 r<|Nl<|Lg () []
   exact Wx<|Tx<|Ex<|Be<|Jg () []
  exact Ne<|Sr<|Qs 2 r<|Nx<|Wr<|Re () []

/-- loop.example/g00950/impl.SharesOk -/
noncomputable def impl_SharesOk (s : Shares) : Option Bool :=
  ((impl_inRange s.Size (0 : Int) (1000 : Int)).bind fun R4 =>
  if (!R4) = true then (some true)
  else (some (decide (((s.List.length : Nat) : Int) > (4 : Int))))).bind (fun (T2 : Bool) =>
  if T2 = true then (some false)
  else (bindC (loopO (fun (S9 : Int) => if (decide (S9 < ((s.List.length : Nat) : Int))) = true then ((idx s.List S9).bind fun E14 =>
  ((impl_isTenant E14.Tenant).bind fun R19 =>
  if (!R19) = true then (some true)
  else ((impl_inRange E14.Quota (0 : Int) (1000 : Int)).bind fun R23 =>
  if (!R23) = true then (some true)
  else (if (decide (S9 > (0 : Int))) = true then ((idx s.List (IntKind.i64.wrap (S9 - (1 : Int)))).bind fun E28 =>
  some (decide (E14.Tenant ≤ E28.Tenant)))
  else (some false)))).bind (fun (T17 : Bool) =>
  if T17 = true then (some (.done (.done false)))
  else (some (.go (IntKind.i64.wrap (S9 + (1 : Int)))))))
  else (some (.done (.go ()))))
  (0 : Int))
  (fun (T11 : Unit) => (if (decide (((s.List.length : Nat) : Int) = (0 : Int))) = true then (some true)
  else ((impl_needOf s).bind fun R34 =>
  some (decide (R34 ≤ s.Size)))).bind (fun (T31 : Bool) =>
  some T31))))

theorem impl_SharesOk_c {s : Shares} {U0 : Value} : Cn Tryz.prog 24 [.agg #[iv s.Size, U0]] [] [(U0, lc s.List)] (impl_SharesOk s) (fun r (_ : Unit) => .bool r) fun _ _ => [] := by
  unfold impl_SharesOk
  refine Ci Tryz.func24 r r ?_
  rintro w S ⟨Z0,-⟩
  refine Sr<|Fo (Bx r (Ca ⟨Op',Ob Z0,⟨⟩⟩)) fun B1=>Qs 1 r<|Nx<|Sq<|Sq<|Jv [1] (fun T=>[(14, .bool T)]) r1 (?_) fun T2=>?_
  ·exact Rg<|Yo (Fb kf39_0 r)<|Yo (Lb 0 kk3 r)<|Bi fun R4 H5=>Fo (Cl [] impl_inRange_c H5 r r1) fun _=>Qs 2 r<|It (fun H7=>Of 4 (beq_tf H7) r r<|Yo (Pt H7 r)<|Nl<|Bg () [0]) fun H7=>Yg (gdA (beq_ff H7)) (Fb kf39_1 r)<|Yg (gdA (beq_ff H7)) (Lb 0 kk37 r)<|Yg (gdA (beq_ff H7)) (Ln ke37 (Bc Z0) r)<|Qg 1 (beq_ff H7) r r<|Yo (Pf H7 r)<|Nl<|Bg () [0]
  refine Ne<|Wc r (fun H8=>Sr<|Qs 1 r<|Nx<|Wr<|Tr<|Re () []) fun H8=>Sn<|Sq<|Sr<|Yo (Fb kf39_1 r)<|Yo (Lb 0 kk37 r)<|Yo (Ln ke37 (Bc Z0) r)<|Qs 1 r<|Nx<|Ju [1] (fun _=>[]) r1 (?_) fun T11=>?_
  ·refine Wb<|Lu [1,16,17] (fun T=>[(18, iv T)]) r1 fun S9=>Sr<|Qs 1 r<|Nx<|Sq<|Wc r (fun H13=>?_) fun H13=>?_
   ·refine Sn<|Sq<|Wb<|Sr<|Qs 1 r<|Bi fun E14 H15=>Yo (Ix ke37 (Bc Z0) H15 r)<|Yo (Le kk64 (Bc Z0) H15 r)<|Fo (Al kz64 r) fun B16=>Qs 1 r<|Fu (Sb 0 kk64 r (Cp r) r)<|Nx<|Sq<|Jb Unit [1,16,17,18] [1] (fun T _=>[(48, .bool T)]) (fun _ _=>[]) r2 r2 (?_) fun T17 X18=>?_
    ·refine Dr [0,0] r hMix<|Ay 0 [0,0] r (Fb kf64_0 r)<|Ay 1 [0,0] r (Lb 0 kk3 r)<|Ai fun R19 H20=>A1 2<|Xe [0,0] r (Cl [] impl_isTenant_c H20 r r1) fun _=>Aq [3,4] [0,0] r<|Ia (fun H22=>Ax [5,6,7,8] [0,0] (beq_tf H22) r r<|Ay 9 [0,0] r (Pt H22 r)<|Aq [10] [0,0] r<|Ax [11,12,13] [0,0] r r r<|Au [14,15,16,17,18,19,20,21,22,23] [0,0] r r<|Ax [24] [0,0] r r r<|Ay 25 [0,0] r (Pt r r)<|Az<|Bg () [1]) fun H22=>Ag 5 [0,0] (gdA (beq_ff H22)) r (Fb kf64_1 r)<|Ag 6 [0,0] (gdA (beq_ff H22)) r (Lb 0 kk3 r)<|Ai fun R23 H24=>A1 7<|Xeg [0,0] (gdA (beq_ff H22)) r (Cl [] impl_inRange_c H24 r r1) fun _=>?_
     refine Ag 8 [0,0] (gdA (beq_ff H22)) r (Y.not r)<|Ay 9 [0,0] r (Pf H22 r)<|Aq [10] [0,0] r<|Ia (fun H26=>Ax [11,12,13] [0,0] (beq_tf H26) r r<|Au [14,15,16,17,18,19,20,21,22,23] [0,0] r r<|Ax [24] [0,0] (beq_tf H26) r r<|Ay 25 [0,0] r (Pt H26 r)<|Az<|Bg () [1]) fun H26=>Ag 11 [0,0] (gdA (beq_ff H26)) r (Y.move r)<|Ag 12 [0,0] (gdA (beq_ff H26)) r (Y.gtr r r)<|Ag 13 [0,0] (gdA (beq_ff H26)) r (Y.move r)<|Ia (fun H27=>?_) fun H27=>?_
     ·exact Ag 14 [0,0] (gdA (beq_tt H27)) r (Fb kf64_0 r)<|Ag 15 [0,0] (gdA (beq_tt H27)) r (Lb 0 kk3 r)<|Ag 16 [0,0] (gdA (beq_tt H27)) r (Fb kf39_1 r)<|Ag 17 [0,0] (gdA (beq_tt H27)) r (Lb 1 kk37 r)<|Ag 18 [0,0] (gdA (beq_tt H27)) r (Y.move r)<|Ag 19 [0,0] (gdA (beq_tt H27)) r (Y.sub r r)<|Ai fun E28 H29=>Ag 20 [0,0] (gdA (beq_tt H27)) r (Ix ke37 (Bc Z0) H29 r)<|Ag 21 [0,0] (gdA (beq_tt H27)) r (Fe kf64_0 (Bc Z0) H29 r)<|Ag 22 [0,0] (gdA (beq_tt H27)) r (Le kk3 (Bc Z0) H29 r)<|Ag 23 [0,0] (gdA (beq_tt H27)) r (Y.leq r r)<|Ag 24 [0,0] (gdA (beq_ff H26)) r (Pt H27 r)<|Ay 25 [0,0] r (Pf H26 r)<|Az<|Bg () [1]
     exact Ax [14,15,16,17,18,19,20,21,22,23] [0,0] (beq_ft H27) r r<|Ag 24 [0,0] (gdA (beq_ff H26)) r (Pf H27 r)<|Ay 25 [0,0] r (Pf H26 r)<|Az<|Bg () [1]
    exact Ne<|Wc r (fun H30=>Sr<|Qs 1 r<|Nx<|Wr<|Br<|Tr<|Er<|Br<|Jd<|Tr<|Re () []) fun H30=>Sk<|Bn<|Ne<|Rg<|Qs 2 r<|Nl<|Lg () [0]
   exact Wx<|Tx<|Ex<|Be<|Jg () [0]
  refine Ne<|Sq<|Jb Unit [] [] (fun T _=>[(2, .bool T)]) (fun _ _=>[]) r2 r2 (?_) fun T31 X32=>?_
  ·exact Dr [0] r hMix<|Ay 0 [0] r (Fb kf39_1 r)<|Ay 1 [0] r (Lb 0 kk37 r)<|Ay 2 [0] r (Ln ke37 (Bc Z0) r)<|Aq [3,4] [0] r<|Ia (fun H33=>Ax [5,6,7,8,9] [0] (beq_tf H33) r r<|Ay 10 [0] r (Pt H33 r)<|Aq [11] [0] r<|Az<|Bg () []) fun H33=>Ag 5 [0] (gdA (beq_ff H33)) r (Lb 0 kk39 r)<|Ag 7 [0] (gdA (beq_ff H33)) r (Fb kf39_0 r)<|Ag 8 [0] (gdA (beq_ff H33)) r (Lb 0 kk3 r)<|Ai fun R34 H35=>A1 6<|Xeg [0] (gdA (beq_ff H33)) r (Cl [] impl_needOf_c H35 r r1 ⟨(Bc Z0),⟨⟩⟩) fun _=>Ag 9 [0] (gdA (beq_ff H33)) r (Y.leq r r)<|Ay 10 [0] r (Pf H33 r)<|Aq [11] [0] r<|Az<|Bg () []
  exact Ne<|Wr<|Re () []

/-- loop.example/g00950/impl.totalOf -/
noncomputable def impl_totalOf (l : List (List Ent)) : Option Int :=
  bindC (loopO (fun (S1 : Int × Int) => if (decide (S1.2 < ((l.length : Nat) : Int))) = true then ((idx l S1.2).bind fun E6 =>
  some (.go (IntKind.i64.wrap (S1.1 + ((E6.length : Nat) : Int)), IntKind.i64.wrap (S1.2 + (1 : Int)))))
  else (some (.done (.go S1.1))))
  ((0 : Int), (0 : Int)))
  (fun (T3 : Int) => some T3)

theorem impl_totalOf_c {l : List (List Ent)} {U0 : Value} : Cn Tryz.prog 96 [U0] [] [(U0, lc l)] (impl_totalOf l) (fun r (_ : Unit) => iv r) fun _ _ => [] := by
  unfold impl_totalOf
  refine Ci Tryz.func96 r r ?_
  rintro w S ⟨Z0,-⟩
  refine Sr<|Qs 1 r<|Nx<|Sr<|Qs 1 r<|Nx<|Sq<|Sr<|Qs 1 r<|Yo (Ln ke55 (Bc Z0) r)<|Qs 1 r<|Nx<|Ju [] (fun T=>[(3, iv T)]) r1 (?_) fun T3=>?_
  ·refine Wb<|Lu [6,7] (fun T=>[(3, iv T.1), (8, iv T.2)]) r1 fun S1=>Sr<|Qs 1 r<|Nx<|Sq<|Wc r (fun H5=>?_) fun H5=>?_
   ·refine Sn<|Sq<|Wb<|Sr<|Bi fun E6 H7=>Yo (Ix ke55 (Bc Z0) H7 r)<|?_
    have Q8 : Base w S (elv w U0 (S1.2.toNat * 1 + 0)) (lc E6):=Base.el Z0 (idx_get H7).2.2 r r
    exact Yo (Lz kk54 Z0 H7 r)<|Qs 1 r<|Nx<|Rg<|Qs 2 r<|Yo (Ln ke54 (Bc Q8) r)<|Qs 2 r<|Nl<|Bn<|Ne<|Rg<|Qs 2 r<|Nl<|Lg () []
   exact Wx<|Tx<|Ex<|Be<|Jg () []
  exact Ne<|Sr<|Qs 2 r<|Nx<|Wr<|Re () []

/-- loop.example/g00950/impl.isKey -/
noncomputable def impl_isKey (s : List UInt8) : Option Bool :=
  (impl_inRange ((s.length : Nat) : Int) (1 : Int) (10 : Int)).bind fun R1 =>
  some R1

theorem impl_isKey_c {s : List UInt8} : Cn Tryz.prog 138 [strV s] [] [] (impl_isKey s) (fun r (_ : Unit) => .bool r) fun _ _ => [] := by
  unfold impl_isKey
  refine Ci Tryz.func138 r r ?_
  rintro w S -
  exact Sr<|Qs 1 r<|Nx<|Sr<|Qs 1 r<|Yo (Y.slen ks9 r)<|Bi fun R1 H2=>Fo (Cl [] impl_inRange_c H2 r r1) fun _=>Qs 1 r<|Nx<|Wr<|Re () []

/-- loop.example/g00950/impl.isVal -/
noncomputable def impl_isVal (del : Bool) (val : List UInt8) : Option Bool :=
  (if (decide (((val.length : Nat) : Int) ≤ (16 : Int))) = true then (if del = true then (some (!(!(decide (val = ([]))))))
  else (some (!false)))
  else (some false)).bind (fun (T1 : Bool) =>
  some T1)

theorem impl_isVal_c {del : Bool} {val : List UInt8} : Cn Tryz.prog 139 [.bool del, strV val] [] [] (impl_isVal del val) (fun r (_ : Unit) => .bool r) fun _ _ => [] := by
  unfold impl_isVal
  refine Ci Tryz.func139 r r ?_
  rintro w S -
  refine Sr<|Qs 1 r<|Nx<|Sq<|Jv [] (fun T=>[(4, .bool T)]) r1 (?_) fun T1=>?_
  ·exact Rg<|Qs 1 r<|Yo (Y.slen ks9 r)<|Qs 2 r<|It (fun H3=>Qg 2 (beq_tt H3) r r<|It (fun H4=>Qg 2 (beq_tt H4) r r<|Yg (gdA (beq_tt H3)) (Pt H4 r)<|Qg 1 (beq_tt H3) r r<|Yo (Pt H3 r)<|Qs 1 r<|Nl<|Bg () []) fun H4=>Of 2 (beq_ft H4) r r<|Yg (gdA (beq_tt H3)) (Pf H4 r)<|Qg 1 (beq_tt H3) r r<|Yo (Pt H3 r)<|Qs 1 r<|Nl<|Bg () []) fun H3=>Of 2 (beq_ft H3) r r<|Ou 2 r r<|Of 2 (beq_ft H3) r r<|Yo (Pf H3 r)<|Qs 1 r<|Nl<|Bg () []
  exact Ne<|Wr<|Re () []

/-- loop.example/g00950/impl.entOk -/
noncomputable def impl_entOk (e : Ent) : Option Bool :=
  ((impl_isKey e.Key).bind fun R4 =>
  if R4 = true then ((impl_isNumber e.Seq).bind fun R8 =>
  if R8 = true then ((impl_isVal e.Del e.Val).bind fun R12 =>
  some R12)
  else (some false))
  else (some false)).bind (fun (T2 : Bool) =>
  some T2)

theorem impl_entOk_c {e : Ent} : Cn Tryz.prog 119 [.agg #[strV e.Key, iv e.Seq, .bool e.Del, strV e.Val]] [] [] (impl_entOk e) (fun r (_ : Unit) => .bool r) fun _ _ => [] := by
  unfold impl_entOk
  refine Ci Tryz.func119 r r ?_
  rintro w S -
  refine Sr<|Fo (Bx r (Cp r)) fun B1=>Qs 1 r<|Nx<|Sq<|Jb Unit [] [] (fun T _=>[(2, .bool T)]) (fun _ _=>[]) r2 r2 (?_) fun T2 X3=>?_
  ·refine Rg<|Yo (Fb kf102_0 r)<|Yo (Lb 0 kk9 r)<|Bi fun R4 H5=>Fo (Cl [] impl_isKey_c H5 r r1) fun _=>Qs 1 r<|It (fun H7=>?_) fun H7=>?_
   ·exact Yg (gdA (beq_tt H7)) (Fb kf102_1 r)<|Yg (gdA (beq_tt H7)) (Lb 0 kk3 r)<|Bi fun R8 H9=>Fg (gdA (beq_tt H7)) (Cl [] impl_isNumber_c H9 r r1) fun _=>Yo (Pt H7 r)<|Qs 1 r<|It (fun H11=>Yg (gdA (beq_tt H11)) (Fb kf102_2 r)<|Yg (gdA (beq_tt H11)) (Lb 0 kk4 r)<|Yg (gdA (beq_tt H11)) (Fb kf102_3 r)<|Yg (gdA (beq_tt H11)) (Lb 0 kk9 r)<|Bi fun R12 H13=>Fg (gdA (beq_tt H11)) (Cl [] impl_isVal_c H13 r r1) fun _=>Yo (Pt H11 r)<|Qs 1 r<|Nl<|Bg () []) fun H11=>Of 5 (beq_ft H11) r r<|Yo (Pf H11 r)<|Qs 1 r<|Nl<|Bg () []
   exact Of 3 (beq_ft H7) r r<|Yo (Pf H7 r)<|Qs 1 r<|Of 5 r r r<|Yo (Pf r r)<|Qs 1 r<|Nl<|Bg () []
  exact Ne<|Wr<|Re () []

/-- cmp.isNaN[string] -/
noncomputable def cmp_isNaN_83645 (x : List UInt8) : Option Bool :=
  some (!(decide (x = x)))

theorem cmp_isNaN_83645_c {x : List UInt8} : Cn Tryz.prog 151 [strV x] [] [] (cmp_isNaN_83645 x) (fun r (_ : Unit) => .bool r) fun _ _ => [] := by
  unfold cmp_isNaN_83645
  refine Ci Tryz.func151 r r ?_
  rintro w S -
  exact Sr<|Qs 1 r<|Nx<|Sr<|Qs 4 r<|Nx<|Wr<|Re () []

/-- cmp.Compare[string] -/
noncomputable def cmp_Compare_83645 (x : List UInt8) (y : List UInt8) : Option Int :=
  (cmp_isNaN_83645 x).bind fun R1 =>
  (cmp_isNaN_83645 y).bind fun R4 =>
  if R1 = true then (if R4 = true then (some (0 : Int))
  else (some (-1 : Int)))
  else (if R4 = true then (some (1 : Int))
  else (if (sLt x y) = true then (some (-1 : Int))
  else (if (!(sLt x y || decide (x = y))) = true then (some (1 : Int))
  else (some (0 : Int)))))

theorem cmp_Compare_83645_c {x : List UInt8} {y : List UInt8} : Cn Tryz.prog 141 [strV x, strV y] [] [] (cmp_Compare_83645 x y) (fun r (_ : Unit) => iv r) fun _ _ => [] := by
  unfold cmp_Compare_83645
  refine Ci Tryz.func141 r r ?_
  rintro w S -
  refine Sr<|Qs 1 r<|Nx<|Sr<|Qs 1 r<|Bi fun R1 H2=>Fo (Cl [] cmp_isNaN_83645_c H2 r r1) fun _=>Qs 1 r<|Nx<|Sr<|Qs 1 r<|Bi fun R4 H5=>Fo (Cl [] cmp_isNaN_83645_c H5 r r1) fun _=>Qs 1 r<|Nx<|Sq<|Sr<|Qs 1 r<|Nx<|Wc r (fun H7=>Sq<|Sr<|Qs 1 r<|Nx<|Wc r (fun H8=>Sr<|Qs 1 r<|Nx<|Wr<|Tr<|Tr<|Re () []) fun H8=>Sn<|Sr<|Qs 1 r<|Nx<|Wr<|Tr<|Re () []) fun H7=>Sn<|Sq<|Sr<|Qs 1 r<|Nx<|Wc r (fun H9=>Sr<|Qs 1 r<|Nx<|Wr<|Tr<|Re () []) fun H9=>Sn<|Sq<|Sr<|Qs 3 r<|Nx<|Wc r (fun H10=>Sr<|Qs 1 r<|Nx<|Wr<|Tr<|Re () []) fun H10=>Sn<|Sq<|Sr<|Qs 3 r<|Nx<|Wc r (fun H11=>Sr<|Qs 1 r<|Nx<|Wr<|Tr<|Re () []) fun H11=>?_
  exact Sn<|Sr<|Qs 1 r<|Nx<|Wr<|Re () []

/-- cmp.isNaN[int] -/
noncomputable def cmp_isNaN_26527 (x : Int) : Option Bool :=
  some (!(decide (x = x)))

theorem cmp_isNaN_26527_c {x : Int} : Cn Tryz.prog 152 [iv x] [] [] (cmp_isNaN_26527 x) (fun r (_ : Unit) => .bool r) fun _ _ => [] := by
  unfold cmp_isNaN_26527
  refine Ci Tryz.func152 r r ?_
  rintro w S -
  exact Sr<|Qs 1 r<|Nx<|Sr<|Qs 4 r<|Nx<|Wr<|Re () []

/-- cmp.Compare[int] -/
noncomputable def cmp_Compare_26527 (x : Int) (y : Int) : Option Int :=
  (cmp_isNaN_26527 x).bind fun R1 =>
  (cmp_isNaN_26527 y).bind fun R4 =>
  if R1 = true then (if R4 = true then (some (0 : Int))
  else (some (-1 : Int)))
  else (if R4 = true then (some (1 : Int))
  else (if (decide (x < y)) = true then (some (-1 : Int))
  else (if (decide (x > y)) = true then (some (1 : Int))
  else (some (0 : Int)))))

theorem cmp_Compare_26527_c {x : Int} {y : Int} : Cn Tryz.prog 142 [iv x, iv y] [] [] (cmp_Compare_26527 x y) (fun r (_ : Unit) => iv r) fun _ _ => [] := by
  unfold cmp_Compare_26527
  refine Ci Tryz.func142 r r ?_
  rintro w S -
  refine Sr<|Qs 1 r<|Nx<|Sr<|Qs 1 r<|Bi fun R1 H2=>Fo (Cl [] cmp_isNaN_26527_c H2 r r1) fun _=>Qs 1 r<|Nx<|Sr<|Qs 1 r<|Bi fun R4 H5=>Fo (Cl [] cmp_isNaN_26527_c H5 r r1) fun _=>Qs 1 r<|Nx<|Sq<|Sr<|Qs 1 r<|Nx<|Wc r (fun H7=>Sq<|Sr<|Qs 1 r<|Nx<|Wc r (fun H8=>Sr<|Qs 1 r<|Nx<|Wr<|Tr<|Tr<|Re () []) fun H8=>Sn<|Sr<|Qs 1 r<|Nx<|Wr<|Tr<|Re () []) fun H7=>Sn<|Sq<|Sr<|Qs 1 r<|Nx<|Wc r (fun H9=>Sr<|Qs 1 r<|Nx<|Wr<|Tr<|Re () []) fun H9=>Sn<|Sq<|Sr<|Qs 3 r<|Nx<|Wc r (fun H10=>Sr<|Qs 1 r<|Nx<|Wr<|Tr<|Re () []) fun H10=>Sn<|Sq<|Sr<|Qs 3 r<|Nx<|Wc r (fun H11=>Sr<|Qs 1 r<|Nx<|Wr<|Tr<|Re () []) fun H11=>?_
  exact Sn<|Sr<|Qs 1 r<|Nx<|Wr<|Re () []

/-- cmp.Or[int] -/
noncomputable def cmp_Or_26527 (vals : List Int) : Option Int :=
  bindC (loopO (fun (S1 : Int) => if (decide (S1 < ((vals.length : Nat) : Int))) = true then ((idx vals S1).bind fun E6 =>
  if (!(decide (E6 = (0 : Int)))) = true then (some (.done (.done E6)))
  else (some (.go (IntKind.i64.wrap (S1 + (1 : Int))))))
  else (some (.done (.go ()))))
  (0 : Int))
  (fun (T3 : Unit) => some (0 : Int))

theorem cmp_Or_26527_c {vals : List Int} {U0 : Value} : Cn Tryz.prog 140 [U0] [] [(U0, lc vals)] (cmp_Or_26527 vals) (fun r (_ : Unit) => iv r) fun _ _ => [] := by
  unfold cmp_Or_26527
  refine Ci Tryz.func140 r r ?_
  rintro w S ⟨Z0,-⟩
  refine Sr<|Qs 1 r<|Nx<|Sr<|Qs 1 r<|Nx<|Sq<|Sr<|Qs 1 r<|Yo (Ln ke56 (Bc Z0) r)<|Qs 1 r<|Nx<|Ju [3] (fun _=>[]) r1 (?_) fun T3=>?_
  ·exact Wb<|Lu [3,6,7] (fun T=>[(8, iv T)]) r1 fun S1=>Sr<|Qs 1 r<|Nx<|Sq<|Wc r (fun H5=>Sn<|Sq<|Wb<|Sr<|Bi fun E6 H7=>Yo (Ix ke56 (Bc Z0) H7 r)<|Yo (Le kk3 (Bc Z0) H7 r)<|Qs 1 r<|Nx<|Sr<|Qs 3 r<|Nx<|Wc r (fun H8=>Sr<|Qs 2 r<|Nx<|Wr<|Br<|Tr<|Er<|Br<|Jd<|Tr<|Re () []) fun H8=>Sk<|Bn<|Ne<|Rg<|Qs 2 r<|Nl<|Lg () []) fun H5=>Wx<|Tx<|Ex<|Be<|Jg () []
  exact Ne<|Sr<|Qs 2 r<|Nx<|Wr<|Re () []

end Go.Proofs.YtkheimgjallpkaaGreat
