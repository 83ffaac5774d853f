/-
  The functions that a law reaches, each as a pure function, with the proof that the program computes it, and the step from a pure law to the given statement. Conditions: none.
-/
import Derived.Test.YtablbamlbfgfpaaQ1
set_option linter.unusedVariables false
set_option maxRecDepth 100000
set_option maxHeartbeats 4000000
namespace Go.Proofs.Ytablbamlbfgfpaa
open Go Sl

/-- loop.example/g00950/spec.l3Little -/
noncomputable def spec_l3Little (s : List UInt8) (at_ : Int) : Option Int :=
  (sidx s at_).bind fun E1 =>
  (sidx s (IntKind.i64.wrap (at_ + (1 : Int)))).bind fun E3 =>
  (sidx s (IntKind.i64.wrap (at_ + (2 : Int)))).bind fun E5 =>
  (sidx s (IntKind.i64.wrap (at_ + (3 : Int)))).bind fun E7 =>
  some (ior .i64 (ior .i64 (ior .i64 (IntKind.i64.wrap ((E1.toNat : Nat) : Int)) (ishl .i64 (IntKind.i64.wrap ((E3.toNat : Nat) : Int)) (8 : Int))) (ishl .i64 (IntKind.i64.wrap ((E5.toNat : Nat) : Int)) (16 : Int))) (ishl .i64 (IntKind.i64.wrap ((E7.toNat : Nat) : Int)) (24 : Int)))

theorem spec_l3Little_c {s : List UInt8} {at_ : Int} : Cn Try.prog 72 [strV s, iv at_] [] [] (spec_l3Little s at_) (fun r (_ : Unit) => iv r) fun _ _ => [] := by
  unfold spec_l3Little
  refine Ci Try.func72 r r ?_
  rintro w S -
  exact Sr<|Qs 1 r<|Nx<|Sq<|Dr [] r hMix<|Aq [0,1] [] r<|Ai fun E1 H2=>Ay 2 [] r (Y.sidx H2 ks9 r r)<|Ay 3 [] r (Y.conv ki5 ki3 r)<|Aq [4,5,6] [] r<|Ai fun E3 H4=>Ay 7 [] r (Y.sidx H4 ks9 r r)<|Ay 8 [] r (Y.conv ki5 ki3 r)<|Ay 9 [] r (Y.shl (by decide) r r)<|Aq [10,11,12,13] [] r<|Ai fun E5 H6=>Ay 14 [] r (Y.sidx H6 ks9 r r)<|Ay 15 [] r (Y.conv ki5 ki3 r)<|Ay 16 [] r (Y.shl (by decide) r r)<|Aq [17,18,19,20] [] r<|Ai fun E7 H8=>Ay 21 [] r (Y.sidx H8 ks9 r r)<|Ay 22 [] r (Y.conv ki5 ki3 r)<|Ay 23 [] r (Y.shl (by decide) r r)<|Aq [24,25] [] r<|Az<|Ne<|Wr<|Re () []

/-- loop.example/g00950/spec.l3Word -/
noncomputable def spec_l3Word (x : Int) : Option Int :=
  some (iand .i64 x (4294967295 : Int))

theorem spec_l3Word_c {x : Int} : Cn Try.prog 74 [iv x] [] [] (spec_l3Word x) (fun r (_ : Unit) => iv r) fun _ _ => [] := by
  unfold spec_l3Word
  refine Ci Try.func74 r r ?_
  rintro w S -
  exact Sr<|Qs 1 r<|Nx<|Sr<|Qs 3 r<|Nx<|Wr<|Re () []

/-- loop.example/g00950/spec.l3Left -/
noncomputable def spec_l3Left (x : Int) (n : Int) : Option Int :=
  (nn n).bind fun E1 =>
  (spec_l3Word (ior .i64 (ishl .i64 x n) (ishr .i64 x (IntKind.u64.wrap ((32 : Int) - n))))).bind fun R3 =>
  some R3

theorem spec_l3Left_c {x : Int} {n : Int} : Cn Try.prog 79 [iv x, .int .u64 n] [] [] (spec_l3Left x n) (fun r (_ : Unit) => iv r) fun _ _ => [] := by
  unfold spec_l3Left
  refine Ci Try.func79 r r ?_
  rintro w S -
  exact Sr<|Qs 1 r<|Nx<|Sr<|Qs 2 r<|Bi fun E1 H2=>Yo (Y.shl (nn_ge H2) r r)<|Qs 3 r<|Yo (Y.shr (wrap_u_nonneg r _) r r)<|Qs 1 r<|Bi fun R3 H4=>Fo (Cl [] spec_l3Word_c H4 r r1) fun _=>Qs 1 r<|Nx<|Wr<|Re () []

/-- loop.example/g00950/spec.l3Quarter -/
noncomputable def spec_l3Quarter (s : List Int) (a : Int) (b : Int) (c : Int) (d : Int) : Option (List Int) :=
  (idx s a).bind fun E1 =>
  (idx s b).bind fun E3 =>
  (spec_l3Word (IntKind.i64.wrap (E1 + E3))).bind fun R5 =>
  (idx (s.set a.toNat R5) d).bind fun E10 =>
  (idx (s.set a.toNat R5) a).bind fun E12 =>
  (spec_l3Left (ixor .i64 E10 E12) (16 : Int)).bind fun R14 =>
  (idx ((s.set a.toNat R5).set d.toNat R14) c).bind fun E19 =>
  (idx ((s.set a.toNat R5).set d.toNat R14) d).bind fun E21 =>
  (spec_l3Word (IntKind.i64.wrap (E19 + E21))).bind fun R23 =>
  (idx (((s.set a.toNat R5).set d.toNat R14).set c.toNat R23) b).bind fun E28 =>
  (idx (((s.set a.toNat R5).set d.toNat R14).set c.toNat R23) c).bind fun E30 =>
  (spec_l3Left (ixor .i64 E28 E30) (12 : Int)).bind fun R32 =>
  (idx ((((s.set a.toNat R5).set d.toNat R14).set c.toNat R23).set b.toNat R32) a).bind fun E37 =>
  (idx ((((s.set a.toNat R5).set d.toNat R14).set c.toNat R23).set b.toNat R32) b).bind fun E39 =>
  (spec_l3Word (IntKind.i64.wrap (E37 + E39))).bind fun R41 =>
  (idx (((((s.set a.toNat R5).set d.toNat R14).set c.toNat R23).set b.toNat R32).set a.toNat R41) d).bind fun E46 =>
  (idx (((((s.set a.toNat R5).set d.toNat R14).set c.toNat R23).set b.toNat R32).set a.toNat R41) a).bind fun E48 =>
  (spec_l3Left (ixor .i64 E46 E48) (8 : Int)).bind fun R50 =>
  (idx ((((((s.set a.toNat R5).set d.toNat R14).set c.toNat R23).set b.toNat R32).set a.toNat R41).set d.toNat R50) c).bind fun E55 =>
  (idx ((((((s.set a.toNat R5).set d.toNat R14).set c.toNat R23).set b.toNat R32).set a.toNat R41).set d.toNat R50) d).bind fun E57 =>
  (spec_l3Word (IntKind.i64.wrap (E55 + E57))).bind fun R59 =>
  (idx (((((((s.set a.toNat R5).set d.toNat R14).set c.toNat R23).set b.toNat R32).set a.toNat R41).set d.toNat R50).set c.toNat R59) b).bind fun E64 =>
  (idx (((((((s.set a.toNat R5).set d.toNat R14).set c.toNat R23).set b.toNat R32).set a.toNat R41).set d.toNat R50).set c.toNat R59) c).bind fun E66 =>
  (spec_l3Left (ixor .i64 E64 E66) (7 : Int)).bind fun R68 =>
  some ((((((((s.set a.toNat R5).set d.toNat R14).set c.toNat R23).set b.toNat R32).set a.toNat R41).set d.toNat R50).set c.toNat R59).set b.toNat R68)

theorem spec_l3Quarter_c {s : List Int} {a : Int} {b : Int} {c : Int} {d : Int} {U0 : Value} : Cn Try.prog 73 [U0, iv a, iv b, iv c, iv d] [.own U0 (lc s)] [] (spec_l3Quarter s a b c d) (fun _ (X : Value) => X) fun r X => [.own X (lc r)] := by
  unfold spec_l3Quarter
  refine Ci Try.func73 r r ?_
  rintro w S -
  refine Sr<|Qs 1 r<|Nx<|Sq<|Wi fun E1 H2=>Wi fun E3 H4=>Wi fun R5 H6=>Jw Unit [0,1,2,3,4] [] (fun _=>[]) (fun _=>[.own U0 (lc (s.set a.toNat R5))]) r1 r1 (?_) fun X9=>?_
  ·refine Dr [] r hMix<|Aq [0,1,2,3,6,7] [] r<|A2 4 8 (?_)<|?_
   ·refine Xy [] r (Ix ke46 (Oc 0 r) H2 r)<|A2 5 8 (Xy [] r (Le kk3 (Oc 0 r) H2 r)<|A1 8<|Xy [] r (Ix ke46 (Oc 0 r) H4 r)<|A1 9<|Xy [] r (Le kk3 (Oc 0 r) H4 r)<|Aq [10] [] r<|A1 11<|Xe [] r (Cl [] spec_l3Word_c H6 r r1) fun _=>A1 12<|Xy [] r (Ix ke46 (Oc 0 r) H2 r)<|A1 13<|Xu [] r (Se R5 0 kk3 H2 r (Cp r) r)<|Az<|Bg () [0])<|Xy [] r (Ix ke46 (Oc 0 r) H4 r)<|A2 5 9 (Xy [] r (Le kk3 (Oc 0 r) H2 r)<|A1 9<|Xy [] r (Le kk3 (Oc 0 r) H4 r)<|Aq [10] [] r<|A1 11<|Xe [] r (Cl [] spec_l3Word_c H6 r r1) fun _=>A1 12<|Xy [] r (Ix ke46 (Oc 0 r) H2 r)<|A1 13<|Xu [] r (Se R5 0 kk3 H2 r (Cp r) r)<|Az<|Bg () [0])<|Xy [] r (Le kk3 (Oc 0 r) H4 r)<|A1 5<|Xy [] r (Le kk3 (Oc 0 r) H2 r)<|Aq [10] [] r<|A1 11<|Xe [] r (Cl [] spec_l3Word_c H6 r r1) fun _=>?_
    exact A1 12<|Xy [] r (Ix ke46 (Oc 0 r) H2 r)<|A1 13<|Xu [] r (Se R5 0 kk3 H2 r (Cp r) r)<|Az<|Bg () [0]
   refine Xy [] r (Ix ke46 (Oc 0 r) H4 r)<|A2 4 9 (?_)<|?_
   ·exact Xy [] r (Ix ke46 (Oc 0 r) H2 r)<|A2 5 9 (Xy [] r (Le kk3 (Oc 0 r) H2 r)<|A1 9<|Xy [] r (Le kk3 (Oc 0 r) H4 r)<|Aq [10] [] r<|A1 11<|Xe [] r (Cl [] spec_l3Word_c H6 r r1) fun _=>A1 12<|Xy [] r (Ix ke46 (Oc 0 r) H2 r)<|A1 13<|Xu [] r (Se R5 0 kk3 H2 r (Cp r) r)<|Az<|Bg () [0])<|Xy [] r (Le kk3 (Oc 0 r) H4 r)<|A1 5<|Xy [] r (Le kk3 (Oc 0 r) H2 r)<|Aq [10] [] r<|A1 11<|Xe [] r (Cl [] spec_l3Word_c H6 r r1) fun _=>A1 12<|Xy [] r (Ix ke46 (Oc 0 r) H2 r)<|A1 13<|Xu [] r (Se R5 0 kk3 H2 r (Cp r) r)<|Az<|Bg () [0]
   exact Xy [] r (Le kk3 (Oc 0 r) H4 r)<|A1 4<|Xy [] r (Ix ke46 (Oc 0 r) H2 r)<|A1 5<|Xy [] r (Le kk3 (Oc 0 r) H2 r)<|Aq [10] [] r<|A1 11<|Xe [] r (Cl [] spec_l3Word_c H6 r r1) fun _=>A1 12<|Xy [] r (Ix ke46 (Oc 0 r) H2 r)<|A1 13<|Xu [] r (Se R5 0 kk3 H2 r (Cp r) r)<|Az<|Bg () [0]
  refine Ne<|Sq<|Wi fun E10 H11=>Wi fun E12 H13=>Wi fun R14 H15=>Jw Unit [0,1,2,3,4] [] (fun _=>[]) (fun _=>[.own U0 (lc ((s.set a.toNat R5).set d.toNat R14))]) r1 r1 (?_) fun X18=>?_
  ·refine Dr [] r hMix<|Aq [0,1,2,3,6,7] [] r<|A2 4 8 (?_)<|?_
   ·refine Xy [] r (Ix ke46 (Oc 0 r) H11 r)<|A2 5 8 (?_)<|?_
    ·exact Xy [] r (Le kk3 (Oc 0 r) H11 r)<|A1 8<|Xy [] r (Ix ke46 (Oc 0 r) H13 r)<|A1 9<|Xy [] r (Le kk3 (Oc 0 r) H13 r)<|Aq [10] [] r<|A1 11<|Xe [] r (Cl [] spec_l3Left_c H15 r r1) fun _=>A1 12<|Xy [] r (Ix ke46 (Oc 0 r) H11 r)<|A1 13<|Xu [] r (Se R14 0 kk3 H11 r (Cp r) r)<|Az<|Bg () [0]
    exact Xy [] r (Ix ke46 (Oc 0 r) H13 r)<|A2 5 9 (Xy [] r (Le kk3 (Oc 0 r) H11 r)<|A1 9<|Xy [] r (Le kk3 (Oc 0 r) H13 r)<|Aq [10] [] r<|A1 11<|Xe [] r (Cl [] spec_l3Left_c H15 r r1) fun _=>A1 12<|Xy [] r (Ix ke46 (Oc 0 r) H11 r)<|A1 13<|Xu [] r (Se R14 0 kk3 H11 r (Cp r) r)<|Az<|Bg () [0])<|Xy [] r (Le kk3 (Oc 0 r) H13 r)<|A1 5<|Xy [] r (Le kk3 (Oc 0 r) H11 r)<|Aq [10] [] r<|A1 11<|Xe [] r (Cl [] spec_l3Left_c H15 r r1) fun _=>A1 12<|Xy [] r (Ix ke46 (Oc 0 r) H11 r)<|A1 13<|Xu [] r (Se R14 0 kk3 H11 r (Cp r) r)<|Az<|Bg () [0]
   refine Xy [] r (Ix ke46 (Oc 0 r) H13 r)<|A2 4 9 (?_)<|?_
   ·exact Xy [] r (Ix ke46 (Oc 0 r) H11 r)<|A2 5 9 (Xy [] r (Le kk3 (Oc 0 r) H11 r)<|A1 9<|Xy [] r (Le kk3 (Oc 0 r) H13 r)<|Aq [10] [] r<|A1 11<|Xe [] r (Cl [] spec_l3Left_c H15 r r1) fun _=>A1 12<|Xy [] r (Ix ke46 (Oc 0 r) H11 r)<|A1 13<|Xu [] r (Se R14 0 kk3 H11 r (Cp r) r)<|Az<|Bg () [0])<|Xy [] r (Le kk3 (Oc 0 r) H13 r)<|A1 5<|Xy [] r (Le kk3 (Oc 0 r) H11 r)<|Aq [10] [] r<|A1 11<|Xe [] r (Cl [] spec_l3Left_c H15 r r1) fun _=>A1 12<|Xy [] r (Ix ke46 (Oc 0 r) H11 r)<|A1 13<|Xu [] r (Se R14 0 kk3 H11 r (Cp r) r)<|Az<|Bg () [0]
   exact Xy [] r (Le kk3 (Oc 0 r) H13 r)<|A1 4<|Xy [] r (Ix ke46 (Oc 0 r) H11 r)<|A1 5<|Xy [] r (Le kk3 (Oc 0 r) H11 r)<|Aq [10] [] r<|A1 11<|Xe [] r (Cl [] spec_l3Left_c H15 r r1) fun _=>A1 12<|Xy [] r (Ix ke46 (Oc 0 r) H11 r)<|A1 13<|Xu [] r (Se R14 0 kk3 H11 r (Cp r) r)<|Az<|Bg () [0]
  refine Ne<|Sq<|Wi fun E19 H20=>Wi fun E21 H22=>Wi fun R23 H24=>Jw Unit [0,1,2,3,4] [] (fun _=>[]) (fun _=>[.own U0 (lc (((s.set a.toNat R5).set d.toNat R14).set c.toNat R23))]) r1 r1 (?_) fun X27=>?_
  ·refine Dr [] r hMix<|Aq [0,1,2,3,6,7] [] r<|A2 4 8 (?_)<|?_
   ·refine Xy [] r (Ix ke46 (Oc 0 r) H20 r)<|A2 5 8 (?_)<|?_
    ·exact Xy [] r (Le kk3 (Oc 0 r) H20 r)<|A1 8<|Xy [] r (Ix ke46 (Oc 0 r) H22 r)<|A1 9<|Xy [] r (Le kk3 (Oc 0 r) H22 r)<|Aq [10] [] r<|A1 11<|Xe [] r (Cl [] spec_l3Word_c H24 r r1) fun _=>A1 12<|Xy [] r (Ix ke46 (Oc 0 r) H20 r)<|A1 13<|Xu [] r (Se R23 0 kk3 H20 r (Cp r) r)<|Az<|Bg () [0]
    exact Xy [] r (Ix ke46 (Oc 0 r) H22 r)<|A2 5 9 (Xy [] r (Le kk3 (Oc 0 r) H20 r)<|A1 9<|Xy [] r (Le kk3 (Oc 0 r) H22 r)<|Aq [10] [] r<|A1 11<|Xe [] r (Cl [] spec_l3Word_c H24 r r1) fun _=>A1 12<|Xy [] r (Ix ke46 (Oc 0 r) H20 r)<|A1 13<|Xu [] r (Se R23 0 kk3 H20 r (Cp r) r)<|Az<|Bg () [0])<|Xy [] r (Le kk3 (Oc 0 r) H22 r)<|A1 5<|Xy [] r (Le kk3 (Oc 0 r) H20 r)<|Aq [10] [] r<|A1 11<|Xe [] r (Cl [] spec_l3Word_c H24 r r1) fun _=>A1 12<|Xy [] r (Ix ke46 (Oc 0 r) H20 r)<|A1 13<|Xu [] r (Se R23 0 kk3 H20 r (Cp r) r)<|Az<|Bg () [0]
   refine Xy [] r (Ix ke46 (Oc 0 r) H22 r)<|A2 4 9 (?_)<|?_
   ·exact Xy [] r (Ix ke46 (Oc 0 r) H20 r)<|A2 5 9 (Xy [] r (Le kk3 (Oc 0 r) H20 r)<|A1 9<|Xy [] r (Le kk3 (Oc 0 r) H22 r)<|Aq [10] [] r<|A1 11<|Xe [] r (Cl [] spec_l3Word_c H24 r r1) fun _=>A1 12<|Xy [] r (Ix ke46 (Oc 0 r) H20 r)<|A1 13<|Xu [] r (Se R23 0 kk3 H20 r (Cp r) r)<|Az<|Bg () [0])<|Xy [] r (Le kk3 (Oc 0 r) H22 r)<|A1 5<|Xy [] r (Le kk3 (Oc 0 r) H20 r)<|Aq [10] [] r<|A1 11<|Xe [] r (Cl [] spec_l3Word_c H24 r r1) fun _=>A1 12<|Xy [] r (Ix ke46 (Oc 0 r) H20 r)<|A1 13<|Xu [] r (Se R23 0 kk3 H20 r (Cp r) r)<|Az<|Bg () [0]
   exact Xy [] r (Le kk3 (Oc 0 r) H22 r)<|A1 4<|Xy [] r (Ix ke46 (Oc 0 r) H20 r)<|A1 5<|Xy [] r (Le kk3 (Oc 0 r) H20 r)<|Aq [10] [] r<|A1 11<|Xe [] r (Cl [] spec_l3Word_c H24 r r1) fun _=>A1 12<|Xy [] r (Ix ke46 (Oc 0 r) H20 r)<|A1 13<|Xu [] r (Se R23 0 kk3 H20 r (Cp r) r)<|Az<|Bg () [0]
  refine Ne<|Sq<|Wi fun E28 H29=>Wi fun E30 H31=>Wi fun R32 H33=>Jw Unit [0,1,2,3,4] [] (fun _=>[]) (fun _=>[.own U0 (lc ((((s.set a.toNat R5).set d.toNat R14).set c.toNat R23).set b.toNat R32))]) r1 r1 (?_) fun X36=>?_
  ·refine Dr [] r hMix<|Aq [0,1,2,3,6,7] [] r<|A2 4 8 (?_)<|?_
   ·refine Xy [] r (Ix ke46 (Oc 0 r) H29 r)<|A2 5 8 (?_)<|?_
    ·exact Xy [] r (Le kk3 (Oc 0 r) H29 r)<|A1 8<|Xy [] r (Ix ke46 (Oc 0 r) H31 r)<|A1 9<|Xy [] r (Le kk3 (Oc 0 r) H31 r)<|Aq [10] [] r<|A1 11<|Xe [] r (Cl [] spec_l3Left_c H33 r r1) fun _=>A1 12<|Xy [] r (Ix ke46 (Oc 0 r) H29 r)<|A1 13<|Xu [] r (Se R32 0 kk3 H29 r (Cp r) r)<|Az<|Bg () [0]
    exact Xy [] r (Ix ke46 (Oc 0 r) H31 r)<|A2 5 9 (Xy [] r (Le kk3 (Oc 0 r) H29 r)<|A1 9<|Xy [] r (Le kk3 (Oc 0 r) H31 r)<|Aq [10] [] r<|A1 11<|Xe [] r (Cl [] spec_l3Left_c H33 r r1) fun _=>A1 12<|Xy [] r (Ix ke46 (Oc 0 r) H29 r)<|A1 13<|Xu [] r (Se R32 0 kk3 H29 r (Cp r) r)<|Az<|Bg () [0])<|Xy [] r (Le kk3 (Oc 0 r) H31 r)<|A1 5<|Xy [] r (Le kk3 (Oc 0 r) H29 r)<|Aq [10] [] r<|A1 11<|Xe [] r (Cl [] spec_l3Left_c H33 r r1) fun _=>A1 12<|Xy [] r (Ix ke46 (Oc 0 r) H29 r)<|A1 13<|Xu [] r (Se R32 0 kk3 H29 r (Cp r) r)<|Az<|Bg () [0]
   refine Xy [] r (Ix ke46 (Oc 0 r) H31 r)<|A2 4 9 (?_)<|?_
   ·exact Xy [] r (Ix ke46 (Oc 0 r) H29 r)<|A2 5 9 (Xy [] r (Le kk3 (Oc 0 r) H29 r)<|A1 9<|Xy [] r (Le kk3 (Oc 0 r) H31 r)<|Aq [10] [] r<|A1 11<|Xe [] r (Cl [] spec_l3Left_c H33 r r1) fun _=>A1 12<|Xy [] r (Ix ke46 (Oc 0 r) H29 r)<|A1 13<|Xu [] r (Se R32 0 kk3 H29 r (Cp r) r)<|Az<|Bg () [0])<|Xy [] r (Le kk3 (Oc 0 r) H31 r)<|A1 5<|Xy [] r (Le kk3 (Oc 0 r) H29 r)<|Aq [10] [] r<|A1 11<|Xe [] r (Cl [] spec_l3Left_c H33 r r1) fun _=>A1 12<|Xy [] r (Ix ke46 (Oc 0 r) H29 r)<|A1 13<|Xu [] r (Se R32 0 kk3 H29 r (Cp r) r)<|Az<|Bg () [0]
   exact Xy [] r (Le kk3 (Oc 0 r) H31 r)<|A1 4<|Xy [] r (Ix ke46 (Oc 0 r) H29 r)<|A1 5<|Xy [] r (Le kk3 (Oc 0 r) H29 r)<|Aq [10] [] r<|A1 11<|Xe [] r (Cl [] spec_l3Left_c H33 r r1) fun _=>A1 12<|Xy [] r (Ix ke46 (Oc 0 r) H29 r)<|A1 13<|Xu [] r (Se R32 0 kk3 H29 r (Cp r) r)<|Az<|Bg () [0]
  refine Ne<|Sq<|Wi fun E37 H38=>Wi fun E39 H40=>Wi fun R41 H42=>Jw Unit [0,1,2,3,4] [] (fun _=>[]) (fun _=>[.own U0 (lc (((((s.set a.toNat R5).set d.toNat R14).set c.toNat R23).set b.toNat R32).set a.toNat R41))]) r1 r1 (?_) fun X45=>?_
  ·refine Dr [] r hMix<|Aq [0,1,2,3,6,7] [] r<|A2 4 8 (?_)<|?_
   ·refine Xy [] r (Ix ke46 (Oc 0 r) H38 r)<|A2 5 8 (?_)<|?_
    ·exact Xy [] r (Le kk3 (Oc 0 r) H38 r)<|A1 8<|Xy [] r (Ix ke46 (Oc 0 r) H40 r)<|A1 9<|Xy [] r (Le kk3 (Oc 0 r) H40 r)<|Aq [10] [] r<|A1 11<|Xe [] r (Cl [] spec_l3Word_c H42 r r1) fun _=>A1 12<|Xy [] r (Ix ke46 (Oc 0 r) H38 r)<|A1 13<|Xu [] r (Se R41 0 kk3 H38 r (Cp r) r)<|Az<|Bg () [0]
    exact Xy [] r (Ix ke46 (Oc 0 r) H40 r)<|A2 5 9 (Xy [] r (Le kk3 (Oc 0 r) H38 r)<|A1 9<|Xy [] r (Le kk3 (Oc 0 r) H40 r)<|Aq [10] [] r<|A1 11<|Xe [] r (Cl [] spec_l3Word_c H42 r r1) fun _=>A1 12<|Xy [] r (Ix ke46 (Oc 0 r) H38 r)<|A1 13<|Xu [] r (Se R41 0 kk3 H38 r (Cp r) r)<|Az<|Bg () [0])<|Xy [] r (Le kk3 (Oc 0 r) H40 r)<|A1 5<|Xy [] r (Le kk3 (Oc 0 r) H38 r)<|Aq [10] [] r<|A1 11<|Xe [] r (Cl [] spec_l3Word_c H42 r r1) fun _=>A1 12<|Xy [] r (Ix ke46 (Oc 0 r) H38 r)<|A1 13<|Xu [] r (Se R41 0 kk3 H38 r (Cp r) r)<|Az<|Bg () [0]
   refine Xy [] r (Ix ke46 (Oc 0 r) H40 r)<|A2 4 9 (?_)<|?_
   ·exact Xy [] r (Ix ke46 (Oc 0 r) H38 r)<|A2 5 9 (Xy [] r (Le kk3 (Oc 0 r) H38 r)<|A1 9<|Xy [] r (Le kk3 (Oc 0 r) H40 r)<|Aq [10] [] r<|A1 11<|Xe [] r (Cl [] spec_l3Word_c H42 r r1) fun _=>A1 12<|Xy [] r (Ix ke46 (Oc 0 r) H38 r)<|A1 13<|Xu [] r (Se R41 0 kk3 H38 r (Cp r) r)<|Az<|Bg () [0])<|Xy [] r (Le kk3 (Oc 0 r) H40 r)<|A1 5<|Xy [] r (Le kk3 (Oc 0 r) H38 r)<|Aq [10] [] r<|A1 11<|Xe [] r (Cl [] spec_l3Word_c H42 r r1) fun _=>A1 12<|Xy [] r (Ix ke46 (Oc 0 r) H38 r)<|A1 13<|Xu [] r (Se R41 0 kk3 H38 r (Cp r) r)<|Az<|Bg () [0]
   exact Xy [] r (Le kk3 (Oc 0 r) H40 r)<|A1 4<|Xy [] r (Ix ke46 (Oc 0 r) H38 r)<|A1 5<|Xy [] r (Le kk3 (Oc 0 r) H38 r)<|Aq [10] [] r<|A1 11<|Xe [] r (Cl [] spec_l3Word_c H42 r r1) fun _=>A1 12<|Xy [] r (Ix ke46 (Oc 0 r) H38 r)<|A1 13<|Xu [] r (Se R41 0 kk3 H38 r (Cp r) r)<|Az<|Bg () [0]
  refine Ne<|Sq<|Wi fun E46 H47=>Wi fun E48 H49=>Wi fun R50 H51=>Jw Unit [0,2,3,4] [] (fun _=>[]) (fun _=>[.own U0 (lc ((((((s.set a.toNat R5).set d.toNat R14).set c.toNat R23).set b.toNat R32).set a.toNat R41).set d.toNat R50))]) r1 r1 (?_) fun X54=>?_
  ·refine Dr [] r hMix<|Aq [0,1,2,3,6,7] [] r<|A2 4 8 (?_)<|?_
   ·refine Xy [] r (Ix ke46 (Oc 0 r) H47 r)<|A2 5 8 (?_)<|?_
    ·exact Xy [] r (Le kk3 (Oc 0 r) H47 r)<|A1 8<|Xy [] r (Ix ke46 (Oc 0 r) H49 r)<|A1 9<|Xy [] r (Le kk3 (Oc 0 r) H49 r)<|Aq [10] [] r<|A1 11<|Xe [] r (Cl [] spec_l3Left_c H51 r r1) fun _=>A1 12<|Xy [] r (Ix ke46 (Oc 0 r) H47 r)<|A1 13<|Xu [] r (Se R50 0 kk3 H47 r (Cp r) r)<|Az<|Bg () [0]
    exact Xy [] r (Ix ke46 (Oc 0 r) H49 r)<|A2 5 9 (Xy [] r (Le kk3 (Oc 0 r) H47 r)<|A1 9<|Xy [] r (Le kk3 (Oc 0 r) H49 r)<|Aq [10] [] r<|A1 11<|Xe [] r (Cl [] spec_l3Left_c H51 r r1) fun _=>A1 12<|Xy [] r (Ix ke46 (Oc 0 r) H47 r)<|A1 13<|Xu [] r (Se R50 0 kk3 H47 r (Cp r) r)<|Az<|Bg () [0])<|Xy [] r (Le kk3 (Oc 0 r) H49 r)<|A1 5<|Xy [] r (Le kk3 (Oc 0 r) H47 r)<|Aq [10] [] r<|A1 11<|Xe [] r (Cl [] spec_l3Left_c H51 r r1) fun _=>A1 12<|Xy [] r (Ix ke46 (Oc 0 r) H47 r)<|A1 13<|Xu [] r (Se R50 0 kk3 H47 r (Cp r) r)<|Az<|Bg () [0]
   refine Xy [] r (Ix ke46 (Oc 0 r) H49 r)<|A2 4 9 (?_)<|?_
   ·exact Xy [] r (Ix ke46 (Oc 0 r) H47 r)<|A2 5 9 (Xy [] r (Le kk3 (Oc 0 r) H47 r)<|A1 9<|Xy [] r (Le kk3 (Oc 0 r) H49 r)<|Aq [10] [] r<|A1 11<|Xe [] r (Cl [] spec_l3Left_c H51 r r1) fun _=>A1 12<|Xy [] r (Ix ke46 (Oc 0 r) H47 r)<|A1 13<|Xu [] r (Se R50 0 kk3 H47 r (Cp r) r)<|Az<|Bg () [0])<|Xy [] r (Le kk3 (Oc 0 r) H49 r)<|A1 5<|Xy [] r (Le kk3 (Oc 0 r) H47 r)<|Aq [10] [] r<|A1 11<|Xe [] r (Cl [] spec_l3Left_c H51 r r1) fun _=>A1 12<|Xy [] r (Ix ke46 (Oc 0 r) H47 r)<|A1 13<|Xu [] r (Se R50 0 kk3 H47 r (Cp r) r)<|Az<|Bg () [0]
   exact Xy [] r (Le kk3 (Oc 0 r) H49 r)<|A1 4<|Xy [] r (Ix ke46 (Oc 0 r) H47 r)<|A1 5<|Xy [] r (Le kk3 (Oc 0 r) H47 r)<|Aq [10] [] r<|A1 11<|Xe [] r (Cl [] spec_l3Left_c H51 r r1) fun _=>A1 12<|Xy [] r (Ix ke46 (Oc 0 r) H47 r)<|A1 13<|Xu [] r (Se R50 0 kk3 H47 r (Cp r) r)<|Az<|Bg () [0]
  refine Ne<|Sq<|Wi fun E55 H56=>Wi fun E57 H58=>Wi fun R59 H60=>Jw Unit [0,2,3] [] (fun _=>[]) (fun _=>[.own U0 (lc (((((((s.set a.toNat R5).set d.toNat R14).set c.toNat R23).set b.toNat R32).set a.toNat R41).set d.toNat R50).set c.toNat R59))]) r1 r1 (?_) fun X63=>?_
  ·refine Dr [] r hMix<|Aq [0,1,2,3,6,7] [] r<|A2 4 8 (?_)<|?_
   ·refine Xy [] r (Ix ke46 (Oc 0 r) H56 r)<|A2 5 8 (?_)<|?_
    ·exact Xy [] r (Le kk3 (Oc 0 r) H56 r)<|A1 8<|Xy [] r (Ix ke46 (Oc 0 r) H58 r)<|A1 9<|Xy [] r (Le kk3 (Oc 0 r) H58 r)<|Aq [10] [] r<|A1 11<|Xe [] r (Cl [] spec_l3Word_c H60 r r1) fun _=>A1 12<|Xy [] r (Ix ke46 (Oc 0 r) H56 r)<|A1 13<|Xu [] r (Se R59 0 kk3 H56 r (Cp r) r)<|Az<|Bg () [0]
    exact Xy [] r (Ix ke46 (Oc 0 r) H58 r)<|A2 5 9 (Xy [] r (Le kk3 (Oc 0 r) H56 r)<|A1 9<|Xy [] r (Le kk3 (Oc 0 r) H58 r)<|Aq [10] [] r<|A1 11<|Xe [] r (Cl [] spec_l3Word_c H60 r r1) fun _=>A1 12<|Xy [] r (Ix ke46 (Oc 0 r) H56 r)<|A1 13<|Xu [] r (Se R59 0 kk3 H56 r (Cp r) r)<|Az<|Bg () [0])<|Xy [] r (Le kk3 (Oc 0 r) H58 r)<|A1 5<|Xy [] r (Le kk3 (Oc 0 r) H56 r)<|Aq [10] [] r<|A1 11<|Xe [] r (Cl [] spec_l3Word_c H60 r r1) fun _=>A1 12<|Xy [] r (Ix ke46 (Oc 0 r) H56 r)<|A1 13<|Xu [] r (Se R59 0 kk3 H56 r (Cp r) r)<|Az<|Bg () [0]
   refine Xy [] r (Ix ke46 (Oc 0 r) H58 r)<|A2 4 9 (?_)<|?_
   ·exact Xy [] r (Ix ke46 (Oc 0 r) H56 r)<|A2 5 9 (Xy [] r (Le kk3 (Oc 0 r) H56 r)<|A1 9<|Xy [] r (Le kk3 (Oc 0 r) H58 r)<|Aq [10] [] r<|A1 11<|Xe [] r (Cl [] spec_l3Word_c H60 r r1) fun _=>A1 12<|Xy [] r (Ix ke46 (Oc 0 r) H56 r)<|A1 13<|Xu [] r (Se R59 0 kk3 H56 r (Cp r) r)<|Az<|Bg () [0])<|Xy [] r (Le kk3 (Oc 0 r) H58 r)<|A1 5<|Xy [] r (Le kk3 (Oc 0 r) H56 r)<|Aq [10] [] r<|A1 11<|Xe [] r (Cl [] spec_l3Word_c H60 r r1) fun _=>A1 12<|Xy [] r (Ix ke46 (Oc 0 r) H56 r)<|A1 13<|Xu [] r (Se R59 0 kk3 H56 r (Cp r) r)<|Az<|Bg () [0]
   exact Xy [] r (Le kk3 (Oc 0 r) H58 r)<|A1 4<|Xy [] r (Ix ke46 (Oc 0 r) H56 r)<|A1 5<|Xy [] r (Le kk3 (Oc 0 r) H56 r)<|Aq [10] [] r<|A1 11<|Xe [] r (Cl [] spec_l3Word_c H60 r r1) fun _=>A1 12<|Xy [] r (Ix ke46 (Oc 0 r) H56 r)<|A1 13<|Xu [] r (Se R59 0 kk3 H56 r (Cp r) r)<|Az<|Bg () [0]
  refine Ne<|Sq<|Wi fun E64 H65=>Wi fun E66 H67=>Wi fun R68 H69=>Jw Unit [0] [] (fun _=>[]) (fun _=>[.own U0 (lc ((((((((s.set a.toNat R5).set d.toNat R14).set c.toNat R23).set b.toNat R32).set a.toNat R41).set d.toNat R50).set c.toNat R59).set b.toNat R68))]) r1 r1 (?_) fun X72=>?_
  ·refine Dr [] r hMix<|Aq [0,1,2,3,6,7] [] r<|A2 4 8 (?_)<|?_
   ·refine Xy [] r (Ix ke46 (Oc 0 r) H65 r)<|A2 5 8 (?_)<|?_
    ·exact Xy [] r (Le kk3 (Oc 0 r) H65 r)<|A1 8<|Xy [] r (Ix ke46 (Oc 0 r) H67 r)<|A1 9<|Xy [] r (Le kk3 (Oc 0 r) H67 r)<|Aq [10] [] r<|A1 11<|Xe [] r (Cl [] spec_l3Left_c H69 r r1) fun _=>A1 12<|Xy [] r (Ix ke46 (Oc 0 r) H65 r)<|A1 13<|Xu [] r (Se R68 0 kk3 H65 r (Cp r) r)<|Az<|Bg () [0]
    exact Xy [] r (Ix ke46 (Oc 0 r) H67 r)<|A2 5 9 (Xy [] r (Le kk3 (Oc 0 r) H65 r)<|A1 9<|Xy [] r (Le kk3 (Oc 0 r) H67 r)<|Aq [10] [] r<|A1 11<|Xe [] r (Cl [] spec_l3Left_c H69 r r1) fun _=>A1 12<|Xy [] r (Ix ke46 (Oc 0 r) H65 r)<|A1 13<|Xu [] r (Se R68 0 kk3 H65 r (Cp r) r)<|Az<|Bg () [0])<|Xy [] r (Le kk3 (Oc 0 r) H67 r)<|A1 5<|Xy [] r (Le kk3 (Oc 0 r) H65 r)<|Aq [10] [] r<|A1 11<|Xe [] r (Cl [] spec_l3Left_c H69 r r1) fun _=>A1 12<|Xy [] r (Ix ke46 (Oc 0 r) H65 r)<|A1 13<|Xu [] r (Se R68 0 kk3 H65 r (Cp r) r)<|Az<|Bg () [0]
   refine Xy [] r (Ix ke46 (Oc 0 r) H67 r)<|A2 4 9 (?_)<|?_
   ·exact Xy [] r (Ix ke46 (Oc 0 r) H65 r)<|A2 5 9 (Xy [] r (Le kk3 (Oc 0 r) H65 r)<|A1 9<|Xy [] r (Le kk3 (Oc 0 r) H67 r)<|Aq [10] [] r<|A1 11<|Xe [] r (Cl [] spec_l3Left_c H69 r r1) fun _=>A1 12<|Xy [] r (Ix ke46 (Oc 0 r) H65 r)<|A1 13<|Xu [] r (Se R68 0 kk3 H65 r (Cp r) r)<|Az<|Bg () [0])<|Xy [] r (Le kk3 (Oc 0 r) H67 r)<|A1 5<|Xy [] r (Le kk3 (Oc 0 r) H65 r)<|Aq [10] [] r<|A1 11<|Xe [] r (Cl [] spec_l3Left_c H69 r r1) fun _=>A1 12<|Xy [] r (Ix ke46 (Oc 0 r) H65 r)<|A1 13<|Xu [] r (Se R68 0 kk3 H65 r (Cp r) r)<|Az<|Bg () [0]
   exact Xy [] r (Le kk3 (Oc 0 r) H67 r)<|A1 4<|Xy [] r (Ix ke46 (Oc 0 r) H65 r)<|A1 5<|Xy [] r (Le kk3 (Oc 0 r) H65 r)<|Aq [10] [] r<|A1 11<|Xe [] r (Cl [] spec_l3Left_c H69 r r1) fun _=>A1 12<|Xy [] r (Ix ke46 (Oc 0 r) H65 r)<|A1 13<|Xu [] r (Se R68 0 kk3 H65 r (Cp r) r)<|Az<|Bg () [0]
  exact Ne<|Sr<|Qs 2 r<|Nx<|Wr<|Re U0 [0]

/-- loop.example/g00950/spec.l3Block -/
noncomputable def spec_l3Block (key : List UInt8) (counter : Int) (nonce : List UInt8) : Option (List UInt8) :=
  bindC (loopO (fun (S2 : Int × List Int) => if (decide (S2.1 < (8 : Int))) = true then ((spec_l3Little key (IntKind.i64.wrap ((4 : Int) * S2.1))).bind fun R7 =>
  (app 8 S2.2 ([R7])).bind fun E12 =>
  some (.go (IntKind.i64.wrap (S2.1 + (1 : Int)), E12)))
  else (some (.done (.go S2.2))))
  ((0 : Int), ([(1634760805 : Int), (857760878 : Int), (2036477234 : Int), (1797285236 : Int)])))
  (fun (T4 : List Int) => (spec_l3Little nonce (0 : Int)).bind fun R14 =>
  (spec_l3Little nonce (4 : Int)).bind fun R17 =>
  (spec_l3Little nonce (8 : Int)).bind fun R20 =>
  (app 8 T4 ([counter, R14, R17, R20])).bind fun E25 =>
  (app 8 ([] : List Int) E25).bind fun E29 =>
  bindC (loopO (fun (S31 : Int × List Int) => if (decide (S31.1 < (10 : Int))) = true then ((spec_l3Quarter S31.2 (0 : Int) (4 : Int) (8 : Int) (12 : Int)).bind fun R36 =>
  (spec_l3Quarter R36 (1 : Int) (5 : Int) (9 : Int) (13 : Int)).bind fun R39 =>
  (spec_l3Quarter R39 (2 : Int) (6 : Int) (10 : Int) (14 : Int)).bind fun R42 =>
  (spec_l3Quarter R42 (3 : Int) (7 : Int) (11 : Int) (15 : Int)).bind fun R45 =>
  (spec_l3Quarter R45 (0 : Int) (5 : Int) (10 : Int) (15 : Int)).bind fun R48 =>
  (spec_l3Quarter R48 (1 : Int) (6 : Int) (11 : Int) (12 : Int)).bind fun R51 =>
  (spec_l3Quarter R51 (2 : Int) (7 : Int) (8 : Int) (13 : Int)).bind fun R54 =>
  (spec_l3Quarter R54 (3 : Int) (4 : Int) (9 : Int) (14 : Int)).bind fun R57 =>
  some (.go (IntKind.i64.wrap (S31.1 + (1 : Int)), R57)))
  else (some (.done (.go S31.2))))
  ((0 : Int), E29))
  (fun (T33 : List Int) => bindC (loopO (fun (S61 : Int × List UInt8) => if (decide (S61.1 < (16 : Int))) = true then ((idx T33 S61.1).bind fun E66 =>
  (idx E25 S61.1).bind fun E68 =>
  (spec_l3Word (IntKind.i64.wrap (E66 + E68))).bind fun R70 =>
  (app 1 S61.2 ([toU8 (iand .i64 R70 (255 : Int)), toU8 (iand .i64 (ishr .i64 R70 (8 : Int)) (255 : Int)), toU8 (iand .i64 (ishr .i64 R70 (16 : Int)) (255 : Int)), toU8 (ishr .i64 R70 (24 : Int))])).bind fun E75 =>
  some (.go (IntKind.i64.wrap (S61.1 + (1 : Int)), E75)))
  else (some (.done (.go S61.2))))
  ((0 : Int), ([] : List UInt8)))
  (fun (T63 : List UInt8) => some T63)))

theorem spec_l3Block_c {key : List UInt8} {counter : Int} {nonce : List UInt8} : Cn Try.prog 61 [strV key, iv counter, strV nonce] [] [] (spec_l3Block key counter nonce) (fun r (_ : Unit) => strV r) fun _ _ => [] := by
  unfold spec_l3Block
  refine Ci Try.func61 r r ?_
  rintro w S -
  refine Sr<|Qs 1 r<|Nx<|Sr<|Fo (Bs [(1634760805 : Int), (857760878 : Int), (2036477234 : Int), (1797285236 : Int)] ke46 kz3) fun B1=>Qs 1 r<|Nx<|Sq<|Sr<|Qs 1 r<|Nx<|Jn Value [1,2] [] (fun _ X=>[(7, X)]) (fun T X=>[.own X (lc T)]) r2 r2 (?_) fun T4 X5=>?_
  ·exact Wb<|Lp Value [0,1,2] [] (fun T X=>[(7, X), (8, iv T.1)]) (fun T X=>[.own X (lc T.2)]) (.slice (some ⟨B1, 0, none⟩) 4 4) [0] r2 r2 fun S2 X3=>Sq<|Sr<|Qs 2 r<|Nx<|Wc r (fun H6=>Sn<|Sq<|Wb<|Rg<|Qs 4 r<|Bi fun R7 H8=>Fo (Cl [] spec_l3Little_c H8 r r1) fun _=>Fo (Bs [R7] ke46 kz3) fun B10=>Bi fun E12 H13=>Fo (Ap [1] H13 ke46 kz3 r (Oc 0 r)) fun V11=>Qs 1 r<|Nl<|Bn<|Ne<|Rg<|Qs 3 r<|Nl<|Lg V11 [0]) fun H6=>Wx<|Tx<|Ex<|Be<|Jg X3 [0]
  refine Ne<|Sr<|Qs 3 r<|Bi fun R14 H15=>Fo (Cl [] spec_l3Little_c H15 r r1) fun _=>Qs 1 r<|Bi fun R17 H18=>Fo (Cl [] spec_l3Little_c H18 r r1) fun _=>Qs 1 r<|Bi fun R20 H21=>Fo (Cl [] spec_l3Little_c H21 r r1) fun _=>Fo (Bs [counter, R14, R17, R20] ke46 kz3) fun B23=>Bi fun E25 H26=>Fo (Ap [1] H26 ke46 kz3 r (Oc 0 r)) fun V24=>Qs 1 r<|Nx<|Sr<|Fo (Bs ([] : List Int) ke46 kz3) fun B27=>Qs 1 r<|Bi fun E29 H30=>Fo (Ap [0] H30 ke46 kz3 r (Oc 1 r)) fun V28=>Qs 1 r<|Nx<|Sq<|Sr<|Qs 1 r<|Nx<|Jn Value [7] [1] (fun _ X=>[(9, X)]) (fun T X=>[.own X (lc T)]) r2 r2 (?_) fun T33 X34=>?_
  ·refine Wb<|Lp Value [7] [1] (fun T X=>[(9, X), (10, iv T.1)]) (fun T X=>[.own X (lc T.2)]) V28 [1,0] r2 r2 fun S31 X32=>Sq<|Sr<|Qs 2 r<|Nx<|Wc r (fun H35=>?_) fun H35=>?_
   ·refine Sn<|Sq<|Wb<|Sr<|Qs 1 r<|Bi fun R36 H37=>Fo (Cl [1] spec_l3Quarter_c H37 r r1) fun Y38=>Qs 1 r<|Nx<|Sr<|Qs 1 r<|Bi fun R39 H40=>Fo (Cl [0] spec_l3Quarter_c H40 r r1) fun Y41=>Qs 1 r<|Nx<|Sr<|Qs 1 r<|Bi fun R42 H43=>Fo (Cl [0] spec_l3Quarter_c H43 r r1) fun Y44=>Qs 1 r<|Nx<|Sr<|Qs 1 r<|Bi fun R45 H46=>Fo (Cl [0] spec_l3Quarter_c H46 r r1) fun Y47=>Qs 1 r<|Nx<|Sr<|Qs 1 r<|Bi fun R48 H49=>Fo (Cl [0] spec_l3Quarter_c H49 r r1) fun Y50=>Qs 1 r<|Nx<|Sr<|Qs 1 r<|Bi fun R51 H52=>Fo (Cl [0] spec_l3Quarter_c H52 r r1) fun Y53=>?_
    exact Qs 1 r<|Nx<|Sr<|Qs 1 r<|Bi fun R54 H55=>Fo (Cl [0] spec_l3Quarter_c H55 r r1) fun Y56=>Qs 1 r<|Nx<|Rg<|Qs 1 r<|Bi fun R57 H58=>Fo (Cl [0] spec_l3Quarter_c H58 r r1) fun Y59=>Qs 1 r<|Nl<|Bn<|Ne<|Rg<|Qs 3 r<|Nl<|Lg Y59 [1,0]
   exact Wx<|Tx<|Ex<|Be<|Jg X32 [0,0]
  refine Ne<|Sr<|Fo (Bs ([] : List UInt8) ke29 kz5) fun B60=>Qs 1 r<|Nx<|Sq<|Sr<|Qs 1 r<|Nx<|Jn Value [] [] (fun _ X=>[(11, X)]) (fun T X=>[.own X (lc T)]) r2 r2 (?_) fun T63 X64=>?_
  ·refine Wb<|Lp Value [7,9] [1,1] (fun T X=>[(11, X), (12, iv T.1)]) (fun T X=>[.own X (lc T.2)]) (.slice (some ⟨B60, 0, none⟩) 0 0) [1,1,0] r2 r2 fun S61 X62=>Sq<|Sr<|Qs 2 r<|Nx<|Wc r (fun H65=>?_) fun H65=>?_
   ·refine Sn<|Sq<|Wb<|Sq<|Dr [0,0,0] r hMix<|Aq [0,1] [0,0,0] r<|Ai fun E66 H67=>Ay 2 [0,0,0] r (Ix ke46 (Oc 1 r) H67 r)<|Ay 3 [0,0,0] r (Le kk3 (Oc 1 r) H67 r)<|Aq [4,5] [0,0,0] r<|Ai fun E68 H69=>Ay 6 [0,0,0] r (Ix ke46 (Oc 0 r) H69 r)<|Ay 7 [0,0,0] r (Le kk3 (Oc 0 r) H69 r)<|Aq [8] [0,0,0] r<|Ai fun R70 H71=>A1 9<|Xe [0,0,0] r (Cl [] spec_l3Word_c H71 r r1) fun _=>Aq [10] [0,0,0] r<|Az<|Ne<|Rg<|Qs 3 r<|Yo (Y.conv8 ki3 ki5 r)<|Qs 1 r<|Yo (Y.shr (by decide) r r)<|Qs 1 r<|Yo (Y.conv8 ki3 ki5 r)<|Qs 1 r<|Yo (Y.shr (by decide) r r)<|Qs 1 r<|Yo (Y.conv8 ki3 ki5 r)<|Qs 1 r<|Yo (Y.shr (by decide) r r)<|Yo (Y.conv8 ki3 ki5 r)<|Fo (Bs [toU8 (iand .i64 R70 (255 : Int)), toU8 (iand .i64 (ishr .i64 R70 (8 : Int)) (255 : Int)), toU8 (iand .i64 (ishr .i64 R70 (16 : Int)) (255 : Int)), toU8 (ishr .i64 R70 (24 : Int))] ke29 kz5) fun B73=>?_
    exact Bi fun E75 H76=>Fo (Ap [3] H76 ke29 kz5 r (Oc 0 r)) fun V74=>Qs 1 r<|Nl<|Bn<|Ne<|Rg<|Qs 3 r<|Nl<|Lg V74 [2,2,0]
   exact Wx<|Tx<|Ex<|Be<|Jg X62 [2]
  exact Ne<|Sr<|Qs 1 r<|Yo (Y.toStr ke29 ki5 ks9 (Oc 0 r) r)<|Qs 1 r<|Nx<|Wr<|Re () []

/-- loop.example/g00950/spec.ChaBlock -/
noncomputable def spec_ChaBlock (key : List UInt8) (counter : Int) (nonce : List UInt8) : Option (List UInt8) :=
  (if (!(decide (((key.length : Nat) : Int) = (32 : Int)))) = true then (some true)
  else (if (!(decide (((nonce.length : Nat) : Int) = (12 : Int)))) = true then (some true)
  else ((spec_l1In counter (0 : Int) (4294967295 : Int)).bind fun R5 =>
  some (!R5)))).bind (fun (T1 : Bool) =>
  if T1 = true then (some ([]))
  else ((spec_l3Block key counter nonce).bind fun R9 =>
  some R9))

theorem spec_ChaBlock_c {key : List UInt8} {counter : Int} {nonce : List UInt8} : Cn Try.prog 33 [strV key, iv counter, strV nonce] [] [] (spec_ChaBlock key counter nonce) (fun r (_ : Unit) => strV r) fun _ _ => [] := by
  unfold spec_ChaBlock
  refine Ci Try.func33 r r ?_
  rintro w S -
  refine Sr<|Qs 1 r<|Nx<|Sq<|Sq<|Jv [0,1,2] (fun T=>[(19, .bool T)]) r1 (?_) fun T1=>?_
  ·exact Rg<|Qs 1 r<|Yo (Y.slen ks9 r)<|Qs 2 r<|It (fun H3=>Of 3 (beq_tf H3) r r<|Yo (Pt H3 r)<|Qs 1 r<|Of 3 r r r<|Yo (Pt r r)<|Nl<|Bg () []) fun H3=>Qg 1 (beq_ff H3) r r<|Yg (gdA (beq_ff H3)) (Y.slen ks9 r)<|Qg 1 (beq_ff H3) r r<|Yo (Pf H3 r)<|Qs 1 r<|It (fun H4=>Of 3 (beq_tf H4) r r<|Yo (Pt H4 r)<|Nl<|Bg () []) fun H4=>Qg 1 (beq_ff H4) r r<|Bi fun R5 H6=>Fg (gdA (beq_ff H4)) (Cl [] spec_l1In_c H6 r r1) fun _=>Qg 1 (beq_ff H4) r r<|Yo (Pf H4 r)<|Nl<|Bg () []
  exact Ne<|Wc r (fun H8=>Sr<|Qs 1 r<|Nx<|Wr<|Tr<|Re () []) fun H8=>Sn<|Sr<|Qs 3 r<|Bi fun R9 H10=>Fo (Cl [] spec_l3Block_c H10 r r1) fun _=>Qs 1 r<|Nx<|Wr<|Re () []

/-- loop.example/g00950/spec.ChaStream -/
noncomputable def spec_ChaStream (key : List UInt8) (counter : Int) (nonce : List UInt8) (text : List UInt8) : Option (List UInt8) :=
  (spec_ChaBlock key counter nonce).bind fun R2 =>
  if (decide (R2 = ([]))) = true then (some ([]))
  else (bindC (loopO (fun (S6 : Int × List UInt8) => if (decide (S6.1 < ((text.length : Nat) : Int))) = true then ((spec_ChaBlock key (IntKind.i64.wrap (counter + (IntKind.i64.wrap (Int.tdiv S6.1 (64 : Int))))) nonce).bind fun R11 =>
  if (decide (R11 = ([]))) = true then (some (.done (.done ([]))))
  else (bindC (loopO (fun (S15 : Int × List UInt8) => (if (decide (S15.1 < ((text.length : Nat) : Int))) = true then (some (decide (S15.1 < IntKind.i64.wrap (S6.1 + (64 : Int)))))
  else (some false)).bind (fun (T19 : Bool) =>
  if T19 = true then ((sidx text S15.1).bind fun E23 =>
  (sidx R11 (IntKind.i64.wrap (S15.1 - S6.1))).bind fun E25 =>
  (app 1 S15.2 ([(E23 ^^^ E25)])).bind fun E29 =>
  some (.go (IntKind.i64.wrap (S15.1 + (1 : Int)), E29)))
  else (some (.done (.go S15.2)))))
  (S6.1, S6.2))
  (fun (T17 : List UInt8) => some (.go (IntKind.i64.wrap (S6.1 + (64 : Int)), T17)))))
  else (some (.done (.go S6.2))))
  ((0 : Int), ([] : List UInt8)))
  (fun (T8 : List UInt8) => some T8))

theorem spec_ChaStream_c {key : List UInt8} {counter : Int} {nonce : List UInt8} {text : List UInt8} : Cn Try.prog 16 [strV key, iv counter, strV nonce, strV text] [] [] (spec_ChaStream key counter nonce text) (fun r (_ : Unit) => strV r) fun _ _ => [] := by
  unfold spec_ChaStream
  refine Ci Try.func16 r r ?_
  rintro w S -
  refine Sr<|Qs 1 r<|Nx<|Sr<|Fo (Bs ([] : List UInt8) ke29 kz5) fun B1=>Qs 1 r<|Nx<|Sq<|Sr<|Qs 3 r<|Bi fun R2 H3=>Fo (Cl [] spec_ChaBlock_c H3 r r1) fun _=>Qs 1 r<|Nx<|Wc r (fun H5=>Sr<|Qs 1 r<|Nx<|Wr<|Tr<|Re () []) fun H5=>Sn<|Sq<|Sr<|Qs 1 r<|Nx<|Jn Value [] [] (fun _ X=>[(9, X)]) (fun T X=>[.own X (lc T)]) r2 r2 (?_) fun T8 X9=>?_
  ·refine Wb<|Lp Value [0,1,2,3] [] (fun T X=>[(9, X), (10, iv T.1)]) (fun T X=>[.own X (lc T.2)]) (.slice (some ⟨B1, 0, none⟩) 0 0) [0] r2 r2 fun S6 X7=>Sq<|Sr<|Qs 2 r<|Yo (Y.slen ks9 r)<|Qs 1 r<|Nx<|Wc r (fun H10=>?_) fun H10=>?_
   ·refine Sn<|Sq<|Wb<|Sr<|Qs 3 r<|Yo (Y.quo (by decide) r r)<|Qs 2 r<|Bi fun R11 H12=>Fo (Cl [] spec_ChaBlock_c H12 r r1) fun _=>Qs 1 r<|Nx<|Sq<|Sr<|Qs 2 r<|Nx<|Wc r (fun H14=>Sr<|Qs 1 r<|Nx<|Wr<|Tr<|Br<|Tr<|Er<|Br<|Jd<|Tr<|Re () []) fun H14=>Sn<|Sr<|Qs 2 r<|Nx<|Jn Value [0,1,2,3,10] [] (fun _ X=>[(9, X)]) (fun T X=>[.own X (lc T)]) r2 r2 (?_) fun T17 X18=>?_
    ·refine Wb<|Lp Value [0,1,2,3,10,11] [] (fun T X=>[(9, X), (12, iv T.1)]) (fun T X=>[.own X (lc T.2)]) X7 [0] r2 r2 fun S15 X16=>Sq<|Sq<|Jv [0,1,2,3,9,10,11,12] (fun T=>[(44, .bool T)]) r1 (Rg<|Qs 2 r<|Yo (Y.slen ks9 r)<|Qs 2 r<|It (fun H21=>Qg 4 (beq_tt H21) r r<|Yo (Pt H21 r)<|Nl<|Bg () [0]) fun H21=>Of 4 (beq_ft H21) r r<|Yo (Pf H21 r)<|Nl<|Bg () [0]) fun T19=>Ne<|Wc r (fun H22=>?_) fun H22=>?_
     ·exact Sn<|Sq<|Wb<|Dr [] r hMix<|Aq [0,1,2] [] r<|Ai fun E23 H24=>Ay 3 [] r (Y.sidx H24 ks9 r r)<|Aq [4,5,6,7] [] r<|Ai fun E25 H26=>Ay 8 [] r (Y.sidx H26 ks9 r r)<|Ay 9 [] r (Y.xor8 r r)<|A1 10<|Xe [] r (Bs [(E23 ^^^ E25)] ke29 kz5) fun B27=>Ai fun E29 H30=>A1 11<|Xe [] r (Ap [1] H30 ke29 kz5 r (Oc 0 r)) fun V28=>Aq [12] [] r<|Az<|Bn<|Ne<|Rg<|Qs 3 r<|Nl<|Lg V28 [0]
     exact Wx<|Tx<|Ex<|Be<|Jg X16 [0]
    exact Bn<|Ne<|Rg<|Qs 3 r<|Nl<|Lg X18 [0]
   exact Wx<|Tx<|Ex<|Be<|Jg X7 [0]
  exact Ne<|Sr<|Qs 1 r<|Yo (Y.toStr ke29 ki5 ks9 (Oc 0 r) r)<|Qs 1 r<|Nx<|Wr<|Re () []

/-- loop.example/g00950/spec.SealBatch -/
noncomputable def spec_SealBatch (key : List UInt8) (boot : Int) (seq : Int) (l : List Op) : Option (List UInt8) :=
  ((spec_BatchOk l).bind fun R3 =>
  if (!R3) = true then (some true)
  else (if (!(decide (((key.length : Nat) : Int) = (32 : Int)))) = true then (some true)
  else ((spec_l8At boot seq).bind fun R8 =>
  some (!R8)))).bind (fun (T1 : Bool) =>
  if T1 = true then (some ([]))
  else ((spec_NonceOf (3 : Int) (IntKind.i64.wrap (IntKind.i64.wrap (boot * (1000000 : Int)) + seq))).bind fun R12 =>
  (spec_ShowBatch l).bind fun R15 =>
  (spec_ChaStream key (0 : Int) R12 R15).bind fun R18 =>
  some R18))

theorem spec_SealBatch_c {key : List UInt8} {boot : Int} {seq : Int} {l : List Op} {U0 : Value} : Cn Try.prog 12 [strV key, iv boot, iv seq, U0] [] [(U0, lc l)] (spec_SealBatch key boot seq l) (fun r (_ : Unit) => strV r) fun _ _ => [] := by
  unfold spec_SealBatch
  refine Ci Try.func12 r r ?_
  rintro w S ⟨Z0,-⟩
  refine Sr<|Qs 1 r<|Nx<|Sq<|Sq<|Jv [0,1,2,3] (fun T=>[(22, .bool T)]) r1 (?_) fun T1=>?_
  ·exact Rg<|Qs 1 r<|Bi fun R3 H4=>Fo (Cl [] spec_BatchOk_c H4 r r1 ⟨(Bc Z0),⟨⟩⟩) fun _=>Qs 2 r<|It (fun H6=>Of 3 (beq_tf H6) r r<|Yo (Pt H6 r)<|Qs 1 r<|Of 4 r r r<|Yo (Pt r r)<|Nl<|Bg () []) fun H6=>Qg 1 (beq_ff H6) r r<|Yg (gdA (beq_ff H6)) (Y.slen ks9 r)<|Qg 1 (beq_ff H6) r r<|Yo (Pf H6 r)<|Qs 1 r<|It (fun H7=>Of 4 (beq_tf H7) r r<|Yo (Pt H7 r)<|Nl<|Bg () []) fun H7=>Qg 2 (beq_ff H7) r r<|Bi fun R8 H9=>Fg (gdA (beq_ff H7)) (Cl [] spec_l8At_c H9 r r1) fun _=>Qg 1 (beq_ff H7) r r<|Yo (Pf H7 r)<|Nl<|Bg () []
  exact Ne<|Wc r (fun H11=>Sr<|Qs 1 r<|Nx<|Wr<|Tr<|Re () []) fun H11=>Sn<|Sr<|Qs 5 r<|Bi fun R12 H13=>Fo (Cl [] spec_NonceOf_c H13 r r1) fun _=>Qs 1 r<|Bi fun R15 H16=>Fo (Cl [] spec_ShowBatch_c H16 r r1 ⟨(Bc Z0),⟨⟩⟩) fun _=>Bi fun R18 H19=>Fo (Cl [] spec_ChaStream_c H19 r r1) fun _=>Qs 1 r<|Nx<|Wr<|Re () []

/-- loop.example/g00950/impl.ReadVar -/
noncomputable def impl_ReadVar (s : List UInt8) : Option (Int × Int) :=
  bindC (loopO (fun (S1 : Int × Int) => (if (decide (S1.2 < (7 : Int))) = true then (some (decide (S1.2 < ((s.length : Nat) : Int))))
  else (some false)).bind (fun (T5 : Bool) =>
  if T5 = true then ((sidx s S1.2).bind fun E9 =>
  if (decide (((E9.toNat : Nat) : Int) ≥ (128 : Int))) = true then (some (.go (ior .i64 S1.1 (ishl .i64 (IntKind.i64.wrap (iand .u8 ((E9.toNat : Nat) : Int) (127 : Int))) (IntKind.u64.wrap (IntKind.i64.wrap ((7 : Int) * S1.2)))), IntKind.i64.wrap (S1.2 + (1 : Int)))))
  else ((if (decide (((E9.toNat : Nat) : Int) = (0 : Int))) = true then (some (decide (S1.2 > (0 : Int))))
  else (some false)).bind (fun (T12 : Bool) =>
  if T12 = true then (some (.done (.done ((0 : Int), (0 : Int)))))
  else (some (.done (.done (ior .i64 S1.1 (ishl .i64 (IntKind.i64.wrap (iand .u8 ((E9.toNat : Nat) : Int) (127 : Int))) (IntKind.u64.wrap (IntKind.i64.wrap ((7 : Int) * S1.2)))), IntKind.i64.wrap (S1.2 + (1 : Int)))))))))
  else (some (.done (.go ())))))
  ((0 : Int), (0 : Int)))
  (fun (T3 : Unit) => some ((0 : Int), (0 : Int)))

theorem impl_ReadVar_c {s : List UInt8} : Cn Try.prog 70 [strV s] [] [] (impl_ReadVar s) (fun r (_ : Unit) => .tuple #[iv r.1, iv r.2]) fun _ _ => [] := by
  unfold impl_ReadVar
  refine Ci Try.func70 r r ?_
  rintro w S -
  refine Sr<|Qs 2 r<|Nx<|Sr<|Qs 1 r<|Nx<|Sq<|Sr<|Qs 1 r<|Nx<|Ju [] (fun _=>[]) r1 (?_) fun T3=>?_
  ·refine Wb<|Lu [0] (fun T=>[(4, iv T.1), (5, iv T.2)]) r1 fun S1=>Sq<|Sq<|Jv [0,4,5] (fun T=>[(13, .bool T)]) r1 (Rg<|Qs 3 r<|It (fun H7=>Qg 2 (beq_tt H7) r r<|Yg (gdA (beq_tt H7)) (Y.slen ks9 r)<|Qg 1 (beq_tt H7) r r<|Yo (Pt H7 r)<|Nl<|Bg () []) fun H7=>Of 4 (beq_ft H7) r r<|Yo (Pf H7 r)<|Nl<|Bg () []) fun T5=>Ne<|Wc r (fun H8=>?_) fun H8=>?_
   ·refine Sn<|Sq<|Wb<|Sr<|Qs 3 r<|Bi fun E9 H10=>Yo (Y.sidx H10 ks9 r r)<|Qs 1 r<|Yo (Y.conv ki5 ki3 r)<|Qs 2 r<|Yo (Y.conv ki3 ki57 r)<|Yo (Y.shl (wrap_u_nonneg r _) r r)<|Qs 2 r<|Nx<|Sq<|Sr<|Qs 2 r<|Yo (Y.sidx H10 ks9 r r)<|Qs 1 r<|Nx<|Wc r (fun H11=>Wx<|Tx<|Be<|Ne<|Rg<|Qs 3 r<|Nl<|Lg () []) fun H11=>Sn<|Sq<|Sq<|Jv [4,5] (fun T=>[(38, .bool T)]) r1 (Rg<|Qs 2 r<|Yo (Y.sidx H10 ks9 r r)<|Qs 2 r<|It (fun H14=>Qg 2 (beq_tt H14) r r<|Yo (Pt H14 r)<|Nl<|Bg () []) fun H14=>Of 2 (beq_ft H14) r r<|Yo (Pf H14 r)<|Nl<|Bg () []) fun T12=>Ne<|Wc r (fun H15=>Sr<|Qs 2 r<|Nx<|Wr<|Tr<|Br<|Tr<|Er<|Br<|Jd<|Tr<|Re () []) fun H15=>?_
    exact Sn<|Sr<|Qs 5 r<|Nx<|Wr<|Br<|Tr<|Er<|Br<|Jd<|Tr<|Re () []
   exact Wx<|Tx<|Ex<|Be<|Jg () []
  exact Ne<|Sr<|Qs 2 r<|Nx<|Wr<|Re () []

/-- (*loop.example/g00950/impl.reader).number -/
noncomputable def impl_reader_number (r_ : Reader) : Option (Int × Reader) :=
  if r_.bad = true then (some ((0 : Int), r_))
  else ((ssub r_.text r_.at_ (r_.text.length : Int)).bind fun E2 =>
  (impl_ReadVar E2).bind fun R4 =>
  if (decide (R4.2 = (0 : Int))) = true then (some ((0 : Int), { text := r_.text, at_ := r_.at_, bad := true : Reader }))
  else (some (R4.1, { text := r_.text, at_ := IntKind.i64.wrap (r_.at_ + R4.2), bad := r_.bad : Reader })))

theorem impl_reader_number_c {r_ : Reader} {U0 : Nat} : Cn Try.prog 57 [pt U0] [.box U0 84 [strV r_.text, iv r_.at_, .bool r_.bad]] [] (impl_reader_number r_) (fun r (_ : Unit) => iv r.1) fun r _ => [.box U0 84 [strV r.2.text, iv r.2.at_, .bool r.2.bad]] := by
  unfold impl_reader_number
  refine Ci Try.func57 r r ?_
  rintro w S -
  refine Sr<|Qs 1 r<|Nx<|Sq<|Sr<|Qs 2 r<|Yo (Fb kf84_2 r)<|Yo (Lb 0 kk4 r)<|Nx<|Wc r (fun H1=>Sr<|Qs 1 r<|Nx<|Wr<|Tr<|Re () [0]) fun H1=>Sn<|Sq<|Dr [0] r hMix<|Aq [0,1] [0] r<|Ay 2 [0] r (Fb kf84_0 r)<|Ay 3 [0] r (Lb 0 kk9 r)<|Aq [4,5] [0] r<|Ay 6 [0] r (Fb kf84_1 r)<|Ay 7 [0] r (Lb 0 kk3 r)<|Ai fun E2 H3=>Ay 8 [0] r (Y.ssub_from H3 ks9 r r)<|Ai fun R4 H5=>A1 9<|Xe [0] r (Cl [] impl_ReadVar_c H5 r r1) fun _=>Aq [10,11,12,13,14] [0] r<|Az<|Ne<|Sq<|Sr<|Qs 2 r<|Nx<|Wc r (fun H7=>Sr<|Qs 2 r<|Yo (Fb kf84_2 r)<|Fu (Sb 0 kk4 r (Cp r) r)<|Nx<|Sr<|Qs 1 r<|Nx<|Wr<|Tr<|Re () [0]) fun H7=>?_
  exact Sn<|Sr<|Qs 2 r<|Yo (Fb kf84_1 r)<|Yo (Lb 0 kk3 r)<|Qs 3 r<|Yo (Fb kf84_1 r)<|Fu (Sb 0 kk3 r (Cp r) r)<|Nx<|Sr<|Qs 2 r<|Nx<|Wr<|Re () [0]

/-- (*loop.example/g00950/impl.reader).bytes -/
noncomputable def impl_reader_bytes (r_ : Reader) (n : Int) : Option (List UInt8 × Reader) :=
  (if r_.bad = true then (some true)
  else (some (decide (n > IntKind.i64.wrap (((r_.text.length : Nat) : Int) - r_.at_))))).bind (fun (T1 : Bool) =>
  if T1 = true then (some ([], { text := r_.text, at_ := r_.at_, bad := true : Reader }))
  else ((ssub r_.text (IntKind.i64.wrap (IntKind.i64.wrap (r_.at_ + n) - n)) (IntKind.i64.wrap (r_.at_ + n))).bind fun E5 =>
  some (E5, { text := r_.text, at_ := IntKind.i64.wrap (r_.at_ + n), bad := r_.bad : Reader })))

theorem impl_reader_bytes_c {r_ : Reader} {n : Int} {U0 : Nat} : Cn Try.prog 71 [pt U0, iv n] [.box U0 84 [strV r_.text, iv r_.at_, .bool r_.bad]] [] (impl_reader_bytes r_ n) (fun r (_ : Unit) => strV r.1) fun r _ => [.box U0 84 [strV r.2.text, iv r.2.at_, .bool r.2.bad]] := by
  unfold impl_reader_bytes
  refine Ci Try.func71 r r ?_
  rintro w S -
  refine Sr<|Qs 1 r<|Nx<|Sq<|Sq<|Jv [0,1] (fun T=>[(22, .bool T)]) r1 (?_) fun T1=>?_
  ·exact Dr [0] r hMix<|Aq [0,1] [0] r<|Ay 2 [0] r (Fb kf84_2 r)<|Ay 3 [0] r (Lb 0 kk4 r)<|Aq [4] [0] r<|Ia (fun H3=>Ax [5,6,7,8,9,10,11,12,13,14,15,16] [0] (beq_tf H3) r r<|Ay 17 [0] r (Pt H3 r)<|Az<|Bg () [0]) fun H3=>Ag 5 [0] (gdA (beq_ff H3)) r (Y.move r)<|Ag 6 [0] (gdA (beq_ff H3)) r (Y.move r)<|Ag 7 [0] (gdA (beq_ff H3)) r (Y.nilCheck r)<|Ag 8 [0] (gdA (beq_ff H3)) r (Fb kf84_0 r)<|Ag 9 [0] (gdA (beq_ff H3)) r (Lb 0 kk9 r)<|Ag 10 [0] (gdA (beq_ff H3)) r (Y.slen ks9 r)<|Ag 11 [0] (gdA (beq_ff H3)) r (Y.move r)<|Ag 12 [0] (gdA (beq_ff H3)) r (Y.nilCheck r)<|Ag 13 [0] (gdA (beq_ff H3)) r (Fb kf84_1 r)<|Ag 14 [0] (gdA (beq_ff H3)) r (Lb 0 kk3 r)<|Ag 15 [0] (gdA (beq_ff H3)) r (Y.sub r r)<|Ag 16 [0] (gdA (beq_ff H3)) r (Y.gtr r r)<|Ay 17 [0] r (Pf H3 r)<|Az<|Bg () [0]
  exact Ne<|Wc r (fun H4=>Sr<|Qs 2 r<|Yo (Fb kf84_2 r)<|Fu (Sb 0 kk4 r (Cp r) r)<|Nx<|Sr<|Qs 1 r<|Nx<|Wr<|Tr<|Re () [0]) fun H4=>Sn<|Sr<|Qs 2 r<|Yo (Fb kf84_1 r)<|Yo (Lb 0 kk3 r)<|Qs 3 r<|Yo (Fb kf84_1 r)<|Fu (Sb 0 kk3 r (Cp r) r)<|Nx<|Sq<|Dr [0] r hMix<|Aq [0,1] [0] r<|Ay 2 [0] r (Fb kf84_0 r)<|Ay 3 [0] r (Lb 0 kk9 r)<|Aq [4,5] [0] r<|Ay 6 [0] r (Fb kf84_1 r)<|Ay 7 [0] r (Lb 0 kk3 r)<|Aq [8,9,10,11] [0] r<|Ay 12 [0] r (Fb kf84_1 r)<|Ay 13 [0] r (Lb 0 kk3 r)<|Ai fun E5 H6=>Ay 14 [0] r (Y.ssub_both H6 ks9 r r r)<|Aq [15] [0] r<|Az<|Ne<|Wr<|Re () [0]

/-- (*loop.example/g00950/impl.reader).flag -/
noncomputable def impl_reader_flag (r_ : Reader) : Option (Bool × Reader) :=
  (impl_reader_bytes r_ (1 : Int)).bind fun R1 =>
  (if (!(decide (R1.1 = ([0])))) = true then (some (!(decide (R1.1 = ([1])))))
  else (some false)).bind (fun (T4 : Bool) =>
  bindC (if T4 = true then (some (.go true))
  else (some (.go R1.2.bad)))
  (fun (T7 : Bool) => some (decide (R1.1 = ([1])), { text := R1.2.text, at_ := R1.2.at_, bad := T7 : Reader })))

theorem impl_reader_flag_c {r_ : Reader} {U0 : Nat} : Cn Try.prog 58 [pt U0] [.box U0 84 [strV r_.text, iv r_.at_, .bool r_.bad]] [] (impl_reader_flag r_) (fun r (_ : Unit) => .bool r.1) fun r _ => [.box U0 84 [strV r.2.text, iv r.2.at_, .bool r.2.bad]] := by
  unfold impl_reader_flag
  refine Ci Try.func58 r r ?_
  rintro w S -
  exact Sr<|Qs 1 r<|Nx<|Sr<|Qs 1 r<|Bi fun R1 H2=>Fo (Cl [0] impl_reader_bytes_c H2 r r1) fun _=>Qs 1 r<|Nx<|Sq<|Sq<|Jv [0,3] (fun T=>[(11, .bool T)]) r1 (Rg<|Qs 3 r<|It (fun H6=>Qg 2 (beq_tt H6) r r<|Yo (Pt H6 r)<|Nl<|Bg () [0]) fun H6=>Of 2 (beq_ft H6) r r<|Yo (Pf H6 r)<|Nl<|Bg () [0]) fun T4=>Ne<|Jn Unit [3] [] (fun _ _=>[]) (fun T _=>[.box U0 84 [strV R1.2.text, iv R1.2.at_, .bool T]]) r2 r2 (Wc r (fun H9=>Rg<|Qs 2 r<|Yo (Fb kf84_2 r)<|Fu (Sb 0 kk4 r (Cp r) r)<|Nl<|Jg () [0]) fun H9=>Sk<|Jg () [0]) fun T7 X8=>Ne<|Sr<|Qs 3 r<|Nx<|Wr<|Re () [0]

/-- (*loop.example/g00950/impl.reader).short -/
noncomputable def impl_reader_short (r_ : Reader) : Option (List UInt8 × Reader) :=
  (impl_reader_number r_).bind fun R1 =>
  (impl_reader_bytes R1.2 R1.1).bind fun R4 =>
  some (R4.1, R4.2)

theorem impl_reader_short_c {r_ : Reader} {U0 : Nat} : Cn Try.prog 59 [pt U0] [.box U0 84 [strV r_.text, iv r_.at_, .bool r_.bad]] [] (impl_reader_short r_) (fun r (_ : Unit) => strV r.1) fun r _ => [.box U0 84 [strV r.2.text, iv r.2.at_, .bool r.2.bad]] := by
  unfold impl_reader_short
  refine Ci Try.func59 r r ?_
  rintro w S -
  exact Sr<|Qs 1 r<|Nx<|Sr<|Qs 1 r<|Bi fun R1 H2=>Fo (Cl [0] impl_reader_number_c H2 r r1) fun _=>Qs 1 r<|Nx<|Sr<|Qs 2 r<|Bi fun R4 H5=>Fo (Cl [0] impl_reader_bytes_c H5 r r1) fun _=>Qs 1 r<|Nx<|Wr<|Re () [0]

/-- (*loop.example/g00950/impl.reader).done -/
noncomputable def impl_reader_done (r_ : Reader) : Option Bool :=
  (if (!r_.bad) = true then (some (decide (r_.at_ = ((r_.text.length : Nat) : Int))))
  else (some false)).bind (fun (T1 : Bool) =>
  some T1)

theorem impl_reader_done_c {r_ : Reader} {U0 : Nat} : Cn Try.prog 60 [pt U0] [.box U0 84 [strV r_.text, iv r_.at_, .bool r_.bad]] [] (impl_reader_done r_) (fun r (_ : Unit) => .bool r) fun _ _ => [.box U0 84 [strV r_.text, iv r_.at_, .bool r_.bad]] := by
  unfold impl_reader_done
  refine Ci Try.func60 r r ?_
  rintro w S -
  refine Sr<|Qs 1 r<|Nx<|Sq<|Jv [] (fun T=>[(2, .bool T)]) r1 (?_) fun T1=>?_
  ·refine Dr [0] r hMix<|Aq [0,1] [0] r<|Ay 2 [0] r (Fb kf84_2 r)<|Ay 3 [0] r (Lb 0 kk4 r)<|Aq [4,5] [0] r<|Ia (fun H3=>?_) fun H3=>?_
   ·exact Ag 6 [0] (gdA (beq_tt H3)) r (Y.move r)<|Ag 7 [0] (gdA (beq_tt H3)) r (Y.nilCheck r)<|Ag 8 [0] (gdA (beq_tt H3)) r (Fb kf84_1 r)<|Ag 9 [0] (gdA (beq_tt H3)) r (Lb 0 kk3 r)<|Ag 10 [0] (gdA (beq_tt H3)) r (Y.move r)<|Ag 11 [0] (gdA (beq_tt H3)) r (Y.nilCheck r)<|Ag 12 [0] (gdA (beq_tt H3)) r (Fb kf84_0 r)<|Ag 13 [0] (gdA (beq_tt H3)) r (Lb 0 kk9 r)<|Ag 14 [0] (gdA (beq_tt H3)) r (Y.slen ks9 r)<|Ag 15 [0] (gdA (beq_tt H3)) r (Y.eql r r)<|Ay 16 [0] r (Pt H3 r)<|Aq [17] [0] r<|Az<|Bg () [0]
   exact Ax [6,7,8,9,10,11,12,13,14,15] [0] (beq_ft H3) r r<|Ay 16 [0] r (Pf H3 r)<|Aq [17] [0] r<|Az<|Bg () [0]
  exact Ne<|Wr<|Re () [0]

/-- loop.example/g00950/impl.ReadBatch -/
noncomputable def impl_ReadBatch (s : List UInt8) : Option (List Op × Bool) :=
  (impl_reader_number ({ text := s, at_ := (0 : Int), bad := false : Reader })).bind fun R2 =>
  bindC (loopO (fun (S5 : List UInt8 × Int × Bool × Int × List Op) => (if (decide (S5.2.2.2.1 < goMin R2.1 (6 : Int))) = true then (some (!S5.2.2.1))
  else (some false)).bind (fun (T9 : Bool) =>
  if T9 = true then ((impl_reader_flag ({ text := S5.1, at_ := S5.2.1, bad := S5.2.2.1 : Reader })).bind fun R13 =>
  (impl_reader_short R13.2).bind fun R17 =>
  bindC (if (!R13.1) = true then ((impl_reader_short R17.2).bind fun R23 =>
  some (.go (R23.2.text, R23.2.at_, R23.2.bad, R23.1)))
  else (some (.go (R17.2.text, R17.2.at_, R17.2.bad, []))))
  (fun (T20 : List UInt8 × Int × Bool × List UInt8) => (app 40 S5.2.2.2.2 ([{ Key := R17.1, Del := R13.1, Val := T20.2.2.2 : Op }])).bind fun E28 =>
  some (.go (T20.1, T20.2.1, T20.2.2.1, IntKind.i64.wrap (S5.2.2.2.1 + (1 : Int)), E28))))
  else (some (.done (.go (S5.1, S5.2.1, S5.2.2.1, S5.2.2.2.2))))))
  (R2.2.text, R2.2.at_, R2.2.bad, (0 : Int), ([] : List Op)))
  (fun (T7 : List UInt8 × Int × Bool × List Op) => ((impl_reader_done ({ text := T7.1, at_ := T7.2.1, bad := T7.2.2.1 : Reader })).bind fun R32 =>
  if (!R32) = true then (some true)
  else (if (!(decide (((T7.2.2.2.length : Nat) : Int) = R2.1))) = true then (some true)
  else ((impl_BatchOk T7.2.2.2).bind fun R37 =>
  some (!R37)))).bind (fun (T30 : Bool) =>
  if T30 = true then (some ([], false))
  else (some (T7.2.2.2, true))))

theorem impl_ReadBatch_c {s : List UInt8} : Cn Try.prog 29 [strV s] [] [] (impl_ReadBatch s) (fun r (X : Value) => .tuple #[X, .bool r.2]) fun r X => [.own X (lc r.1)] := by
  unfold impl_ReadBatch
  refine Ci Try.func29 r r ?_
  rintro w S -
  refine Sr<|Qs 2 r<|Nx<|Sr<|Qs 1 r<|Yo (Bd kp84 kz84 (Pc r (Cp r)<|Pz) r)<|Fo (Al kz84 r) fun B1=>Fu (Sb 0 kk84 r (Cp r) r)<|Nx<|Sr<|Bi fun R2 H3=>Fo (Cl [0] impl_reader_number_c H3 r r1) fun _=>Qs 1 r<|Nx<|Sr<|Qs 1 r<|Nx<|Sq<|Sr<|Qs 1 r<|Nx<|Jn Value [4,5] [] (fun _ X=>[(6, X)]) (fun T X=>[.box B1 84 [strV T.1, iv T.2.1, .bool T.2.2.1], .own X (lc T.2.2.2)]) r2 r2 (?_) fun T7 X8=>?_
  ·refine Wb<|Nw 3<|Lp Value [4,5] [] (fun T X=>[(6, X), (7, iv T.2.2.2.1)]) (fun T X=>[.box B1 84 [strV T.1, iv T.2.1, .bool T.2.2.1], .own X (lc T.2.2.2.2)]) (.slice none 0 0) [1,0] r2 r2 fun S5 X6=>Sq<|Sq<|Jv [4,5,6,7] (fun T=>[(20, .bool T)]) r1 (Rg<|Qs 2 r<|Yo (Y.min2 r r)<|Qs 2 r<|It (fun H11=>Yg (gdA (beq_tt H11)) (Fb kf84_2 r)<|Yg (gdA (beq_tt H11)) (Lb 0 kk4 r)<|Qg 1 (beq_tt H11) r r<|Yo (Pt H11 r)<|Nl<|Bg () [0,0]) fun H11=>Of 3 (beq_ft H11) r r<|Yo (Pf H11 r)<|Nl<|Bg () [0,0]) fun T9=>Ne<|Wc r (fun H12=>?_) fun H12=>?_
   ·refine Sn<|Sq<|Wb<|Sr<|Bi fun R13 H14=>Fo (Cl [0] impl_reader_flag_c H14 r r1) fun _=>Yo (Bd kp52 kz52 (Pc r (Cp r)<|Pz) r)<|Fo (Al kz52 r) fun B16=>Fu (Sb 0 kk52 r (Cp r) r)<|Nx<|Sr<|Bi fun R17 H18=>Fo (Cl [1] impl_reader_short_c H18 r r1) fun _=>Yo (Fb kf52_0 r)<|Fu (Sb 1 kk9 r (Cp r) r)<|Nx<|Sq<|Sr<|Yo (Fb kf52_1 r)<|Yo (Lb 1 kk4 r)<|Qs 1 r<|Nx<|Jn Unit [4,5,6,7,8] [2] (fun _ _=>[]) (fun T _=>[.box B1 84 [strV T.1, iv T.2.1, .bool T.2.2.1], .box B16 52 [strV R17.1, .bool R13.1, strV T.2.2.2]]) r2 r2 (Wc r (fun H22=>Rg<|Bi fun R23 H24=>Fo (Cl [0] impl_reader_short_c H24 r r1) fun _=>Yo (Fb kf52_2 r)<|Fu (Sb 1 kk9 r (Cp r) r)<|Nl<|Jg () [2,0,0]) fun H22=>Sk<|Jg () [2,0,0]) fun T20 X21=>?_
    exact Ne<|Rg<|Qs 1 r<|Yo (Lb 2 kk52 r)<|Fo (Bs [{ Key := R17.1, Del := R13.1, Val := T20.2.2.2 : Op }] ke31 kz52) fun B26=>Bi fun E28 H29=>Fo (Ap [1] H29 ke31 kz52 r (Oc 0 r)) fun V27=>Qs 1 r<|Nl<|Bn<|Ne<|Rg<|Qs 3 r<|Nl<|Lg V27 [2,0]
   exact Wx<|Tx<|Ex<|Be<|Jg X6 [0,0]
  refine Ne<|Sq<|Sq<|Jb Unit [6] [1] (fun T _=>[(48, .bool T)]) (fun _ _=>[]) r2 r2 (?_) fun T30 X31=>?_
  ·exact Rg<|Bi fun R32 H33=>Fo (Cl [0] impl_reader_done_c H33 r r1) fun _=>Qs 2 r<|It (fun H35=>Of 4 (beq_tf H35) r r<|Yo (Pt H35 r)<|Qs 1 r<|Of 3 r r r<|Yo (Pt r r)<|Nl<|Bg () [1]) fun H35=>Qg 1 (beq_ff H35) r r<|Yg (gdA (beq_ff H35)) (Ln ke31 (Oc 1 r) r)<|Qg 2 (beq_ff H35) r r<|Yo (Pf H35 r)<|Qs 1 r<|It (fun H36=>Of 3 (beq_tf H36) r r<|Yo (Pt H36 r)<|Nl<|Bg () [1]) fun H36=>Qg 1 (beq_ff H36) r r<|Bi fun R37 H38=>Fg (gdA (beq_ff H36)) (Cl [] impl_BatchOk_c H38 r r1 ⟨(Oc 1 r),⟨⟩⟩) fun _=>Qg 1 (beq_ff H36) r r<|Yo (Pf H36 r)<|Nl<|Bg () [1]
  exact Ne<|Wc r (fun H40=>Sr<|Qs 2 r<|Nx<|Wr<|Tr<|Ni 3<|Re (.slice none 0 0) [0]) fun H40=>Sn<|Sr<|Qs 3 r<|Nx<|Wr<|Re X8 [0]

/-- loop.example/g00950/impl.OpenBatch -/
noncomputable def impl_OpenBatch (key : List UInt8) (boot : Int) (seq : Int) (s : List UInt8) : Option (List Op × Bool) :=
  (if (!(decide (((key.length : Nat) : Int) = (32 : Int)))) = true then (some true)
  else ((impl_isPlace boot seq).bind fun R4 =>
  if (!R4) = true then (some true)
  else (some (decide (((s.length : Nat) : Int) > (300 : Int)))))).bind (fun (T1 : Bool) =>
  if T1 = true then (some ([], false))
  else ((impl_rowNonce boot seq).bind fun R10 =>
  (impl_ChaStream key (0 : Int) R10 s).bind fun R13 =>
  (impl_ReadBatch R13).bind fun R16 =>
  some (R16.1, R16.2)))

theorem impl_OpenBatch_c {key : List UInt8} {boot : Int} {seq : Int} {s : List UInt8} : Cn Try.prog 13 [strV key, iv boot, iv seq, strV s] [] [] (impl_OpenBatch key boot seq s) (fun r (X : Value) => .tuple #[X, .bool r.2]) fun r X => [.own X (lc r.1)] := by
  unfold impl_OpenBatch
  refine Ci Try.func13 r r ?_
  rintro w S -
  refine Sr<|Qs 2 r<|Nx<|Sq<|Sq<|Jv [0,1,2,3] (fun T=>[(23, .bool T)]) r1 (?_) fun T1=>?_
  ·exact Rg<|Qs 1 r<|Yo (Y.slen ks9 r)<|Qs 2 r<|It (fun H3=>Of 4 (beq_tf H3) r r<|Yo (Pt H3 r)<|Qs 1 r<|Of 3 r r r<|Yo (Pt r r)<|Nl<|Bg () []) fun H3=>Qg 2 (beq_ff H3) r r<|Bi fun R4 H5=>Fg (gdA (beq_ff H3)) (Cl [] impl_isPlace_c H5 r r1) fun _=>Qg 1 (beq_ff H3) r r<|Yo (Pf H3 r)<|Qs 1 r<|It (fun H7=>Of 3 (beq_tf H7) r r<|Yo (Pt H7 r)<|Nl<|Bg () []) fun H7=>Qg 1 (beq_ff H7) r r<|Yg (gdA (beq_ff H7)) (Y.slen ks9 r)<|Qg 1 (beq_ff H7) r r<|Yo (Pf H7 r)<|Nl<|Bg () []
  exact Ne<|Wc r (fun H8=>Sr<|Qs 2 r<|Nx<|Wr<|Tr<|Ni 3<|Re (.slice none 0 0) [0]) fun H8=>Sn<|Sr<|Qs 3 r<|Bi fun R10 H11=>Fo (Cl [] impl_rowNonce_c H11 r r1) fun _=>Qs 1 r<|Bi fun R13 H14=>Fo (Cl [] impl_ChaStream_c H14 r r1) fun _=>Bi fun R16 H17=>Fo (Cl [] impl_ReadBatch_c H17 r r1) fun Y18=>Qs 4 r<|Nx<|Wr<|Re Y18 [0]

/-- loop.example/g00950/impl.StreamOf -/
noncomputable def impl_StreamOf (key : List UInt8) (r_ : LogRow) : Option (List UInt8) :=
  (if (!(decide (((key.length : Nat) : Int) = (32 : Int)))) = true then (some true)
  else ((impl_isPlace r_.Boot r_.Seq).bind fun R5 =>
  some (!R5))).bind (fun (T2 : Bool) =>
  if T2 = true then (some ([]))
  else ((impl_rowNonce r_.Boot r_.Seq).bind fun R9 =>
  (strings_Repeat ([0]) ((r_.Text.length : Nat) : Int)).bind fun R12 =>
  (impl_ChaStream key (0 : Int) R9 R12).bind fun R15 =>
  some R15))

theorem impl_StreamOf_c {key : List UInt8} {r_ : LogRow} : Cn Try.prog 8 [strV key, .agg #[iv r_.Tenant, iv r_.Boot, iv r_.Seq, strV r_.Text, .bool r_.Synced]] [] [] (impl_StreamOf key r_) (fun r (_ : Unit) => strV r) fun _ _ => [] := by
  unfold impl_StreamOf
  refine Ci Try.func8 r r ?_
  rintro w S -
  refine Sr<|Fo (Bx r (Cp r)) fun B1=>Qs 1 r<|Nx<|Sq<|Sq<|Jv [0,3] (fun T=>[(15, .bool T)]) r1 (?_) fun T2=>?_
  ·exact Rg<|Qs 1 r<|Yo (Y.slen ks9 r)<|Qs 2 r<|It (fun H4=>Of 6 (beq_tf H4) r r<|Yo (Pt H4 r)<|Nl<|Bg () [0]) fun H4=>Yg (gdA (beq_ff H4)) (Fb kf26_1 r)<|Yg (gdA (beq_ff H4)) (Lb 0 kk3 r)<|Yg (gdA (beq_ff H4)) (Fb kf26_2 r)<|Yg (gdA (beq_ff H4)) (Lb 0 kk3 r)<|Bi fun R5 H6=>Fg (gdA (beq_ff H4)) (Cl [] impl_isPlace_c H6 r r1) fun _=>Qg 1 (beq_ff H4) r r<|Yo (Pf H4 r)<|Nl<|Bg () [0]
  exact Ne<|Wc r (fun H8=>Sr<|Qs 1 r<|Nx<|Wr<|Tr<|Re () []) fun H8=>Sn<|Sq<|Dr [0] r hMix<|Aq [0] [0] r<|Ay 1 [0] r (Fb kf26_1 r)<|Ay 2 [0] r (Lb 0 kk3 r)<|Ay 3 [0] r (Fb kf26_2 r)<|Ay 4 [0] r (Lb 0 kk3 r)<|Ay 6 [0] r (Fb kf26_3 r)<|Ay 7 [0] r (Lb 0 kk9 r)<|Ay 8 [0] r (Y.slen ks9 r)<|Ai fun R9 H10=>A1 5<|Xe [0] r (Cl [] impl_rowNonce_c H10 r r1) fun _=>Ai fun R12 H13=>A1 9<|Xe [0] r (Cl [] strings_Repeat_c H13 r r1) fun _=>Ai fun R15 H16=>A1 10<|Xe [0] r (Cl [] impl_ChaStream_c H16 r r1) fun _=>Aq [11] [0] r<|Az<|Ne<|Wr<|Re () []

/-- loop.example/g00950/laws.FnSealed -/
noncomputable def laws_FnSealed (code : List UInt8) : Option Bool :=
  (laws_big code).bind fun R1 =>
  if R1 = true then (some true)
  else ((spec_DrawSealBatch code).bind fun R5 =>
  (impl_SealBatch R5.1 R5.2.1 R5.2.2.1 R5.2.2.2).bind fun R8 =>
  (spec_SealBatch R5.1 R5.2.1 R5.2.2.1 R5.2.2.2).bind fun R11 =>
  if (!(decide (R8 = R11))) = true then (some false)
  else (if (decide (R8 = ([]))) = true then (some true)
  else ((impl_OpenBatch R5.1 R5.2.1 R5.2.2.1 R8).bind fun R16 =>
  (impl_StreamOf R5.1 ({ Tenant := (0 : Int), Boot := R5.2.1, Seq := R5.2.2.1, Text := R8, Synced := false : LogRow })).bind fun R19 =>
  bindC (loopO (fun (S23 : Int × List UInt8) => (if (decide (S23.1 < ((R8.length : Nat) : Int))) = true then (some (decide (S23.1 < ((R19.length : Nat) : Int))))
  else (some false)).bind (fun (T27 : Bool) =>
  if T27 = true then ((sidx R8 S23.1).bind fun E31 =>
  (sidx R19 S23.1).bind fun E33 =>
  (app 1 S23.2 ([(E31 ^^^ E33)])).bind fun E37 =>
  some (.go (IntKind.i64.wrap (S23.1 + (1 : Int)), E37)))
  else (some (.done (.go S23.2)))))
  ((0 : Int), ([] : List UInt8)))
  (fun (T25 : List UInt8) => (if R16.2 = true then ((spec_ShowBatch R5.2.2.2).bind fun R42 =>
  if (decide (T25 = R42)) = true then ((spec_ShowBatch R16.1).bind fun R46 =>
  if (decide (R46 = R42)) = true then (some (decide (((R8.length : Nat) : Int) = ((R42.length : Nat) : Int))))
  else (some false))
  else (some false))
  else (some false)).bind (fun (T39 : Bool) =>
  some T39)))))

theorem laws_FnSealed_c {code : List UInt8} {U0 : Value} : Cn Try.prog 4 [U0] [] [(U0, lc code)] (laws_FnSealed code) (fun r (_ : Unit) => .bool r) fun _ _ => [] := by
  unfold laws_FnSealed
  refine Ci Try.func4 r r ?_
  rintro w S ⟨Z0,-⟩
  refine Sr<|Qs 1 r<|Nx<|Sq<|Sr<|Qs 1 r<|Bi fun R1 H2=>Fo (Cl [] laws_big_c H2 r r1 ⟨(Bc Z0),⟨⟩⟩) fun _=>Nx<|Wc r (fun H4=>Sr<|Qs 1 r<|Nx<|Wr<|Tr<|Re () []) fun H4=>Sn<|Sr<|Qs 1 r<|Bi fun R5 H6=>Fo (Cl [] spec_DrawSealBatch_c H6 r r1 ⟨(Bc Z0),⟨⟩⟩) fun Y7=>Qs 9 r<|Nx<|Sr<|Qs 4 r<|Bi fun R8 H9=>Fo (Cl [] impl_SealBatch_c H9 r r1 ⟨(Oc 0 r),⟨⟩⟩) fun _=>Qs 1 r<|Nx<|Sq<|Sr<|Qs 5 r<|Bi fun R11 H12=>Fo (Cl [] spec_SealBatch_c H12 r r1 ⟨(Oc 0 r),⟨⟩⟩) fun _=>Qs 1 r<|Nx<|Wc r (fun H14=>Sr<|Qs 1 r<|Nx<|Wr<|Tr<|Re () []) fun H14=>?_
  refine Sn<|Sq<|Sr<|Qs 2 r<|Nx<|Wc r (fun H15=>Sr<|Qs 1 r<|Nx<|Wr<|Tr<|Re () []) fun H15=>Sn<|Sr<|Qs 4 r<|Bi fun R16 H17=>Fo (Cl [] impl_OpenBatch_c H17 r r1) fun Y18=>Qs 5 r<|Nx<|Sr<|Qs 4 r<|Yo (Bd kp26 kz26 (Pc r (Cp r)<|Pc r (Cp r)<|Pc r (Cp r)<|Pz) r)<|Bi fun R19 H20=>Fo (Cl [] impl_StreamOf_c H20 r r1) fun _=>Qs 1 r<|Nx<|Sr<|Fo (Bs ([] : List UInt8) ke29 kz5) fun B22=>Qs 1 r<|Nx<|Sq<|Sr<|Qs 1 r<|Nx<|Jn Value [6,7,8,9] [2,1] (fun _ X=>[(11, X)]) (fun T X=>[.own X (lc T)]) r2 r2 (?_) fun T25 X26=>?_
  ·refine Wb<|Lp Value [6,7,8,9,10] [2,1] (fun T X=>[(11, X), (12, iv T.1)]) (fun T X=>[.own X (lc T.2)]) (.slice (some ⟨B22, 0, none⟩) 0 0) [2,1,0] r2 r2 fun S23 X24=>Sq<|Sq<|Jv [6,7,8,9,10,11,12] (fun T=>[(60, .bool T)]) r1 (Rg<|Qs 2 r<|Yo (Y.slen ks9 r)<|Qs 2 r<|It (fun H29=>Qg 2 (beq_tt H29) r r<|Yg (gdA (beq_tt H29)) (Y.slen ks9 r)<|Qg 1 (beq_tt H29) r r<|Yo (Pt H29 r)<|Nl<|Bg () [0,0,0]) fun H29=>Of 4 (beq_ft H29) r r<|Yo (Pf H29 r)<|Nl<|Bg () [0,0,0]) fun T27=>Ne<|Wc r (fun H30=>?_) fun H30=>?_
   ·exact Sn<|Sq<|Wb<|Dr [0,0] r hMix<|Aq [0,1,2] [0,0] r<|Ai fun E31 H32=>Ay 3 [0,0] r (Y.sidx H32 ks9 r r)<|Aq [4,5] [0,0] r<|Ai fun E33 H34=>Ay 6 [0,0] r (Y.sidx H34 ks9 r r)<|Ay 7 [0,0] r (Y.xor8 r r)<|A1 8<|Xe [1,1] r (Bs [(E31 ^^^ E33)] ke29 kz5) fun B35=>Ai fun E37 H38=>A1 9<|Xe [2,2] r (Ap [3] H38 ke29 kz5 r (Oc 0 r)) fun V36=>Aq [10] [2,2] r<|Az<|Bn<|Ne<|Rg<|Qs 3 r<|Nl<|Lg V36 [2,2,0]
   exact Wx<|Tx<|Ex<|Be<|Jg X24 [0,0,0]
  refine Ne<|Sq<|Jb Unit [] [] (fun T _=>[(2, .bool T)]) (fun _ _=>[]) r2 r2 (?_) fun T39 X40=>?_
  ·refine Dr [0,0,0] r hMix<|Aq [0,1] [0,0,0] r<|Ia (fun H41=>?_) fun H41=>?_
   ·refine Ag 2 [0,0,0] (gdA (beq_tt H41)) r (Y.move r)<|Ag 3 [0,0,0] (gdA (beq_tt H41)) r (Y.toStr ke29 ki5 ks9 (Oc 2 r) r)<|Ag 4 [0,0,0] (gdA (beq_tt H41)) r (Y.move r)<|Ai fun R42 H43=>A1 5<|Xeg [0,0,0] (gdA (beq_tt H41)) r (Cl [] spec_ShowBatch_c H43 r r1 ⟨(Oc 0 r),⟨⟩⟩) fun _=>Ag 6 [0,0,0] (gdA (beq_tt H41)) r (Y.seql r r)<|Ay 7 [0,0,0] r (Pt H41 r)<|Aq [8] [0,0,0] r<|Ia (fun H45=>?_) fun H45=>?_
    ·refine Ag 9 [0,0,0] (gdA (beq_tt H45)) r (Y.move r)<|Ag 11 [0,0,0] (gdA (beq_tt H45)) r (Y.move r)<|Ai fun R46 H47=>A1 10<|Xeg [0,0,0] (gdA (beq_tt H45)) r (Cl [] spec_ShowBatch_c H47 r r1 ⟨(Oc 1 r),⟨⟩⟩) fun _=>A1 12<|Xeg [0,0,0] (gdA (beq_tt H45)) r (Cl [] spec_ShowBatch_c H43 r r1 ⟨(Oc 0 r),⟨⟩⟩) fun _=>Ag 13 [0,0,0] (gdA (beq_tt H45)) r (Y.seql r r)<|Ay 14 [0,0,0] r (Pt H45 r)<|Aq [15] [0,0,0] r<|Ia (fun H50=>?_) fun H50=>?_
     ·exact Ag 16 [0,0,0] (gdA (beq_tt H50)) r (Y.move r)<|Ag 17 [0,0,0] (gdA (beq_tt H50)) r (Y.slen ks9 r)<|Ag 18 [0,0,0] (gdA (beq_tt H50)) r (Y.move r)<|A1 19<|Xeg [0,0,0] (gdA (beq_tt H50)) r (Cl [] spec_ShowBatch_c H43 r r1 ⟨(Oc 0 r),⟨⟩⟩) fun _=>Ag 20 [0,0,0] (gdA (beq_tt H50)) r (Y.slen ks9 r)<|Ag 21 [0,0,0] (gdA (beq_tt H50)) r (Y.eql r r)<|Ay 22 [0,0,0] r (Pt H50 r)<|Aq [23] [0,0,0] r<|Az<|Bg () []
     exact Ax [16,17,18,19,20,21] [0,0,0] (beq_ft H50) r r<|Ay 22 [0,0,0] r (Pf H50 r)<|Aq [23] [0,0,0] r<|Az<|Bg () []
    exact Ax [9,10,11,12,13] [0,0,0] (beq_ft H45) r r<|Ay 14 [0,0,0] r (Pf H45 r)<|Aq [15] [0,0,0] r<|Ax [16,17,18,19,20,21] [0,0,0] r r r<|Ay 22 [0,0,0] r (Pf r r)<|Aq [23] [0,0,0] r<|Az<|Bg () []
   exact Ax [2,3,4,5,6] [0,0,0] (beq_ft H41) r r<|Ay 7 [0,0,0] r (Pf H41 r)<|Aq [8] [0,0,0] r<|Ax [9,10,11,12,13] [0,0,0] r r r<|Ay 14 [0,0,0] r (Pf r r)<|Aq [15] [0,0,0] r<|Ax [16,17,18,19,20,21] [0,0,0] r r r<|Ay 22 [0,0,0] r (Pf r r)<|Aq [23] [0,0,0] r<|Az<|Bg () []
  exact Ne<|Wr<|Re () []

end Go.Proofs.Ytablbamlbfgfpaa
