/-
  The functions that a law reaches, each as a pure function, with the proof that the program computes it, and the step from a pure law to the given statement. Conditions: none.
-/
import Derived.Test.YtfgjhefhlabpkaaGreatQ2
set_option linter.unusedVariables false
set_option maxRecDepth 100000
set_option maxHeartbeats 4000000
namespace Go.Proofs.YtfgjhefhlabpkaaGreat
open Go Sl
noncomputable def zbI (w_:List Wrd) (a:Int) (b:Int) (c:Int) (d:Int):Option (List Wrd):=
 (idx w_ a).bind fun E1=>
 (idx w_ b).bind fun E3=>
 (idx (w_.set a.toNat (Wrd.mk (IntKind.u32.wrap (E1.v+E3.v)))) d).bind fun E7=>
 (idx (w_.set a.toNat (Wrd.mk (IntKind.u32.wrap (E1.v+E3.v)))) a).bind fun E9=>
 (zT (ixor .u32 E7.v E9.v) (16:Int)).bind fun R11=>
 (idx ((w_.set a.toNat (Wrd.mk (IntKind.u32.wrap (E1.v+E3.v)))).set d.toNat (Wrd.mk R11)) c).bind fun E16=>
 (idx ((w_.set a.toNat (Wrd.mk (IntKind.u32.wrap (E1.v+E3.v)))).set d.toNat (Wrd.mk R11)) d).bind fun E18=>
 (idx (((w_.set a.toNat (Wrd.mk (IntKind.u32.wrap (E1.v+E3.v)))).set d.toNat (Wrd.mk R11)).set c.toNat (Wrd.mk (IntKind.u32.wrap (E16.v+E18.v)))) b).bind fun E22=>
 (idx (((w_.set a.toNat (Wrd.mk (IntKind.u32.wrap (E1.v+E3.v)))).set d.toNat (Wrd.mk R11)).set c.toNat (Wrd.mk (IntKind.u32.wrap (E16.v+E18.v)))) c).bind fun E24=>
 (zT (ixor .u32 E22.v E24.v) (12:Int)).bind fun R26=>
 (idx ((((w_.set a.toNat (Wrd.mk (IntKind.u32.wrap (E1.v+E3.v)))).set d.toNat (Wrd.mk R11)).set c.toNat (Wrd.mk (IntKind.u32.wrap (E16.v+E18.v)))).set b.toNat (Wrd.mk R26)) a).bind fun E31=>
 (idx ((((w_.set a.toNat (Wrd.mk (IntKind.u32.wrap (E1.v+E3.v)))).set d.toNat (Wrd.mk R11)).set c.toNat (Wrd.mk (IntKind.u32.wrap (E16.v+E18.v)))).set b.toNat (Wrd.mk R26)) b).bind fun E33=>
 (idx (((((w_.set a.toNat (Wrd.mk (IntKind.u32.wrap (E1.v+E3.v)))).set d.toNat (Wrd.mk R11)).set c.toNat (Wrd.mk (IntKind.u32.wrap (E16.v+E18.v)))).set b.toNat (Wrd.mk R26)).set a.toNat (Wrd.mk (IntKind.u32.wrap (E31.v+E33.v)))) d).bind fun E37=>
 (idx (((((w_.set a.toNat (Wrd.mk (IntKind.u32.wrap (E1.v+E3.v)))).set d.toNat (Wrd.mk R11)).set c.toNat (Wrd.mk (IntKind.u32.wrap (E16.v+E18.v)))).set b.toNat (Wrd.mk R26)).set a.toNat (Wrd.mk (IntKind.u32.wrap (E31.v+E33.v)))) a).bind fun E39=>
 (zT (ixor .u32 E37.v E39.v) (8:Int)).bind fun R41=>
 (idx ((((((w_.set a.toNat (Wrd.mk (IntKind.u32.wrap (E1.v+E3.v)))).set d.toNat (Wrd.mk R11)).set c.toNat (Wrd.mk (IntKind.u32.wrap (E16.v+E18.v)))).set b.toNat (Wrd.mk R26)).set a.toNat (Wrd.mk (IntKind.u32.wrap (E31.v+E33.v)))).set d.toNat (Wrd.mk R41)) c).bind fun E46=>
 (idx ((((((w_.set a.toNat (Wrd.mk (IntKind.u32.wrap (E1.v+E3.v)))).set d.toNat (Wrd.mk R11)).set c.toNat (Wrd.mk (IntKind.u32.wrap (E16.v+E18.v)))).set b.toNat (Wrd.mk R26)).set a.toNat (Wrd.mk (IntKind.u32.wrap (E31.v+E33.v)))).set d.toNat (Wrd.mk R41)) d).bind fun E48=>
 (idx (((((((w_.set a.toNat (Wrd.mk (IntKind.u32.wrap (E1.v+E3.v)))).set d.toNat (Wrd.mk R11)).set c.toNat (Wrd.mk (IntKind.u32.wrap (E16.v+E18.v)))).set b.toNat (Wrd.mk R26)).set a.toNat (Wrd.mk (IntKind.u32.wrap (E31.v+E33.v)))).set d.toNat (Wrd.mk R41)).set c.toNat (Wrd.mk (IntKind.u32.wrap (E46.v+E48.v)))) b).bind fun E52=>
 (idx (((((((w_.set a.toNat (Wrd.mk (IntKind.u32.wrap (E1.v+E3.v)))).set d.toNat (Wrd.mk R11)).set c.toNat (Wrd.mk (IntKind.u32.wrap (E16.v+E18.v)))).set b.toNat (Wrd.mk R26)).set a.toNat (Wrd.mk (IntKind.u32.wrap (E31.v+E33.v)))).set d.toNat (Wrd.mk R41)).set c.toNat (Wrd.mk (IntKind.u32.wrap (E46.v+E48.v)))) c).bind fun E54=>
 (zT (ixor .u32 E52.v E54.v) (7:Int)).bind fun R56=>
 some ((((((((w_.set a.toNat (Wrd.mk (IntKind.u32.wrap (E1.v+E3.v)))).set d.toNat (Wrd.mk R11)).set c.toNat (Wrd.mk (IntKind.u32.wrap (E16.v+E18.v)))).set b.toNat (Wrd.mk R26)).set a.toNat (Wrd.mk (IntKind.u32.wrap (E31.v+E33.v)))).set d.toNat (Wrd.mk R41)).set c.toNat (Wrd.mk (IntKind.u32.wrap (E46.v+E48.v)))).set b.toNat (Wrd.mk R56))
theorem ziA {w_:List Wrd} {a:Int} {b:Int} {c:Int} {d:Int} {U0:Nat} :Cn Tryz.prog 127 [pt U0,iv a,iv b,iv c,iv d] [.own (arrS U0 16) (lc w_)] [] (zbI w_ a b c d) (fun _ (_:Unit)=>.tuple #[]) fun r _=>[.own (arrS U0 16) (lc r)]:=by
 unfold zbI
 refine Ci Tryz.func127 r r ?_
 rintro w S -
 refine Sq<|Wi fun E1 H2=>Wi fun E3 H4=>Jw Unit [0,1,2,3,4] [] (fun _=>[]) (fun _=>[.own (arrS U0 16) (lc (w_.set a.toNat (Wrd.mk (IntKind.u32.wrap (E1.v+E3.v)))))]) r1 r1 (?_) fun X6=>?_
 ·refine Dr [] r hMix<|Aq [0,1,2,5,6,7,11] [] r<|A2 3 8 (?_)<|?_
  ·refine Xy [] r (Y.index_arr (α:=Wrd) ka171 (Oc 0 r) H2 r r)<|A2 4 8 (?_)<|?_
   ·exact Xy [] r (Le kk170 (Oc 0 r) H2 r)<|A1 8<|Xy [] r (Y.index_arr (α:=Wrd) ka171 (Oc 0 r) H4 r r)<|A1 9<|Xy [] r (Le kk170 (Oc 0 r) H4 r)<|Aq [10] [] r<|A1 12<|Xy [] r (Y.index_arr (α:=Wrd) ka171 (Oc 0 r) H2 r r)<|A1 13<|Xu [] r (Se (Wrd.mk (IntKind.u32.wrap (E1.v+E3.v))) 0 kk170 H2 r (Cp r) r)<|Az<|Bg () [0]
   exact Xy [] r (Y.index_arr (α:=Wrd) ka171 (Oc 0 r) H4 r r)<|A2 4 9 (Xy [] r (Le kk170 (Oc 0 r) H2 r)<|A1 9<|Xy [] r (Le kk170 (Oc 0 r) H4 r)<|Aq [10] [] r<|A1 12<|Xy [] r (Y.index_arr (α:=Wrd) ka171 (Oc 0 r) H2 r r)<|A1 13<|Xu [] r (Se (Wrd.mk (IntKind.u32.wrap (E1.v+E3.v))) 0 kk170 H2 r (Cp r) r)<|Az<|Bg () [0])<|Xy [] r (Le kk170 (Oc 0 r) H4 r)<|A1 4<|Xy [] r (Le kk170 (Oc 0 r) H2 r)<|Aq [10] [] r<|A1 12<|Xy [] r (Y.index_arr (α:=Wrd) ka171 (Oc 0 r) H2 r r)<|A1 13<|Xu [] r (Se (Wrd.mk (IntKind.u32.wrap (E1.v+E3.v))) 0 kk170 H2 r (Cp r) r)<|Az<|Bg () [0]
  refine Xy [] r (Y.index_arr (α:=Wrd) ka171 (Oc 0 r) H4 r r)<|A2 3 9 (?_)<|?_
  ·exact Xy [] r (Y.index_arr (α:=Wrd) ka171 (Oc 0 r) H2 r r)<|A2 4 9 (Xy [] r (Le kk170 (Oc 0 r) H2 r)<|A1 9<|Xy [] r (Le kk170 (Oc 0 r) H4 r)<|Aq [10] [] r<|A1 12<|Xy [] r (Y.index_arr (α:=Wrd) ka171 (Oc 0 r) H2 r r)<|A1 13<|Xu [] r (Se (Wrd.mk (IntKind.u32.wrap (E1.v+E3.v))) 0 kk170 H2 r (Cp r) r)<|Az<|Bg () [0])<|Xy [] r (Le kk170 (Oc 0 r) H4 r)<|A1 4<|Xy [] r (Le kk170 (Oc 0 r) H2 r)<|Aq [10] [] r<|A1 12<|Xy [] r (Y.index_arr (α:=Wrd) ka171 (Oc 0 r) H2 r r)<|A1 13<|Xu [] r (Se (Wrd.mk (IntKind.u32.wrap (E1.v+E3.v))) 0 kk170 H2 r (Cp r) r)<|Az<|Bg () [0]
  exact Xy [] r (Le kk170 (Oc 0 r) H4 r)<|A1 3<|Xy [] r (Y.index_arr (α:=Wrd) ka171 (Oc 0 r) H2 r r)<|A1 4<|Xy [] r (Le kk170 (Oc 0 r) H2 r)<|Aq [10] [] r<|A1 12<|Xy [] r (Y.index_arr (α:=Wrd) ka171 (Oc 0 r) H2 r r)<|A1 13<|Xu [] r (Se (Wrd.mk (IntKind.u32.wrap (E1.v+E3.v))) 0 kk170 H2 r (Cp r) r)<|Az<|Bg () [0]
 refine Ne<|Sq<|Wi fun E7 H8=>Wi fun E9 H10=>Wi fun R11 H12=>Jw Unit [0,1,2,3,4] [] (fun _=>[]) (fun _=>[.own (arrS U0 16) (lc ((w_.set a.toNat (Wrd.mk (IntKind.u32.wrap (E1.v+E3.v)))).set d.toNat (Wrd.mk R11)))]) r1 r1 (?_) fun X15=>?_
 ·refine Dr [] r hMix<|Aq [0,1,2,3,4,7,8,9,14] [] r<|A2 5 10 (?_)<|?_
  ·refine Xy [] r (Y.index_arr (α:=Wrd) ka171 (Oc 0 r) H8 r r)<|A2 6 10 (?_)<|?_
   ·exact Xy [] r (Le kk170 (Oc 0 r) H8 r)<|A1 10<|Xy [] r (Y.index_arr (α:=Wrd) ka171 (Oc 0 r) H10 r r)<|A1 11<|Xy [] r (Le kk170 (Oc 0 r) H10 r)<|Aq [12] [] r<|A1 13<|Xe [] r (Cl [] zh H12 r r1) fun _=>A1 15<|Xy [] r (Y.index_arr (α:=Wrd) ka171 (Oc 0 r) H8 r r)<|A1 16<|Xu [] r (Se (Wrd.mk R11) 0 kk170 H8 r (Cp r) r)<|Az<|Bg () [0]
   refine Xy [] r (Y.index_arr (α:=Wrd) ka171 (Oc 0 r) H10 r r)<|A2 6 11 (?_)<|?_
   ·exact Xy [] r (Le kk170 (Oc 0 r) H8 r)<|A1 11<|Xy [] r (Le kk170 (Oc 0 r) H10 r)<|Aq [12] [] r<|A1 13<|Xe [] r (Cl [] zh H12 r r1) fun _=>A1 15<|Xy [] r (Y.index_arr (α:=Wrd) ka171 (Oc 0 r) H8 r r)<|A1 16<|Xu [] r (Se (Wrd.mk R11) 0 kk170 H8 r (Cp r) r)<|Az<|Bg () [0]
   exact Xy [] r (Le kk170 (Oc 0 r) H10 r)<|A1 6<|Xy [] r (Le kk170 (Oc 0 r) H8 r)<|Aq [12] [] r<|A1 13<|Xe [] r (Cl [] zh H12 r r1) fun _=>A1 15<|Xy [] r (Y.index_arr (α:=Wrd) ka171 (Oc 0 r) H8 r r)<|A1 16<|Xu [] r (Se (Wrd.mk R11) 0 kk170 H8 r (Cp r) r)<|Az<|Bg () [0]
  refine Xy [] r (Y.index_arr (α:=Wrd) ka171 (Oc 0 r) H10 r r)<|A2 5 11 (?_)<|?_
  ·refine Xy [] r (Y.index_arr (α:=Wrd) ka171 (Oc 0 r) H8 r r)<|A2 6 11 (?_)<|?_
   ·exact Xy [] r (Le kk170 (Oc 0 r) H8 r)<|A1 11<|Xy [] r (Le kk170 (Oc 0 r) H10 r)<|Aq [12] [] r<|A1 13<|Xe [] r (Cl [] zh H12 r r1) fun _=>A1 15<|Xy [] r (Y.index_arr (α:=Wrd) ka171 (Oc 0 r) H8 r r)<|A1 16<|Xu [] r (Se (Wrd.mk R11) 0 kk170 H8 r (Cp r) r)<|Az<|Bg () [0]
   exact Xy [] r (Le kk170 (Oc 0 r) H10 r)<|A1 6<|Xy [] r (Le kk170 (Oc 0 r) H8 r)<|Aq [12] [] r<|A1 13<|Xe [] r (Cl [] zh H12 r r1) fun _=>A1 15<|Xy [] r (Y.index_arr (α:=Wrd) ka171 (Oc 0 r) H8 r r)<|A1 16<|Xu [] r (Se (Wrd.mk R11) 0 kk170 H8 r (Cp r) r)<|Az<|Bg () [0]
  exact Xy [] r (Le kk170 (Oc 0 r) H10 r)<|A1 5<|Xy [] r (Y.index_arr (α:=Wrd) ka171 (Oc 0 r) H8 r r)<|A1 6<|Xy [] r (Le kk170 (Oc 0 r) H8 r)<|Aq [12] [] r<|A1 13<|Xe [] r (Cl [] zh H12 r r1) fun _=>A1 15<|Xy [] r (Y.index_arr (α:=Wrd) ka171 (Oc 0 r) H8 r r)<|A1 16<|Xu [] r (Se (Wrd.mk R11) 0 kk170 H8 r (Cp r) r)<|Az<|Bg () [0]
 refine Ne<|Sq<|Wi fun E16 H17=>Wi fun E18 H19=>Jw Unit [0,1,2,3,4] [] (fun _=>[]) (fun _=>[.own (arrS U0 16) (lc (((w_.set a.toNat (Wrd.mk (IntKind.u32.wrap (E1.v+E3.v)))).set d.toNat (Wrd.mk R11)).set c.toNat (Wrd.mk (IntKind.u32.wrap (E16.v+E18.v)))))]) r1 r1 (?_) fun X21=>?_
 ·refine Dr [] r hMix<|Aq [0,1,2,5,6,7,11] [] r<|A2 3 8 (?_)<|?_
  ·refine Xy [] r (Y.index_arr (α:=Wrd) ka171 (Oc 0 r) H17 r r)<|A2 4 8 (?_)<|?_
   ·exact Xy [] r (Le kk170 (Oc 0 r) H17 r)<|A1 8<|Xy [] r (Y.index_arr (α:=Wrd) ka171 (Oc 0 r) H19 r r)<|A1 9<|Xy [] r (Le kk170 (Oc 0 r) H19 r)<|Aq [10] [] r<|A1 12<|Xy [] r (Y.index_arr (α:=Wrd) ka171 (Oc 0 r) H17 r r)<|A1 13<|Xu [] r (Se (Wrd.mk (IntKind.u32.wrap (E16.v+E18.v))) 0 kk170 H17 r (Cp r) r)<|Az<|Bg () [0]
   exact Xy [] r (Y.index_arr (α:=Wrd) ka171 (Oc 0 r) H19 r r)<|A2 4 9 (Xy [] r (Le kk170 (Oc 0 r) H17 r)<|A1 9<|Xy [] r (Le kk170 (Oc 0 r) H19 r)<|Aq [10] [] r<|A1 12<|Xy [] r (Y.index_arr (α:=Wrd) ka171 (Oc 0 r) H17 r r)<|A1 13<|Xu [] r (Se (Wrd.mk (IntKind.u32.wrap (E16.v+E18.v))) 0 kk170 H17 r (Cp r) r)<|Az<|Bg () [0])<|Xy [] r (Le kk170 (Oc 0 r) H19 r)<|A1 4<|Xy [] r (Le kk170 (Oc 0 r) H17 r)<|Aq [10] [] r<|A1 12<|Xy [] r (Y.index_arr (α:=Wrd) ka171 (Oc 0 r) H17 r r)<|A1 13<|Xu [] r (Se (Wrd.mk (IntKind.u32.wrap (E16.v+E18.v))) 0 kk170 H17 r (Cp r) r)<|Az<|Bg () [0]
  refine Xy [] r (Y.index_arr (α:=Wrd) ka171 (Oc 0 r) H19 r r)<|A2 3 9 (?_)<|?_
  ·exact Xy [] r (Y.index_arr (α:=Wrd) ka171 (Oc 0 r) H17 r r)<|A2 4 9 (Xy [] r (Le kk170 (Oc 0 r) H17 r)<|A1 9<|Xy [] r (Le kk170 (Oc 0 r) H19 r)<|Aq [10] [] r<|A1 12<|Xy [] r (Y.index_arr (α:=Wrd) ka171 (Oc 0 r) H17 r r)<|A1 13<|Xu [] r (Se (Wrd.mk (IntKind.u32.wrap (E16.v+E18.v))) 0 kk170 H17 r (Cp r) r)<|Az<|Bg () [0])<|Xy [] r (Le kk170 (Oc 0 r) H19 r)<|A1 4<|Xy [] r (Le kk170 (Oc 0 r) H17 r)<|Aq [10] [] r<|A1 12<|Xy [] r (Y.index_arr (α:=Wrd) ka171 (Oc 0 r) H17 r r)<|A1 13<|Xu [] r (Se (Wrd.mk (IntKind.u32.wrap (E16.v+E18.v))) 0 kk170 H17 r (Cp r) r)<|Az<|Bg () [0]
  exact Xy [] r (Le kk170 (Oc 0 r) H19 r)<|A1 3<|Xy [] r (Y.index_arr (α:=Wrd) ka171 (Oc 0 r) H17 r r)<|A1 4<|Xy [] r (Le kk170 (Oc 0 r) H17 r)<|Aq [10] [] r<|A1 12<|Xy [] r (Y.index_arr (α:=Wrd) ka171 (Oc 0 r) H17 r r)<|A1 13<|Xu [] r (Se (Wrd.mk (IntKind.u32.wrap (E16.v+E18.v))) 0 kk170 H17 r (Cp r) r)<|Az<|Bg () [0]
 refine Ne<|Sq<|Wi fun E22 H23=>Wi fun E24 H25=>Wi fun R26 H27=>Jw Unit [0,1,2,3,4] [] (fun _=>[]) (fun _=>[.own (arrS U0 16) (lc ((((w_.set a.toNat (Wrd.mk (IntKind.u32.wrap (E1.v+E3.v)))).set d.toNat (Wrd.mk R11)).set c.toNat (Wrd.mk (IntKind.u32.wrap (E16.v+E18.v)))).set b.toNat (Wrd.mk R26)))]) r1 r1 (?_) fun X30=>?_
 ·refine Dr [] r hMix<|Aq [0,1,2,3,4,7,8,9,14] [] r<|A2 5 10 (?_)<|?_
  ·refine Xy [] r (Y.index_arr (α:=Wrd) ka171 (Oc 0 r) H23 r r)<|A2 6 10 (?_)<|?_
   ·exact Xy [] r (Le kk170 (Oc 0 r) H23 r)<|A1 10<|Xy [] r (Y.index_arr (α:=Wrd) ka171 (Oc 0 r) H25 r r)<|A1 11<|Xy [] r (Le kk170 (Oc 0 r) H25 r)<|Aq [12] [] r<|A1 13<|Xe [] r (Cl [] zh H27 r r1) fun _=>A1 15<|Xy [] r (Y.index_arr (α:=Wrd) ka171 (Oc 0 r) H23 r r)<|A1 16<|Xu [] r (Se (Wrd.mk R26) 0 kk170 H23 r (Cp r) r)<|Az<|Bg () [0]
   refine Xy [] r (Y.index_arr (α:=Wrd) ka171 (Oc 0 r) H25 r r)<|A2 6 11 (?_)<|?_
   ·exact Xy [] r (Le kk170 (Oc 0 r) H23 r)<|A1 11<|Xy [] r (Le kk170 (Oc 0 r) H25 r)<|Aq [12] [] r<|A1 13<|Xe [] r (Cl [] zh H27 r r1) fun _=>A1 15<|Xy [] r (Y.index_arr (α:=Wrd) ka171 (Oc 0 r) H23 r r)<|A1 16<|Xu [] r (Se (Wrd.mk R26) 0 kk170 H23 r (Cp r) r)<|Az<|Bg () [0]
   exact Xy [] r (Le kk170 (Oc 0 r) H25 r)<|A1 6<|Xy [] r (Le kk170 (Oc 0 r) H23 r)<|Aq [12] [] r<|A1 13<|Xe [] r (Cl [] zh H27 r r1) fun _=>A1 15<|Xy [] r (Y.index_arr (α:=Wrd) ka171 (Oc 0 r) H23 r r)<|A1 16<|Xu [] r (Se (Wrd.mk R26) 0 kk170 H23 r (Cp r) r)<|Az<|Bg () [0]
  refine Xy [] r (Y.index_arr (α:=Wrd) ka171 (Oc 0 r) H25 r r)<|A2 5 11 (?_)<|?_
  ·refine Xy [] r (Y.index_arr (α:=Wrd) ka171 (Oc 0 r) H23 r r)<|A2 6 11 (?_)<|?_
   ·exact Xy [] r (Le kk170 (Oc 0 r) H23 r)<|A1 11<|Xy [] r (Le kk170 (Oc 0 r) H25 r)<|Aq [12] [] r<|A1 13<|Xe [] r (Cl [] zh H27 r r1) fun _=>A1 15<|Xy [] r (Y.index_arr (α:=Wrd) ka171 (Oc 0 r) H23 r r)<|A1 16<|Xu [] r (Se (Wrd.mk R26) 0 kk170 H23 r (Cp r) r)<|Az<|Bg () [0]
   exact Xy [] r (Le kk170 (Oc 0 r) H25 r)<|A1 6<|Xy [] r (Le kk170 (Oc 0 r) H23 r)<|Aq [12] [] r<|A1 13<|Xe [] r (Cl [] zh H27 r r1) fun _=>A1 15<|Xy [] r (Y.index_arr (α:=Wrd) ka171 (Oc 0 r) H23 r r)<|A1 16<|Xu [] r (Se (Wrd.mk R26) 0 kk170 H23 r (Cp r) r)<|Az<|Bg () [0]
  exact Xy [] r (Le kk170 (Oc 0 r) H25 r)<|A1 5<|Xy [] r (Y.index_arr (α:=Wrd) ka171 (Oc 0 r) H23 r r)<|A1 6<|Xy [] r (Le kk170 (Oc 0 r) H23 r)<|Aq [12] [] r<|A1 13<|Xe [] r (Cl [] zh H27 r r1) fun _=>A1 15<|Xy [] r (Y.index_arr (α:=Wrd) ka171 (Oc 0 r) H23 r r)<|A1 16<|Xu [] r (Se (Wrd.mk R26) 0 kk170 H23 r (Cp r) r)<|Az<|Bg () [0]
 refine Ne<|Sq<|Wi fun E31 H32=>Wi fun E33 H34=>Jw Unit [0,1,2,3,4] [] (fun _=>[]) (fun _=>[.own (arrS U0 16) (lc (((((w_.set a.toNat (Wrd.mk (IntKind.u32.wrap (E1.v+E3.v)))).set d.toNat (Wrd.mk R11)).set c.toNat (Wrd.mk (IntKind.u32.wrap (E16.v+E18.v)))).set b.toNat (Wrd.mk R26)).set a.toNat (Wrd.mk (IntKind.u32.wrap (E31.v+E33.v)))))]) r1 r1 (?_) fun X36=>?_
 ·refine Dr [] r hMix<|Aq [0,1,2,5,6,7,11] [] r<|A2 3 8 (?_)<|?_
  ·refine Xy [] r (Y.index_arr (α:=Wrd) ka171 (Oc 0 r) H32 r r)<|A2 4 8 (?_)<|?_
   ·exact Xy [] r (Le kk170 (Oc 0 r) H32 r)<|A1 8<|Xy [] r (Y.index_arr (α:=Wrd) ka171 (Oc 0 r) H34 r r)<|A1 9<|Xy [] r (Le kk170 (Oc 0 r) H34 r)<|Aq [10] [] r<|A1 12<|Xy [] r (Y.index_arr (α:=Wrd) ka171 (Oc 0 r) H32 r r)<|A1 13<|Xu [] r (Se (Wrd.mk (IntKind.u32.wrap (E31.v+E33.v))) 0 kk170 H32 r (Cp r) r)<|Az<|Bg () [0]
   exact Xy [] r (Y.index_arr (α:=Wrd) ka171 (Oc 0 r) H34 r r)<|A2 4 9 (Xy [] r (Le kk170 (Oc 0 r) H32 r)<|A1 9<|Xy [] r (Le kk170 (Oc 0 r) H34 r)<|Aq [10] [] r<|A1 12<|Xy [] r (Y.index_arr (α:=Wrd) ka171 (Oc 0 r) H32 r r)<|A1 13<|Xu [] r (Se (Wrd.mk (IntKind.u32.wrap (E31.v+E33.v))) 0 kk170 H32 r (Cp r) r)<|Az<|Bg () [0])<|Xy [] r (Le kk170 (Oc 0 r) H34 r)<|A1 4<|Xy [] r (Le kk170 (Oc 0 r) H32 r)<|Aq [10] [] r<|A1 12<|Xy [] r (Y.index_arr (α:=Wrd) ka171 (Oc 0 r) H32 r r)<|A1 13<|Xu [] r (Se (Wrd.mk (IntKind.u32.wrap (E31.v+E33.v))) 0 kk170 H32 r (Cp r) r)<|Az<|Bg () [0]
  refine Xy [] r (Y.index_arr (α:=Wrd) ka171 (Oc 0 r) H34 r r)<|A2 3 9 (?_)<|?_
  ·exact Xy [] r (Y.index_arr (α:=Wrd) ka171 (Oc 0 r) H32 r r)<|A2 4 9 (Xy [] r (Le kk170 (Oc 0 r) H32 r)<|A1 9<|Xy [] r (Le kk170 (Oc 0 r) H34 r)<|Aq [10] [] r<|A1 12<|Xy [] r (Y.index_arr (α:=Wrd) ka171 (Oc 0 r) H32 r r)<|A1 13<|Xu [] r (Se (Wrd.mk (IntKind.u32.wrap (E31.v+E33.v))) 0 kk170 H32 r (Cp r) r)<|Az<|Bg () [0])<|Xy [] r (Le kk170 (Oc 0 r) H34 r)<|A1 4<|Xy [] r (Le kk170 (Oc 0 r) H32 r)<|Aq [10] [] r<|A1 12<|Xy [] r (Y.index_arr (α:=Wrd) ka171 (Oc 0 r) H32 r r)<|A1 13<|Xu [] r (Se (Wrd.mk (IntKind.u32.wrap (E31.v+E33.v))) 0 kk170 H32 r (Cp r) r)<|Az<|Bg () [0]
  exact Xy [] r (Le kk170 (Oc 0 r) H34 r)<|A1 3<|Xy [] r (Y.index_arr (α:=Wrd) ka171 (Oc 0 r) H32 r r)<|A1 4<|Xy [] r (Le kk170 (Oc 0 r) H32 r)<|Aq [10] [] r<|A1 12<|Xy [] r (Y.index_arr (α:=Wrd) ka171 (Oc 0 r) H32 r r)<|A1 13<|Xu [] r (Se (Wrd.mk (IntKind.u32.wrap (E31.v+E33.v))) 0 kk170 H32 r (Cp r) r)<|Az<|Bg () [0]
 refine Ne<|Sq<|Wi fun E37 H38=>Wi fun E39 H40=>Wi fun R41 H42=>Jw Unit [0,2,3,4] [] (fun _=>[]) (fun _=>[.own (arrS U0 16) (lc ((((((w_.set a.toNat (Wrd.mk (IntKind.u32.wrap (E1.v+E3.v)))).set d.toNat (Wrd.mk R11)).set c.toNat (Wrd.mk (IntKind.u32.wrap (E16.v+E18.v)))).set b.toNat (Wrd.mk R26)).set a.toNat (Wrd.mk (IntKind.u32.wrap (E31.v+E33.v)))).set d.toNat (Wrd.mk R41)))]) r1 r1 (?_) fun X45=>?_
 ·refine Dr [] r hMix<|Aq [0,1,2,3,4,7,8,9,14] [] r<|A2 5 10 (?_)<|?_
  ·refine Xy [] r (Y.index_arr (α:=Wrd) ka171 (Oc 0 r) H38 r r)<|A2 6 10 (?_)<|?_
   ·exact Xy [] r (Le kk170 (Oc 0 r) H38 r)<|A1 10<|Xy [] r (Y.index_arr (α:=Wrd) ka171 (Oc 0 r) H40 r r)<|A1 11<|Xy [] r (Le kk170 (Oc 0 r) H40 r)<|Aq [12] [] r<|A1 13<|Xe [] r (Cl [] zh H42 r r1) fun _=>A1 15<|Xy [] r (Y.index_arr (α:=Wrd) ka171 (Oc 0 r) H38 r r)<|A1 16<|Xu [] r (Se (Wrd.mk R41) 0 kk170 H38 r (Cp r) r)<|Az<|Bg () [0]
   refine Xy [] r (Y.index_arr (α:=Wrd) ka171 (Oc 0 r) H40 r r)<|A2 6 11 (?_)<|?_
   ·exact Xy [] r (Le kk170 (Oc 0 r) H38 r)<|A1 11<|Xy [] r (Le kk170 (Oc 0 r) H40 r)<|Aq [12] [] r<|A1 13<|Xe [] r (Cl [] zh H42 r r1) fun _=>A1 15<|Xy [] r (Y.index_arr (α:=Wrd) ka171 (Oc 0 r) H38 r r)<|A1 16<|Xu [] r (Se (Wrd.mk R41) 0 kk170 H38 r (Cp r) r)<|Az<|Bg () [0]
   exact Xy [] r (Le kk170 (Oc 0 r) H40 r)<|A1 6<|Xy [] r (Le kk170 (Oc 0 r) H38 r)<|Aq [12] [] r<|A1 13<|Xe [] r (Cl [] zh H42 r r1) fun _=>A1 15<|Xy [] r (Y.index_arr (α:=Wrd) ka171 (Oc 0 r) H38 r r)<|A1 16<|Xu [] r (Se (Wrd.mk R41) 0 kk170 H38 r (Cp r) r)<|Az<|Bg () [0]
  refine Xy [] r (Y.index_arr (α:=Wrd) ka171 (Oc 0 r) H40 r r)<|A2 5 11 (?_)<|?_
  ·refine Xy [] r (Y.index_arr (α:=Wrd) ka171 (Oc 0 r) H38 r r)<|A2 6 11 (?_)<|?_
   ·exact Xy [] r (Le kk170 (Oc 0 r) H38 r)<|A1 11<|Xy [] r (Le kk170 (Oc 0 r) H40 r)<|Aq [12] [] r<|A1 13<|Xe [] r (Cl [] zh H42 r r1) fun _=>A1 15<|Xy [] r (Y.index_arr (α:=Wrd) ka171 (Oc 0 r) H38 r r)<|A1 16<|Xu [] r (Se (Wrd.mk R41) 0 kk170 H38 r (Cp r) r)<|Az<|Bg () [0]
   exact Xy [] r (Le kk170 (Oc 0 r) H40 r)<|A1 6<|Xy [] r (Le kk170 (Oc 0 r) H38 r)<|Aq [12] [] r<|A1 13<|Xe [] r (Cl [] zh H42 r r1) fun _=>A1 15<|Xy [] r (Y.index_arr (α:=Wrd) ka171 (Oc 0 r) H38 r r)<|A1 16<|Xu [] r (Se (Wrd.mk R41) 0 kk170 H38 r (Cp r) r)<|Az<|Bg () [0]
  exact Xy [] r (Le kk170 (Oc 0 r) H40 r)<|A1 5<|Xy [] r (Y.index_arr (α:=Wrd) ka171 (Oc 0 r) H38 r r)<|A1 6<|Xy [] r (Le kk170 (Oc 0 r) H38 r)<|Aq [12] [] r<|A1 13<|Xe [] r (Cl [] zh H42 r r1) fun _=>A1 15<|Xy [] r (Y.index_arr (α:=Wrd) ka171 (Oc 0 r) H38 r r)<|A1 16<|Xu [] r (Se (Wrd.mk R41) 0 kk170 H38 r (Cp r) r)<|Az<|Bg () [0]
 refine Ne<|Sq<|Wi fun E46 H47=>Wi fun E48 H49=>Jw Unit [0,2,3] [] (fun _=>[]) (fun _=>[.own (arrS U0 16) (lc (((((((w_.set a.toNat (Wrd.mk (IntKind.u32.wrap (E1.v+E3.v)))).set d.toNat (Wrd.mk R11)).set c.toNat (Wrd.mk (IntKind.u32.wrap (E16.v+E18.v)))).set b.toNat (Wrd.mk R26)).set a.toNat (Wrd.mk (IntKind.u32.wrap (E31.v+E33.v)))).set d.toNat (Wrd.mk R41)).set c.toNat (Wrd.mk (IntKind.u32.wrap (E46.v+E48.v)))))]) r1 r1 (?_) fun X51=>?_
 ·refine Dr [] r hMix<|Aq [0,1,2,5,6,7,11] [] r<|A2 3 8 (?_)<|?_
  ·refine Xy [] r (Y.index_arr (α:=Wrd) ka171 (Oc 0 r) H47 r r)<|A2 4 8 (?_)<|?_
   ·exact Xy [] r (Le kk170 (Oc 0 r) H47 r)<|A1 8<|Xy [] r (Y.index_arr (α:=Wrd) ka171 (Oc 0 r) H49 r r)<|A1 9<|Xy [] r (Le kk170 (Oc 0 r) H49 r)<|Aq [10] [] r<|A1 12<|Xy [] r (Y.index_arr (α:=Wrd) ka171 (Oc 0 r) H47 r r)<|A1 13<|Xu [] r (Se (Wrd.mk (IntKind.u32.wrap (E46.v+E48.v))) 0 kk170 H47 r (Cp r) r)<|Az<|Bg () [0]
   exact Xy [] r (Y.index_arr (α:=Wrd) ka171 (Oc 0 r) H49 r r)<|A2 4 9 (Xy [] r (Le kk170 (Oc 0 r) H47 r)<|A1 9<|Xy [] r (Le kk170 (Oc 0 r) H49 r)<|Aq [10] [] r<|A1 12<|Xy [] r (Y.index_arr (α:=Wrd) ka171 (Oc 0 r) H47 r r)<|A1 13<|Xu [] r (Se (Wrd.mk (IntKind.u32.wrap (E46.v+E48.v))) 0 kk170 H47 r (Cp r) r)<|Az<|Bg () [0])<|Xy [] r (Le kk170 (Oc 0 r) H49 r)<|A1 4<|Xy [] r (Le kk170 (Oc 0 r) H47 r)<|Aq [10] [] r<|A1 12<|Xy [] r (Y.index_arr (α:=Wrd) ka171 (Oc 0 r) H47 r r)<|A1 13<|Xu [] r (Se (Wrd.mk (IntKind.u32.wrap (E46.v+E48.v))) 0 kk170 H47 r (Cp r) r)<|Az<|Bg () [0]
  refine Xy [] r (Y.index_arr (α:=Wrd) ka171 (Oc 0 r) H49 r r)<|A2 3 9 (?_)<|?_
  ·exact Xy [] r (Y.index_arr (α:=Wrd) ka171 (Oc 0 r) H47 r r)<|A2 4 9 (Xy [] r (Le kk170 (Oc 0 r) H47 r)<|A1 9<|Xy [] r (Le kk170 (Oc 0 r) H49 r)<|Aq [10] [] r<|A1 12<|Xy [] r (Y.index_arr (α:=Wrd) ka171 (Oc 0 r) H47 r r)<|A1 13<|Xu [] r (Se (Wrd.mk (IntKind.u32.wrap (E46.v+E48.v))) 0 kk170 H47 r (Cp r) r)<|Az<|Bg () [0])<|Xy [] r (Le kk170 (Oc 0 r) H49 r)<|A1 4<|Xy [] r (Le kk170 (Oc 0 r) H47 r)<|Aq [10] [] r<|A1 12<|Xy [] r (Y.index_arr (α:=Wrd) ka171 (Oc 0 r) H47 r r)<|A1 13<|Xu [] r (Se (Wrd.mk (IntKind.u32.wrap (E46.v+E48.v))) 0 kk170 H47 r (Cp r) r)<|Az<|Bg () [0]
  exact Xy [] r (Le kk170 (Oc 0 r) H49 r)<|A1 3<|Xy [] r (Y.index_arr (α:=Wrd) ka171 (Oc 0 r) H47 r r)<|A1 4<|Xy [] r (Le kk170 (Oc 0 r) H47 r)<|Aq [10] [] r<|A1 12<|Xy [] r (Y.index_arr (α:=Wrd) ka171 (Oc 0 r) H47 r r)<|A1 13<|Xu [] r (Se (Wrd.mk (IntKind.u32.wrap (E46.v+E48.v))) 0 kk170 H47 r (Cp r) r)<|Az<|Bg () [0]
 refine Ne<|Wi fun E52 H53=>Wi fun E54 H55=>Wi fun R56 H57=>Jw Unit [] [] (fun _=>[]) (fun _=>[.own (arrS U0 16) (lc ((((((((w_.set a.toNat (Wrd.mk (IntKind.u32.wrap (E1.v+E3.v)))).set d.toNat (Wrd.mk R11)).set c.toNat (Wrd.mk (IntKind.u32.wrap (E16.v+E18.v)))).set b.toNat (Wrd.mk R26)).set a.toNat (Wrd.mk (IntKind.u32.wrap (E31.v+E33.v)))).set d.toNat (Wrd.mk R41)).set c.toNat (Wrd.mk (IntKind.u32.wrap (E46.v+E48.v)))).set b.toNat (Wrd.mk R56)))]) r1 r1 (?_) fun X60=>?_
 ·refine Dr [] r hMix<|Aq [0,1,2,3,4,7,8,9,14] [] r<|A2 5 10 (?_)<|?_
  ·refine Xy [] r (Y.index_arr (α:=Wrd) ka171 (Oc 0 r) H53 r r)<|A2 6 10 (?_)<|?_
   ·exact Xy [] r (Le kk170 (Oc 0 r) H53 r)<|A1 10<|Xy [] r (Y.index_arr (α:=Wrd) ka171 (Oc 0 r) H55 r r)<|A1 11<|Xy [] r (Le kk170 (Oc 0 r) H55 r)<|Aq [12] [] r<|A1 13<|Xe [] r (Cl [] zh H57 r r1) fun _=>A1 15<|Xy [] r (Y.index_arr (α:=Wrd) ka171 (Oc 0 r) H53 r r)<|A1 16<|Xu [] r (Se (Wrd.mk R56) 0 kk170 H53 r (Cp r) r)<|Az<|Bg () [0]
   refine Xy [] r (Y.index_arr (α:=Wrd) ka171 (Oc 0 r) H55 r r)<|A2 6 11 (?_)<|?_
   ·exact Xy [] r (Le kk170 (Oc 0 r) H53 r)<|A1 11<|Xy [] r (Le kk170 (Oc 0 r) H55 r)<|Aq [12] [] r<|A1 13<|Xe [] r (Cl [] zh H57 r r1) fun _=>A1 15<|Xy [] r (Y.index_arr (α:=Wrd) ka171 (Oc 0 r) H53 r r)<|A1 16<|Xu [] r (Se (Wrd.mk R56) 0 kk170 H53 r (Cp r) r)<|Az<|Bg () [0]
   exact Xy [] r (Le kk170 (Oc 0 r) H55 r)<|A1 6<|Xy [] r (Le kk170 (Oc 0 r) H53 r)<|Aq [12] [] r<|A1 13<|Xe [] r (Cl [] zh H57 r r1) fun _=>A1 15<|Xy [] r (Y.index_arr (α:=Wrd) ka171 (Oc 0 r) H53 r r)<|A1 16<|Xu [] r (Se (Wrd.mk R56) 0 kk170 H53 r (Cp r) r)<|Az<|Bg () [0]
  refine Xy [] r (Y.index_arr (α:=Wrd) ka171 (Oc 0 r) H55 r r)<|A2 5 11 (?_)<|?_
  ·refine Xy [] r (Y.index_arr (α:=Wrd) ka171 (Oc 0 r) H53 r r)<|A2 6 11 (?_)<|?_
   ·exact Xy [] r (Le kk170 (Oc 0 r) H53 r)<|A1 11<|Xy [] r (Le kk170 (Oc 0 r) H55 r)<|Aq [12] [] r<|A1 13<|Xe [] r (Cl [] zh H57 r r1) fun _=>A1 15<|Xy [] r (Y.index_arr (α:=Wrd) ka171 (Oc 0 r) H53 r r)<|A1 16<|Xu [] r (Se (Wrd.mk R56) 0 kk170 H53 r (Cp r) r)<|Az<|Bg () [0]
   exact Xy [] r (Le kk170 (Oc 0 r) H55 r)<|A1 6<|Xy [] r (Le kk170 (Oc 0 r) H53 r)<|Aq [12] [] r<|A1 13<|Xe [] r (Cl [] zh H57 r r1) fun _=>A1 15<|Xy [] r (Y.index_arr (α:=Wrd) ka171 (Oc 0 r) H53 r r)<|A1 16<|Xu [] r (Se (Wrd.mk R56) 0 kk170 H53 r (Cp r) r)<|Az<|Bg () [0]
  exact Xy [] r (Le kk170 (Oc 0 r) H55 r)<|A1 5<|Xy [] r (Y.index_arr (α:=Wrd) ka171 (Oc 0 r) H53 r r)<|A1 6<|Xy [] r (Le kk170 (Oc 0 r) H53 r)<|Aq [12] [] r<|A1 13<|Xe [] r (Cl [] zh H57 r r1) fun _=>A1 15<|Xy [] r (Y.index_arr (α:=Wrd) ka171 (Oc 0 r) H53 r r)<|A1 16<|Xu [] r (Se (Wrd.mk R56) 0 kk170 H53 r (Cp r) r)<|Az<|Bg () [0]
 exact Re () [0]
noncomputable def zdx (key:List UInt8) (counter:Int) (nonce:List UInt8):Option (List UInt8):=
 (zfc key counter nonce).bind fun R1=>
 if !R1 then (some ([]))
 else ((zdH key counter nonce).bind fun R5=>
 (lenIs 16 R5).bind fun E9=>
 bindC (loopO (fun (S12:Int × List Wrd)=>if decide (S12.1<10) then (bindC (loopO (fun (S17:Int × List Wrd)=>if decide (S17.1<4) then ((zbI S17.2 S17.1 (IntKind.i64.wrap ((4:Int)+S17.1)) (IntKind.i64.wrap ((8:Int)+S17.1)) (IntKind.i64.wrap ((12:Int)+S17.1))).bind fun R22=>
 some (.go (IntKind.i64.wrap (S17.1+1),R22)))
 else (some (.done (.go S17.2))))
 ((0:Int),S12.2))
 (fun (T19:List Wrd)=>bindC (loopO (fun (S25:Int × List Wrd)=>if decide (S25.1<4) then ((zbI S25.2 S25.1 (IntKind.i64.wrap ((4:Int)+(Int.tmod (IntKind.i64.wrap (S25.1+1)) 4))) (IntKind.i64.wrap ((8:Int)+(Int.tmod (IntKind.i64.wrap (S25.1+2)) 4))) (IntKind.i64.wrap ((12:Int)+(Int.tmod (IntKind.i64.wrap (S25.1+3)) 4)))).bind fun R30=>
 some (.go (IntKind.i64.wrap (S25.1+1),R30)))
 else (some (.done (.go S25.2))))
 ((0:Int),T19))
 (fun (T27:List Wrd)=>some (.go (IntKind.i64.wrap (S12.1+1),T27)))))
 else (some (.done (.go S12.2))))
 ((0:Int),R5))
 (fun (T14:List Wrd)=>(mkLen 1 64).bind fun E34=>
 bindC (loopO (fun (S36:Int × List UInt8)=>if decide (S36.1<16) then ((lenIs 16 T14).bind fun E41=>
 (idx T14 S36.1).bind fun E43=>
 (idx R5 S36.1).bind fun E45=>
 (app 1 S36.2 ([toU8 (IntKind.u32.wrap (E43.v+E45.v)),toU8 (ishr .u32 (IntKind.u32.wrap (E43.v+E45.v)) 8),toU8 (ishr .u32 (IntKind.u32.wrap (E43.v+E45.v)) 16),toU8 (ishr .u32 (IntKind.u32.wrap (E43.v+E45.v)) 24)])).bind fun E49=>
 some (.go (IntKind.i64.wrap (S36.1+1),E49)))
 else (some (.done (.go S36.2))))
 ((0:Int),([]:List UInt8)))
 (fun (T38:List UInt8)=>some T38)))
theorem zh0 {key:List UInt8} {counter:Int} {nonce:List UInt8} :Cn Tryz.prog 88 [strV key,iv counter,strV nonce] [] [] (zdx key counter nonce) (fun r (_:Unit)=>strV r) fun _ _=>[]:=by
 unfold zdx
 refine Ci Tryz.func88 r r ?_
 rintro w S -
 refine Sr<|Qs 1 r<|Nx<|Sq<|Sr<|Qs 3 r<|Bi fun R1 H2=>Fo (Cl [] zj2 H2 r r1) fun _=>Qs 1 r<|Nx<|Wc r (fun H4=>Sr<|Qs 1 r<|Nx<|Wr<|Tr<|Re () []) fun H4=>Sn<|Sr<|Qs 3 r<|Bi fun R5 H6=>Fo (Cl [] zkQ H6 r r1) fun _=>Fo (Ef.allocArr (α:=Wrd) (List.replicate 16 (Wrd.mk 0)) kz171 r (by decide)) fun B8=>Bi fun E9 H10=>Fu (Ef.store_arr (α:=Wrd) (is':=[.own (arrS B8 16) (lc R5)]) 0 kk171 r (by decide) (zhE H10) r r r r)<|Nx<|Sr<|Yo (Y.load_arr (α:=Wrd) kk171 r (by decide) (Oc 0 r) r)<|Fo (Ef.allocArr (α:=Wrd) (List.replicate 16 (Wrd.mk 0)) kz171 r (by decide)) fun B11=>?_
 refine Fu (Ef.store_arr (α:=Wrd) (is':=[.own (arrS B11 16) (lc R5),.own (arrS B8 16) (lc R5)]) 0 kk171 r (by decide) (zhE H10) r r r r)<|Nx<|Sq<|Sr<|Qs 1 r<|Nx<|Jn Unit [7,8] [1] (fun _ _=>[]) (fun T _=>[.own (arrS B11 16) (lc T)]) r2 r2 (?_) fun T14 X15=>?_
 ·refine Wb<|Lp Unit [7,8] [1] (fun T _=>[(24,iv T.1)]) (fun T _=>[.own (arrS B11 16) (lc T.2)]) () [1,0] r2 r2 fun S12 X13=>Sr<|Qs 1 r<|Nx<|Sq<|Wc r (fun H16=>?_) fun H16=>?_
  ·refine Sn<|Sq<|Wb<|Sq<|Sr<|Qs 1 r<|Nx<|Jn Unit [7,8,24] [0] (fun _ _=>[]) (fun T _=>[.own (arrS B11 16) (lc T)]) r2 r2 (?_) fun T19 X20=>?_
   ·exact Wb<|Lp Unit [7,8,24] [0] (fun T _=>[(26,iv T.1)]) (fun T _=>[.own (arrS B11 16) (lc T.2)]) () [0,0] r2 r2 fun S17 X18=>Sr<|Qs 1 r<|Nx<|Sq<|Wc r (fun H21=>Sn<|Sq<|Wb<|Sr<|Qs 2 r<|Nx<|Rg<|Qs 7 r<|Bi fun R22 H23=>Fo (Cl [1] ziA H23 r r1) fun _=>Nl<|Bn<|Ne<|Rg<|Qs 2 r<|Nl<|Lg () [1,0]) fun H21=>Wx<|Tx<|Ex<|Be<|Jg () [0,0]
   refine Ne<|Sr<|Qs 1 r<|Nx<|Jn Unit [7,8,24] [0] (fun _ _=>[]) (fun T _=>[.own (arrS B11 16) (lc T)]) r2 r2 (?_) fun T27 X28=>?_
   ·exact Wb<|Lp Unit [7,8,24] [0] (fun T _=>[(38,iv T.1)]) (fun T _=>[.own (arrS B11 16) (lc T.2)]) () [0,0] r2 r2 fun S25 X26=>Sr<|Qs 1 r<|Nx<|Sq<|Wc r (fun H29=>Sn<|Sq<|Wb<|Sr<|Qs 2 r<|Nx<|Rg<|Qs 3 r<|Yo (Y.rem (by decide) r r)<|Qs 3 r<|Yo (Y.rem (by decide) r r)<|Qs 3 r<|Yo (Y.rem (by decide) r r)<|Qs 1 r<|Bi fun R30 H31=>Fo (Cl [1] ziA H31 r r1) fun _=>Nl<|Bn<|Ne<|Rg<|Qs 2 r<|Nl<|Lg () [1,0]) fun H29=>Wx<|Tx<|Ex<|Be<|Jg () [0,0]
   exact Bn<|Ne<|Rg<|Qs 2 r<|Nl<|Lg () [0,0]
  exact Wx<|Tx<|Ex<|Be<|Jg () [0,0]
 refine Ne<|Sr<|Bi fun E34 H35=>Fo (M0 (0:UInt8) H35 ke22 kz5) fun V33=>Qs 1 r<|Nx<|Sq<|Sr<|Yo (Y.load_arr (α:=Wrd) kk171 r (by decide) (Oc 2 r) r)<|Qs 1 r<|Nx<|Jn Value [] [] (fun _ X=>[(11,X)]) (fun T X=>[.own X (lc T)]) r2 r2 (?_) fun T38 X39=>?_
 ·refine Wb<|Lp Value [7,58] [1] (fun T X=>[(11,X),(59,iv T.1)]) (fun T X=>[.own X (lc T.2)]) V33 [1,0] r2 r2 fun S36 X37=>Sr<|Qs 1 r<|Nx<|Sq<|Wc r (fun H40=>?_) fun H40=>?_
  ·refine Sn<|Sq<|Wb<|Sr<|Qs 1 r<|Bi fun E41 H42=>Bi fun E43 H44=>Yo (Y.idx_arr ka171 kk170 (zhE H42) H44 r r)<|Qs 2 r<|Nx<|Sr<|Qs 2 r<|Bi fun E45 H46=>Yo (Y.index_arr (α:=Wrd) ka171 (Oc 0 r) H46 r r)<|Yo (Le kk170 (Oc 0 r) H46 r)<|Qs 2 r<|Nx<|Rg<|Qs 2 r<|Yo (Y.conv8 ki170 ki5 r)<|Qs 1 r<|Yo (Y.shr (by decide) r r)<|Yo (Y.conv8 ki170 ki5 r)<|Qs 1 r<|Yo (Y.shr (by decide) r r)<|Yo (Y.conv8 ki170 ki5 r)<|Qs 1 r<|Yo (Y.shr (by decide) r r)<|Yo (Y.conv8 ki170 ki5 r)<|Fo (Bs [toU8 (IntKind.u32.wrap (E43.v+E45.v)),toU8 (ishr .u32 (IntKind.u32.wrap (E43.v+E45.v)) 8),toU8 (ishr .u32 (IntKind.u32.wrap (E43.v+E45.v)) 16),toU8 (ishr .u32 (IntKind.u32.wrap (E43.v+E45.v)) 24)] ke22 kz5) fun B47=>?_
   exact Bi fun E49 H50=>Fo (Ap [2] H50 ke22 kz5 r (Oc 0 r)) fun V48=>Qs 1 r<|Nl<|Bn<|Ne<|Rg<|Qs 2 r<|Nl<|Lg V48 [2,0]
  exact Wx<|Tx<|Ex<|Be<|Jg X37 [1]
 exact Ne<|Sr<|Qs 1 r<|Yo (Y.toStr ke22 ki5 ks9 (Oc 0 r) r)<|Qs 1 r<|Nx<|Wr<|Re () []
noncomputable def zcn (secret:List UInt8) (tenant:Int) (epoch:Int):Option (List UInt8):=
 (if !(decide ((secret.length:Int)=32)) then (some true)
 else ((zbp tenant).bind fun R4=>
 if !R4 then (some true)
 else ((zcJ epoch).bind fun R8=>
 some (!R8)))).bind (fun (T1:Bool)=>
 if T1=true then (some ([]))
 else ((zeM tenant).bind fun R12=>
 (zeM epoch).bind fun R15=>
 (cat R12 R15).bind fun E18=>
 (zdW 2 tenant).bind fun R20=>
 (zdx secret epoch R20).bind fun R23=>
 (ssub R23 0 8).bind fun E26=>
 (cat E18 E26).bind fun E28=>
 some E28))
theorem zfF {secret:List UInt8} {tenant:Int} {epoch:Int} :Cn Tryz.prog 50 [strV secret,iv tenant,iv epoch] [] [] (zcn secret tenant epoch) (fun r (_:Unit)=>strV r) fun _ _=>[]:=by
 unfold zcn
 refine Ci Tryz.func50 r r ?_
 rintro w S -
 refine Sr<|Qs 1 r<|Nx<|Sq<|Sq<|Jv [0,1,2] (fun T=>[(19,.bool T)]) r1 (?_) fun T1=>?_
 ·exact Rg<|Qs 1 r<|Yo (Y.slen ks9 r)<|Qs 2 r<|It (fun H3=>Of 3 (zl H3) r r<|Yo (Pt H3 r)<|Qs 1 r<|Of 3 r r r<|Yo (Pt r r)<|Nl<|Bg () []) fun H3=>Qg 1 (za H3) r r<|Bi fun R4 H5=>Fg (gdA (za H3)) (Cl [] zeE H5 r r1) fun _=>Qg 1 (za H3) r r<|Yo (Pf H3 r)<|Qs 1 r<|It (fun H7=>Of 3 (zl H7) r r<|Yo (Pt H7 r)<|Nl<|Bg () []) fun H7=>Qg 1 (za H7) r r<|Bi fun R8 H9=>Fg (gdA (za H7)) (Cl [] zh5 H9 r r1) fun _=>Qg 1 (za H7) r r<|Yo (Pf H7 r)<|Nl<|Bg () []
 exact Ne<|Wc r (fun H11=>Sr<|Qs 1 r<|Nx<|Wr<|Tr<|Re () []) fun H11=>Sn<|Sr<|Qs 1 r<|Bi fun R12 H13=>Fo (Cl [] zg9 H13 r r1) fun _=>Qs 1 r<|Bi fun R15 H16=>Fo (Cl [] zg9 H16 r r1) fun _=>Bi fun E18 H19=>Yo (Y.cat H19 r r)<|Qs 3 r<|Bi fun R20 H21=>Fo (Cl [] ziu H21 r r1) fun _=>Bi fun R23 H24=>Fo (Cl [] zh0 H24 r r1) fun _=>Bi fun E26 H27=>Yo (Y.ssub_to H27 ks9 r r)<|Bi fun E28 H29=>Yo (Y.cat H29 r r)<|Qs 1 r<|Nx<|Wr<|Re () []
noncomputable def zcR (s:Store) (c:Call):Option (Reply × Store):=
 ((zbp c.Tenant).bind fun R5=>
 if !R5 then (some true)
 else ((zd7 c.N).bind fun R9=>
 if !R9 then (some true)
 else (if !(decide ((c.Key.length:Int)=32)) then (some true)
 else ((zbN s c.Tenant).bind fun R14=>
 some (decide (R14≥0)))))).bind (fun (T3:Bool)=>
 if T3=true then ((zbq 1).bind fun R18=>
 some (R18,s))
 else (if decide ((s.Tens.length:Int)≥4) then ((zbq 4).bind fun R22=>
 some (R22,s))
 else ((zb3 s.Shares c.Tenant c.N).bind fun R25=>
 if !R25.2 then ((zbq 6).bind fun R35=>
 some (R35,s))
 else ((zfr s.Keys c.Tenant c.Key).bind fun R38=>
 bindC (loopO (fun (S41:Int)=>(if decide (S41<(s.Tens.length:Int)) then ((idx s.Tens S41).bind fun E48=>
 some (decide (E48.Id<c.Tenant)))
 else (some false)).bind (fun (T45:Bool)=>
 if T45=true then (some (.go (IntKind.i64.wrap (S41+1))))
 else (some (.done (.go S41)))))
 (0:Int))
 (fun (T43:Int)=>(zb0 s.Tens T43 ([(⟨c.Tenant,0,0,⟨[],[],0,[]⟩⟩:STen)])).bind fun R59=>
 (zcn s.Secret c.Tenant 0).bind fun R68=>
 some ((⟨0,1,R68,[]⟩:Reply),(⟨s.Secret,R38.1,R25.1,R59,s.Rows,s.Hist,s.Boot⟩:Store)))))))
theorem zjF {s:Store} {c:Call} {U0 U1 U2 U3 U4 U6:Value} {U5:Nat} :Cn Tryz.prog 30 [pt U5,.agg #[iv c.Kind,strV c.Token,iv c.Tenant,iv c.N,strV c.Key,strV c.To,U6]] [.box U5 39 [strV s.Secret,strV s.Keys.Master,U0,iv s.Keys.Wiped,iv s.Shares.Size,U1,U2,U3,U4,iv s.Boot],.own U0 (lc s.Keys.Slots),.own U1 (lc s.Shares.List),.own U2 (lc s.Tens)] [(U6,lc c.Ops)] (zcR s c) (fun r (X:Value × Value × Value × Value)=>.agg #[iv r.1.Code,iv r.1.N,strV r.1.Text,X.1]) fun r X=>[.box U5 39 [strV r.2.Secret,strV r.2.Keys.Master,X.2.1,iv r.2.Keys.Wiped,iv r.2.Shares.Size,X.2.2.1,X.2.2.2,U3,U4,iv r.2.Boot],.own X.2.1 (lc r.2.Keys.Slots),.own X.2.2.1 (lc r.2.Shares.List),.own X.2.2.2 (lc r.2.Tens),.own X.1 (lc r.1.List)]:=by
 unfold zcR
 refine Ci Tryz.func30 r r ?_
 rintro w S ⟨Z0,-⟩
 refine Sr<|Fo (Bx r (Ca ⟨Op',Op',Op',Op',Op',Op',Ob Z0,⟨⟩⟩)) fun B1=>Fo (Al kz60 r) fun B2=>Nx<|Sq<|Sq<|Jv [0,3,4] (fun T=>[(30,.bool T)]) r1 (?_) fun T3=>?_
 ·refine Rg<|Yo (Fb zcU r)<|Yo (Lb 1 kk3 r)<|Bi fun R5 H6=>Fo (Cl [] zeE H6 r r1) fun _=>Qs 2 r<|It (fun H8=>Of 4 (zl H8) r r<|Yo (Pt H8 r)<|Qs 1 r<|Of 4 r r r<|Yo (Pt r r)<|Qs 1 r<|Of 5 r r r<|Yo (Pt r r)<|Nl<|Bg () [0,0,0,0,0,0]) fun H8=>Yg (gdA (za H8)) (Fb zdI r)<|Yg (gdA (za H8)) (Lb 1 kk3 r)<|Bi fun R9 H10=>Fg (gdA (za H8)) (Cl [] ziz H10 r r1) fun _=>Qg 1 (za H8) r r<|Yo (Pf H8 r)<|Qs 1 r<|It (fun H12=>Of 4 (zl H12) r r<|Yo (Pt H12 r)<|Qs 1 r<|Of 5 r r r<|Yo (Pt r r)<|Nl<|Bg () [0,0,0,0,0,0]) fun H12=>?_
  exact Yg (gdA (za H12)) (Fb zf8 r)<|Yg (gdA (za H12)) (Lb 1 kk9 r)<|Yg (gdA (za H12)) (Y.slen ks9 r)<|Qg 1 (za H12) r r<|Yo (Pf H12 r)<|Qs 1 r<|It (fun H13=>Of 5 (zl H13) r r<|Yo (Pt H13 r)<|Nl<|Bg () [0,0,0,0,0,0]) fun H13=>Qg 1 (za H13) r r<|Yg (gdA (za H13)) (Fb zcU r)<|Yg (gdA (za H13)) (Lb 1 kk3 r)<|Bi fun R14 H15=>Fg (gdA (za H13)) (Cl [2] zdF H15 r r1 ⟨(Oc 4 r),⟨⟩⟩) fun _=>Qg 1 (za H13) r r<|Yo (Pf H13 r)<|Nl<|Bg () [1,1,0,0,0,0]
 refine Ne<|Wc r (fun H17=>Sr<|Bi fun R18 H19=>Fo (Cl [] zbc H19 r r1) fun Y20=>Fu (Sb 1 kk60 r (Ca ⟨Op',Op',Op',Ow' 0,⟨⟩⟩) r)<|Nx<|Wr<|Tr<|Rf (Y20,U0,U1,U2) [3,3,3,3,0] (RV.cell 1 r r kk60 r Rz)) fun H17=>Sn<|Sq<|Sr<|Qs 2 r<|Yo (Fb zdk r)<|Yo (Lb 2 kk36 r)<|Yo (Ln ke36 (Oc 5 r) r)<|Qs 1 r<|Nx<|Wc r (fun H21=>Sr<|Bi fun R22 H23=>Fo (Cl [] zbc H23 r r1) fun Y24=>Fu (Sb 1 kk60 r (Ca ⟨Op',Op',Op',Ow' 0,⟨⟩⟩) r)<|Nx<|Wr<|Tr<|Rf (Y24,U0,U1,U2) [3,3,3,3,0] (RV.cell 1 r r kk60 r Rz)) fun H21=>Sn<|Sq<|Wi fun R25 H26=>?_
 refine Jw (Nat × Value) [0,3,4] [2,1,0,0,0,0] (fun X=>[(5,pt X.1),(6,.bool R25.2)]) (fun X=>[.box X.1 35 [iv R25.1.Size,X.2],.own X.2 (lc R25.1.List)]) r1 r1 (?_) fun X31=>?_
 ·refine Dr [0,0,0,0,0,0] r hMix<|Aq [0,1] [0,0,0,0,0,0] r<|Ay 2 [0,0,0,0,0,0] r (Fb zhD r)<|Ay 3 [0,0,0,0,0,0] r (Lb 2 kk35 r)<|Ay 4 [0,0,0,0,0,0] r (Fb zcU r)<|Ay 5 [0,0,0,0,0,0] r (Lb 1 kk3 r)<|Ay 6 [0,0,0,0,0,0] r (Fb zdI r)<|Ay 7 [0,0,0,0,0,0] r (Lb 1 kk3 r)<|A2 8 12 (?_)<|?_
  ·exact Xe [1,1,1,1,1,1] r (Cl [] zeA H26 r r1 ⟨(Oc 4 r),⟨⟩⟩) fun Y32=>Aq [9,10,11] [1,1,1,1,1,1] r<|A1 12<|Xe [2,2,2,2,2,2] r (Al kz35 r) fun B34=>A1 13<|Xu [2,2,2,2,2,2] r (Sb 0 kk35 r (Ca ⟨Op',Ow' 1,⟨⟩⟩) r)<|Aq [14] [2,2,2,2,2,2] r<|Az<|Bg (B34,Y32) [4,3,2,2,2,2,0,0]
  exact Xe [1,1,1,1,1,1] r (Al kz35 r) fun B33=>A1 8<|Xe [2,2,2,2,2,2] r (Cl [] zeA H26 r r1 ⟨(Oc 5 r),⟨⟩⟩) fun Y34=>Aq [9,10,11] [2,2,2,2,2,2] r<|A1 13<|Xu [2,2,2,2,2,2] r (Sb 1 kk35 r (Ca ⟨Op',Ow' 0,⟨⟩⟩) r)<|Aq [14] [2,2,2,2,2,2] r<|Az<|Bg (B33,Y34) [4,3,2,2,2,2,1,0]
 refine Ne<|Sq<|Sr<|Qs 2 r<|Nx<|Wc r (fun H34=>Sr<|Bi fun R35 H36=>Fo (Cl [] zbc H36 r r1) fun Y37=>Fu (Sb 3 kk60 r (Ca ⟨Op',Op',Op',Ow' 0,⟨⟩⟩) r)<|Nx<|Wr<|Tr<|Rf (Y37,U0,U1,U2) [1,3,3,3,0] (RV.cell 3 r r kk60 r Rz)) fun H34=>Sn<|Sr<|Qs 1 r<|Yo (Lb 6 kk35 r)<|Qs 1 r<|Yo (Fb zhD r)<|Fu (Sb 0 kk35 r (Ca ⟨Op',Ow' 7,⟨⟩⟩) r)<|Nx<|Sq<|Dr [1,1,1,1,1,1,1] r hMix<|Aq [0,1,2] [1,1,1,1,1,1,1] r<|Ay 3 [1,1,1,1,1,1,1] r (Fb zhC r)<|Ay 5 [1,1,1,1,1,1,1] r (Fb zcU r)<|Ay 6 [1,1,1,1,1,1,1] r (Lb 0 kk3 r)<|Ay 7 [1,1,1,1,1,1,1] r (Fb zf8 r)<|Ay 8 [1,1,1,1,1,1,1] r (Lb 0 kk9 r)<|A1 4<|Xy [1,1,1,1,1,1,1] r (Lb 0 kk32 r)<|Ai fun R38 H39=>?_
 refine A1 9<|Xe [2,2,2,2,2,2,2] r (Cl [] znV H39 r r1 ⟨(Oc 3 r),⟨⟩⟩) fun Y40=>Aq [10,11,12,13] [2,2,2,2,2,2,2] r<|Ay 14 [2,2,2,2,2,2,2] r (Fb zhC r)<|A1 15<|Xu [2,2,2,2,2,2,2] r (Sb 1 kk32 r (Ca ⟨Op',Ow' 0,Op',⟨⟩⟩) r)<|Az<|Ne<|Sr<|Qs 1 r<|Nx<|Sq<|Jn Unit [0,3,4] [1,1,1,0,4,2] (fun T _=>[(7,iv T)]) (fun _ _=>[]) r2 r2 (?_) fun T43 X44=>?_
 ·refine Wb<|Lp Unit [0,3,4] [1,1,1,0,4,2] (fun T _=>[(7,iv T)]) (fun _ _=>[]) () [1,1,1,0,4,2] r2 r2 fun S41 X42=>Sq<|Sq<|Jv [0,3,4,7] (fun T=>[(92,.bool T)]) r1 (?_) fun T45=>?_
  ·refine Dr [0,0,0,0,0,0] r hMix<|Aq [0,1,2] [0,0,0,0,0,0] r<|Ay 3 [0,0,0,0,0,0] r (Fb zdk r)<|Ay 4 [0,0,0,0,0,0] r (Lb 0 kk36 r)<|Ay 5 [0,0,0,0,0,0] r (Ln ke36 (Oc 5 r) r)<|Aq [6,7] [0,0,0,0,0,0] r<|Ia (fun H47=>?_) fun H47=>?_
   ·exact Ag 8 [0,0,0,0,0,0] (gdA (zd H47)) r (Y.move r)<|Ag 9 [0,0,0,0,0,0] (gdA (zd H47)) r (Y.nilCheck r)<|Ag 10 [0,0,0,0,0,0] (gdA (zd H47)) r (Fb zdk r)<|Ag 11 [0,0,0,0,0,0] (gdA (zd H47)) r (Lb 0 kk36 r)<|Ag 12 [0,0,0,0,0,0] (gdA (zd H47)) r (Y.move r)<|Ai fun E48 H49=>Ag 13 [0,0,0,0,0,0] (gdA (zd H47)) r (Ix ke36 (Oc 5 r) H49 r)<|Ag 14 [0,0,0,0,0,0] (gdA (zd H47)) r (Fe zeS (Oc 5 r) H49 r)<|Ag 15 [0,0,0,0,0,0] (gdA (zd H47)) r (Le kk3 (Oc 5 r) H49 r)<|Ag 16 [0,0,0,0,0,0] (gdA (zd H47)) r (Fb zcU r)<|Ag 17 [0,0,0,0,0,0] (gdA (zd H47)) r (Lb 1 kk3 r)<|Ag 18 [0,0,0,0,0,0] (gdA (zd H47)) r (Y.lss r r)<|Ay 19 [0,0,0,0,0,0] r (Pt H47 r)<|Az<|Bg () [0,0,0,0,0,0]
   exact Ax [8,9,10,11,12,13,14,15,16,17,18] [0,0,0,0,0,0] (zt H47) r r<|Ay 19 [0,0,0,0,0,0] r (Pf H47 r)<|Az<|Bg () [0,0,0,0,0,0]
  exact Ne<|Wc r (fun H50=>Sn<|Wb<|Rg<|Qs 3 r<|Nl<|Bn<|Lg () [0,0,0,0,0,0]) fun H50=>Wx<|Tx<|Ex<|Be<|Jg () [0,0,0,0,0,0]
 refine Ne<|Sq<|Wi fun R59 H60=>Jw Value [0,3,4] [1,1,1,1] (fun _=>[]) (fun X=>[.box U5 39 [strV s.Secret,strV R38.1.Master,Y40,iv R38.1.Wiped,iv R25.1.Size,X31.2,X,U3,U4,iv s.Boot],.own X (lc R59)]) r1 r1 (?_) fun X63=>?_
 ·refine Dr [1,1,1,1] r hMix<|Aq [0,1,2] [1,1,1,1] r<|Ay 3 [1,1,1,1] r (Fb zdk r)<|Aq [5] [1,1,1,1] r<|Ay 6 [1,1,1,1] r (Fb zcU r)<|Ay 7 [1,1,1,1] r (Lb 0 kk3 r)<|Ay 8 [1,1,1,1] r (Bd kp95 kz95 (Pc r (Cp r)<|Pz) r)<|A2 4 9 (?_)<|?_
  ·refine Xy [1,1,1,1] r (Lb 0 kk36 r)<|A1 9<|Xe [2,2,2,2] r (Bk [ic c.Tenant,ic 0,ic 0,.raw (.slice none 0 0),.raw (.slice none 0 0),ic 0,.raw (.slice none 0 0)] ke36 kz95 r (Qc (Cp r)<|Qz)) fun B68=>Na 4<|Na 1<|Na 1<|Ka (Ha [3,2,1,0] ([(⟨c.Tenant,0,0,⟨[],[],0,[]⟩⟩:STen)]:List STen) r (Ck (Ck (Ck (Cf (Cf (Ck (Cf Cz))))))))<|A1 10<|Xe [2,2,2,2] r (Cl [6,0] zfR H60 r r1) fun Y72=>?_
   exact Aq [11] [2,2,2,2] r<|Ay 12 [2,2,2,2] r (Fb zdk r)<|A1 13<|Xu [2,2,2,2] r (Sb 1 kk36 r (Co 0) r)<|Az<|Bg Y72 [2,2,2,2,1,0]
  refine Xe [2,2,2,2] r (Bk [ic c.Tenant,ic 0,ic 0,.raw (.slice none 0 0),.raw (.slice none 0 0),ic 0,.raw (.slice none 0 0)] ke36 kz95 r (Qc (Cp r)<|Qz)) fun B64=>Na 4<|Na 1<|Na 1<|Ka (Ha [3,2,1,0] ([(⟨c.Tenant,0,0,⟨[],[],0,[]⟩⟩:STen)]:List STen) r (Ck (Ck (Ck (Cf (Cf (Ck (Cf Cz))))))))<|A1 4<|Xy [2,2,2,2] r (Lb 1 kk36 r)<|A1 10<|Xe [2,2,2,2] r (Cl [6,0] zfR H60 r r1) fun Y68=>?_
  exact Aq [11] [2,2,2,2] r<|Ay 12 [2,2,2,2] r (Fb zdk r)<|A1 13<|Xu [2,2,2,2] r (Sb 1 kk36 r (Co 0) r)<|Az<|Bg Y68 [2,2,2,2,1,0]
 exact Ne<|Sq<|Dr [0,1,1,1,1] r hMix<|Aq [0,1] [0,1,1,1,1] r<|Ay 2 [0,1,1,1,1] r (Fb zov r)<|Ay 3 [0,1,1,1,1] r (Lb 3 kk9 r)<|Ay 4 [0,1,1,1,1] r (Fb zcU r)<|Ay 5 [0,1,1,1,1] r (Lb 0 kk3 r)<|Ai fun R68 H69=>A1 6<|Xe [0,1,1,1,1] r (Cl [] zfF H69 r r1) fun _=>Ay 7 [0,1,1,1,1] r (Bd kp60 kz60 (Pc r (Cp r)<|Pc r (Cp r)<|Pz) r)<|A1 8<|Xu [0,1,1,1,1] r (Sb 1 kk60 r (Cp r) r)<|Az<|Ne<|Wr<|Ni 2<|Rf ((.slice none 0 0),Y40,X31.2,X63) [5,3,3,3,0] (RV.cell 2 r r kk60 r Rz)
noncomputable def zdh (s:Store) (c:Call):Option (Reply × Store):=
 (zd7 c.N).bind fun R3=>
 if !R3 then ((zbq 1).bind fun R7=>
 some (R7,s))
 else ((zb3 s.Shares c.Tenant c.N).bind fun R10=>
 if !R10.2 then ((zbq 6).bind fun R20=>
 some (R20,s))
 else (some ((⟨0,0,[],[]⟩:Reply),(⟨s.Secret,s.Keys,R10.1,s.Tens,s.Rows,s.Hist,s.Boot⟩:Store))))
theorem zjZ {s:Store} {c:Call} {U0 U1 U2 U3 U4 U6:Value} {U5:Nat} :Cn Tryz.prog 51 [pt U5,.agg #[iv c.Kind,strV c.Token,iv c.Tenant,iv c.N,strV c.Key,strV c.To,U6]] [.box U5 39 [strV s.Secret,strV s.Keys.Master,U0,iv s.Keys.Wiped,iv s.Shares.Size,U1,U2,U3,U4,iv s.Boot],.own U1 (lc s.Shares.List)] [(U6,lc c.Ops)] (zdh s c) (fun r (X:Value × Value)=>.agg #[iv r.1.Code,iv r.1.N,strV r.1.Text,X.1]) fun r X=>[.box U5 39 [strV r.2.Secret,strV r.2.Keys.Master,U0,iv r.2.Keys.Wiped,iv r.2.Shares.Size,X.2,U2,U3,U4,iv r.2.Boot],.own X.2 (lc r.2.Shares.List),.own X.1 (lc r.1.List)]:=by
 unfold zdh
 refine Ci Tryz.func51 r r ?_
 rintro w S ⟨Z0,-⟩
 refine Sr<|Fo (Bx r (Ca ⟨Op',Op',Op',Op',Op',Op',Ob Z0,⟨⟩⟩)) fun B1=>Fo (Al kz60 r) fun B2=>Nx<|Sq<|Sr<|Yo (Fb zdI r)<|Yo (Lb 1 kk3 r)<|Bi fun R3 H4=>Fo (Cl [] ziz H4 r r1) fun _=>Qs 1 r<|Nx<|Wc r (fun H6=>Sr<|Bi fun R7 H8=>Fo (Cl [] zbc H8 r r1) fun Y9=>Fu (Sb 1 kk60 r (Ca ⟨Op',Op',Op',Ow' 0,⟨⟩⟩) r)<|Nx<|Wr<|Tr<|Rf (Y9,U1) [3,3,0] (RV.cell 1 r r kk60 r Rz)) fun H6=>Sn<|Sq<|Wi fun R10 H11=>Jw (Nat × Value) [0,4] [2,0,1] (fun X=>[(5,pt X.1),(6,.bool R10.2)]) (fun X=>[.box X.1 35 [iv R10.1.Size,X.2],.own X.2 (lc R10.1.List)]) r1 r1 (?_) fun X16=>?_
 ·refine Dr [0,0,0,0] r hMix<|Aq [0,1] [0,0,0,0] r<|Ay 2 [0,0,0,0] r (Fb zhD r)<|Ay 3 [0,0,0,0] r (Lb 2 kk35 r)<|Ay 4 [0,0,0,0] r (Fb zcU r)<|Ay 5 [0,0,0,0] r (Lb 1 kk3 r)<|Ay 6 [0,0,0,0] r (Fb zdI r)<|Ay 7 [0,0,0,0] r (Lb 1 kk3 r)<|A2 8 12 (Xe [1,1,1,1] r (Cl [] zeA H11 r r1 ⟨(Oc 3 r),⟨⟩⟩) fun Y17=>Aq [9,10,11] [1,1,1,1] r<|A1 12<|Xe [2,2,2,2] r (Al kz35 r) fun B19=>A1 13<|Xu [2,2,2,2] r (Sb 0 kk35 r (Ca ⟨Op',Ow' 1,⟨⟩⟩) r)<|Aq [14] [2,2,2,2] r<|Az<|Bg (B19,Y17) [4,2,3,0,0])<|Xe [1,1,1,1] r (Al kz35 r) fun B18=>A1 8<|Xe [2,2,2,2] r (Cl [] zeA H11 r r1 ⟨(Oc 4 r),⟨⟩⟩) fun Y19=>?_
  exact Aq [9,10,11] [2,2,2,2] r<|A1 13<|Xu [2,2,2,2] r (Sb 1 kk35 r (Ca ⟨Op',Ow' 0,⟨⟩⟩) r)<|Aq [14] [2,2,2,2] r<|Az<|Bg (B18,Y19) [4,2,3,1,0]
 exact Ne<|Sq<|Sr<|Qs 2 r<|Nx<|Wc r (fun H19=>Sr<|Bi fun R20 H21=>Fo (Cl [] zbc H21 r r1) fun Y22=>Fu (Sb 2 kk60 r (Ca ⟨Op',Op',Op',Ow' 0,⟨⟩⟩) r)<|Nx<|Wr<|Tr<|Rf (Y22,U1) [1,2,0] (RV.cell 2 r r kk60 r Rz)) fun H19=>Sn<|Sr<|Qs 1 r<|Yo (Lb 3 kk35 r)<|Qs 1 r<|Yo (Fb zhD r)<|Fu (Sb 0 kk35 r (Ca ⟨Op',Ow' 4,⟨⟩⟩) r)<|Nx<|Sr<|Yo (Bd kp60 kz60 (Pz) r)<|Fu (Sb 1 kk60 r (Cp r) r)<|Nx<|Wr<|Ni 2<|Rf ((.slice none 0 0),X16.2) [1,4,0] (RV.cell 2 r r kk60 r Rz)
noncomputable def zdt (s:List KeySlot) (i:Int) (j:Int):Option (List KeySlot):=
 (piece s i j).bind fun E1=>
 if decide (i=j) then (some s)
 else ((piece s 0 i).bind fun E5=>
 (piece s j (s.length:Int)).bind fun E7=>
 some (E5++E7))
theorem ziM {s:List KeySlot} {i:Int} {j:Int} {U0:Value} :Cn Tryz.prog 129 [U0,iv i,iv j] [.own U0 (lc s)] [] (zdt s i j) (fun _ (X:Value)=>X) fun r X=>[.own X (lc r)]:=by
 unfold zdt
 refine Ci Tryz.func129 r r ?_
 rintro w S -
 refine Sr<|Qs 1 r<|Nx<|Sr<|Qs 4 r<|Yo (Ln ke30 (Oc 0 r) r)<|Bi fun E1 H2=>TO.fact (Can.cap (Can.own 0 r)) fun H3=>Yo (Y.subs3 H2 ke30 (Oc 0 r) r r r r)<|Nx<|Sq<|Sr<|Qs 3 r<|Nx<|Wc r (fun H4=>Sr<|Qs 2 r<|Nx<|Wr<|Tr<|Re U0 [0]) fun H4=>Sn<|Sr<|Qs 1 r<|Yo (Ln ke30 (Oc 0 r) r)<|Qs 1 r<|Nx<|Sq<|Wi fun E5 H6=>Wi fun E7 H8=>Jw Unit [7] [] (fun _=>[(0,delV U0 (E5++E7).length)]) (fun _=>[.own (delV U0 (E5++E7).length) (lc (E5++E7))]) r1 r1 (?_) fun X10=>?_
 ·exact Dr [] r hMix<|Aq [0,1,3,4] [] r<|A2 2 5 (Xy [] r (Y.subs H6 ke30 (Oc 0 r) r r ⟨_,r⟩)<|A1 5<|Xy [] r (Y.subs H8 ke30 (Oc 0 r) r ⟨_,r⟩ r)<|A1 6<|Xe [] r (Ef.del (α:=KeySlot) (is':=[]) [0] H2 H6 H8 ke30 r r r r) fun _=>Aq [7] [] r<|Az<|Bg () [0])<|Xy [] r (Y.subs H8 ke30 (Oc 0 r) r ⟨_,r⟩ r)<|A1 2<|Xy [] r (Y.subs H6 ke30 (Oc 0 r) r r ⟨_,r⟩)<|A1 6<|Xe [] r (Ef.del (α:=KeySlot) (is':=[]) [0] H2 H6 H8 ke30 r r r r) fun _=>Aq [7] [] r<|Az<|Bg () [0]
 exact Ne<|Sr<|Qs 2 r<|Yo (Ln ke30 (Oc 0 r) r)<|Qs 1 r<|Yo (Y.tail (hi:=s.length) H3 (zgA H2 H6 H8) ke30 r r r)<|Fu (Ef.clearTail (k:=0) H3 (zgA H2 H6 H8) ke30 kz135 r r r r)<|Nx<|Sr<|Qs 2 r<|Nx<|Wr<|Re (delV U0 (E5++E7).length) [0]
noncomputable def zeJ (d:KeyDev) (tenant:Int):Option (KeyDev × Bool):=
 (zcu d).bind fun R3=>
 if !R3 then (some ((⟨[],[],0⟩:KeyDev),false))
 else ((zcI d).bind fun R8=>
 (zdN d tenant).bind fun R12=>
 (if decide (R12<0) then (some true)
 else (some (decide (d.Wiped=1000000)))).bind (fun (T15:Bool)=>
 if T15=true then (some (R8,false))
 else ((zdt R8.Slots R12 (IntKind.i64.wrap (R12+1))).bind fun R19=>
 some ((⟨R8.Master,R19,IntKind.i64.wrap (R8.Wiped+1)⟩:KeyDev),true))))
theorem zmE {d:KeyDev} {tenant:Int} {U0:Value} :Cn Tryz.prog 90 [.agg #[strV d.Master,U0,iv d.Wiped],iv tenant] [] [(U0,lc d.Slots)] (zeJ d tenant) (fun r (X:Value)=>.tuple #[.agg #[strV r.1.Master,X,iv r.1.Wiped],.bool r.2]) fun r X=>[.own X (lc r.1.Slots)]:=by
 unfold zeJ
 refine Ci Tryz.func90 r r ?_
 rintro w S ⟨Z0,-⟩
 refine Sr<|Fo (Bx r (Ca ⟨Op',Ob Z0,Op',⟨⟩⟩)) fun B1=>Fo (Al kz32 r) fun B2=>Qs 1 r<|Nx<|Sq<|Sr<|Yo (Lb 1 kk32 r)<|Bi fun R3 H4=>Fo (Cl [] zf0 H4 r r1 ⟨(Bc Z0),⟨⟩⟩) fun _=>Qs 1 r<|Nx<|Wc r (fun H6=>Sr<|Yo (Bd kp32 kz32 (Pz) r)<|Fu (Sb 0 kk32 r (Cp r) r)<|Qs 1 r<|Nx<|Wr<|Tr<|Ni 2<|Rf (.slice none 0 0) [0] (RV.cell 1 r r kk32 r (Rt r Rz))) fun H6=>Sn<|Sr<|Yo (Lb 1 kk32 r)<|Bi fun R8 H9=>Fo (Cl [] zeC H9 r r1 ⟨(Bc Z0),⟨⟩⟩) fun Y10=>Fo (Al kz32 r) fun B11=>Fu (Sb 0 kk32 r (Ca ⟨Op',Ow' 1,Op',⟨⟩⟩) r)<|Nx<|Sr<|Yo (Lb 3 kk32 r)<|Qs 1 r<|Bi fun R12 H13=>?_
 refine Fo (Cl [] zgO H13 r r1 ⟨(Bc Z0),⟨⟩⟩) fun _=>Qs 1 r<|Nx<|Sq<|Sq<|Jb Unit [4,6,7] [2,0,0] (fun T _=>[(23,.bool T)]) (fun _ _=>[]) r2 r2 (Rg<|Qs 3 r<|It (fun H17=>Of 3 (zl H17) r r<|Yo (Pt H17 r)<|Nl<|Bg () [2,0,0]) fun H17=>Yg (gdA (za H17)) (Fb zka r)<|Yg (gdA (za H17)) (Lb 3 kk3 r)<|Qg 1 (za H17) r r<|Yo (Pf H17 r)<|Nl<|Bg () [2,0,0]) fun T15 X16=>Ne<|Wc r (fun H18=>Sr<|Yo (Lb 1 kk32 r)<|Fu (Sb 0 kk32 r (Ca ⟨Op',Ow' 2,Op',⟨⟩⟩) r)<|Qs 1 r<|Nx<|Wr<|Tr<|Rf Y10 [2] (RV.cell 0 r r kk32 r (Rt r Rz))) fun H18=>?_
 exact Sn<|Sr<|Yo (Fb zea r)<|Yo (Lb 1 kk30 r)<|Qs 3 r<|Bi fun R19 H20=>Fo (Cl [2] ziM H20 r r1) fun Y21=>Yo (Fb zea r)<|Fu (Sb 2 kk30 r (Co 0) r)<|Nx<|Sr<|Yo (Fb zka r)<|Yo (Lb 2 kk3 r)<|Qs 1 r<|Yo (Fb zka r)<|Fu (Sb 2 kk3 r (Cp r) r)<|Nx<|Sr<|Yo (Lb 2 kk32 r)<|Fu (Sb 1 kk32 r (Ca ⟨Op',Ow' 0,Op',⟨⟩⟩) r)<|Qs 1 r<|Nx<|Wr<|Rf Y21 [0] (RV.cell 1 r r kk32 r (Rt r Rz))
noncomputable def zcl (s:List Share) (i:Int) (j:Int):Option (List Share):=
 (piece s i j).bind fun E1=>
 if decide (i=j) then (some s)
 else ((piece s 0 i).bind fun E5=>
 (piece s j (s.length:Int)).bind fun E7=>
 some (E5++E7))
theorem ziK {s:List Share} {i:Int} {j:Int} {U0:Value} :Cn Tryz.prog 130 [U0,iv i,iv j] [.own U0 (lc s)] [] (zcl s i j) (fun _ (X:Value)=>X) fun r X=>[.own X (lc r)]:=by
 unfold zcl
 refine Ci Tryz.func130 r r ?_
 rintro w S -
 refine Sr<|Qs 1 r<|Nx<|Sr<|Qs 4 r<|Yo (Ln ke33 (Oc 0 r) r)<|Bi fun E1 H2=>TO.fact (Can.cap (Can.own 0 r)) fun H3=>Yo (Y.subs3 H2 ke33 (Oc 0 r) r r r r)<|Nx<|Sq<|Sr<|Qs 3 r<|Nx<|Wc r (fun H4=>Sr<|Qs 2 r<|Nx<|Wr<|Tr<|Re U0 [0]) fun H4=>Sn<|Sr<|Qs 1 r<|Yo (Ln ke33 (Oc 0 r) r)<|Qs 1 r<|Nx<|Sq<|Wi fun E5 H6=>Wi fun E7 H8=>Jw Unit [7] [] (fun _=>[(0,delV U0 (E5++E7).length)]) (fun _=>[.own (delV U0 (E5++E7).length) (lc (E5++E7))]) r1 r1 (?_) fun X10=>?_
 ·exact Dr [] r hMix<|Aq [0,1,3,4] [] r<|A2 2 5 (Xy [] r (Y.subs H6 ke33 (Oc 0 r) r r ⟨_,r⟩)<|A1 5<|Xy [] r (Y.subs H8 ke33 (Oc 0 r) r ⟨_,r⟩ r)<|A1 6<|Xe [] r (Ef.del (α:=Share) (is':=[]) [0] H2 H6 H8 ke33 r r r r) fun _=>Aq [7] [] r<|Az<|Bg () [0])<|Xy [] r (Y.subs H8 ke33 (Oc 0 r) r ⟨_,r⟩ r)<|A1 2<|Xy [] r (Y.subs H6 ke33 (Oc 0 r) r r ⟨_,r⟩)<|A1 6<|Xe [] r (Ef.del (α:=Share) (is':=[]) [0] H2 H6 H8 ke33 r r r r) fun _=>Aq [7] [] r<|Az<|Bg () [0]
 exact Ne<|Sr<|Qs 2 r<|Yo (Ln ke33 (Oc 0 r) r)<|Qs 1 r<|Yo (Y.tail (hi:=s.length) H3 (zgA H2 H6 H8) ke33 r r r)<|Fu (Ef.clearTail (k:=0) H3 (zgA H2 H6 H8) ke33 kz129 r r r r)<|Nx<|Sr<|Qs 2 r<|Nx<|Wr<|Re (delV U0 (E5++E7).length) [0]
noncomputable def zdZ (s:Shares) (tenant:Int):Option (Shares × Bool):=
 (zcH s).bind fun R3=>
 if !R3 then (some ((⟨0,[]⟩:Shares),false))
 else ((zcG s).bind fun R8=>
 (zdi s tenant).bind fun R12=>
 if !R12.2 then (some (R8,false))
 else ((zcl R8.List R12.1 (IntKind.i64.wrap (R12.1+1))).bind fun R16=>
 some ((⟨R8.Size,R16⟩:Shares),true)))
theorem zln {s:Shares} {tenant:Int} {U0:Value} :Cn Tryz.prog 91 [.agg #[iv s.Size,U0],iv tenant] [] [(U0,lc s.List)] (zdZ s tenant) (fun r (X:Value)=>.tuple #[.agg #[iv r.1.Size,X],.bool r.2]) fun r X=>[.own X (lc r.1.List)]:=by
 unfold zdZ
 refine Ci Tryz.func91 r r ?_
 rintro w S ⟨Z0,-⟩
 refine Sr<|Fo (Bx r (Ca ⟨Op',Ob Z0,⟨⟩⟩)) fun B1=>Fo (Al kz35 r) fun B2=>Qs 1 r<|Nx<|Sq<|Sr<|Yo (Lb 1 kk35 r)<|Bi fun R3 H4=>Fo (Cl [] zf3 H4 r r1 ⟨(Bc Z0),⟨⟩⟩) fun _=>Qs 1 r<|Nx<|Wc r (fun H6=>Sr<|Yo (Bd kp35 kz35 (Pz) r)<|Fu (Sb 0 kk35 r (Cp r) r)<|Qs 1 r<|Nx<|Wr<|Tr<|Ni 2<|Rf (.slice none 0 0) [0] (RV.cell 1 r r kk35 r (Rt r Rz))) fun H6=>Sn<|Sr<|Yo (Lb 1 kk35 r)<|Bi fun R8 H9=>Fo (Cl [] zfq H9 r r1 ⟨(Bc Z0),⟨⟩⟩) fun Y10=>Fo (Al kz35 r) fun B11=>Fu (Sb 0 kk35 r (Ca ⟨Op',Ow' 1,⟨⟩⟩) r)<|Nx<|Sr<|Yo (Lb 3 kk35 r)<|Qs 1 r<|Bi fun R12 H13=>?_
 exact Fo (Cl [] ziB H13 r r1 ⟨(Bc Z0),⟨⟩⟩) fun _=>Qs 5 r<|Nx<|Sq<|Sr<|Qs 2 r<|Nx<|Wc r (fun H15=>Sr<|Yo (Lb 0 kk35 r)<|Fu (Sb 2 kk35 r (Ca ⟨Op',Ow' 1,⟨⟩⟩) r)<|Qs 1 r<|Nx<|Wr<|Tr<|Rf Y10 [1] (RV.cell 2 r r kk35 r (Rt r Rz))) fun H15=>Sn<|Sr<|Yo (Fb zcV r)<|Yo (Lb 0 kk33 r)<|Qs 3 r<|Bi fun R16 H17=>Fo (Cl [1] ziK H17 r r1) fun Y18=>Yo (Fb zcV r)<|Fu (Sb 1 kk33 r (Co 0) r)<|Nx<|Sr<|Yo (Lb 1 kk35 r)<|Fu (Sb 2 kk35 r (Ca ⟨Op',Ow' 0,⟨⟩⟩) r)<|Qs 1 r<|Nx<|Wr<|Rf Y18 [0] (RV.cell 2 r r kk35 r (Rt r Rz))
noncomputable def zbF (r_:LogRow) (c0_:Int):Option Bool:=
 some (decide (r_.Tenant=c0_))
theorem zfp {r_:LogRow} {c0_:Int} {U0:Nat} :Cn Tryz.prog 132 [.agg #[iv r_.Tenant,iv r_.Boot,iv r_.Seq,strV r_.Text,.bool r_.Synced],pt U0] [.box U0 3 [iv c0_]] [] (zbF r_ c0_) (fun r (_:Unit)=>.bool r) fun _ _=>[.box U0 3 [iv c0_]]:=by
 unfold zbF
 refine Ci Tryz.func132 r r ?_
 rintro w S -
 exact Sr<|Fo (Bx r (Cp r)) fun B1=>Qs 1 r<|Nx<|Sr<|Yo (Fb zpO r)<|Yo (Lb 0 kk3 r)<|Yo (Lb 1 kk3 r)<|Qs 2 r<|Nx<|Wr<|Re () [1]
noncomputable def zD (s:List LogRow) (f_c0:Int):Option Int:=
 bindC (loopO (fun (S1:Int)=>if decide (S1<(s.length:Int)) then ((idx s S1).bind fun E6=>
 (zbF E6 f_c0).bind fun R8=>
 if R8=true then (some (.done (.done S1)))
 else (some (.go (IntKind.i64.wrap (S1+1)))))
 else (some (.done (.go ()))))
 (0:Int))
 (fun (T3:Unit)=>some (-1:Int))
theorem zdb {s:List LogRow} {f_c0:Int} {U0:Value} {U1:Nat} :Cn Tryz.prog 162 [U0,.func (.func 132) #[] #[pt U1]] [.box U1 3 [iv f_c0]] [(U0,lc s)] (zD s f_c0) (fun r (_:Unit)=>iv r) fun _ _=>[.box U1 3 [iv f_c0]]:=by
 unfold zD
 refine Ci Tryz.func162 r r ?_
 rintro w S ⟨Z0,-⟩
 refine Sr<|Qs 1 r<|Nx<|Sq<|Sr<|Qs 1 r<|Yo (Ln ke37 (Bc Z0) r)<|Qs 1 r<|Nx<|Ju [] (fun _=>[]) r1 (?_) fun T3=>?_
 ·refine Wb<|Lu [0,1,7] (fun T=>[(8,iv T)]) r1 fun S1=>Sr<|Qs 1 r<|Nx<|Sq<|Wc r (fun H5=>?_) fun H5=>?_
  ·exact Sn<|Sq<|Wb<|Sr<|Qs 2 r<|Nx<|Sr<|Qs 3 r<|Bi fun E6 H7=>Yo (Ix ke37 (Bc Z0) H7 r)<|Yo (Le kk106 (Bc Z0) H7 r)<|Bi fun R8 H9=>Fo (Cw [0] zfp H9 r r r1) fun _=>Nx<|Wc r (fun H11=>Sr<|Qs 2 r<|Nx<|Wr<|Br<|Tr<|Er<|Br<|Jd<|Tr<|Re () [0]) fun H11=>Sk<|Bn<|Ne<|Rg<|Qs 2 r<|Nl<|Lg () [0]
  exact Wx<|Tx<|Ex<|Be<|Jg () [0]
 exact Ne<|Sr<|Qs 1 r<|Nx<|Wr<|Re () [0]
noncomputable def zC (s:List LogRow) (del_c0:Int):Option (List LogRow):=
 (zD s del_c0).bind fun R1=>
 if decide (R1=(-1:Int)) then (some s)
 else (bindC (loopO (fun (S5:Int × Int × List LogRow)=>if decide (S5.2.1<(S5.2.2.length:Int)) then ((idx S5.2.2 S5.2.1).bind fun E10=>
 (zbF E10 del_c0).bind fun R13=>
 bindC (if !R13 then ((idx S5.2.2 S5.1).bind fun E19=>
 some (.go (IntKind.i64.wrap (S5.1+1),(S5.2.2.set S5.1.toNat E10))))
 else (some (.go (S5.1,S5.2.2))))
 (fun (T16:Int × List LogRow)=>some (.go (T16.1,IntKind.i64.wrap (S5.2.1+1),T16.2))))
 else (some (.done (.go (S5.1,S5.2.2)))))
 (R1,IntKind.i64.wrap (R1+1),s))
 (fun (T7:Int × List LogRow)=>(piece T7.2 T7.1 (T7.2.length:Int)).bind fun E21=>
 (piece T7.2 0 T7.1).bind fun E23=>
 some E23))
theorem zc1 {s:List LogRow} {del_c0:Int} {U0:Value} {U1:Nat} :Cn Tryz.prog 131 [U0,.func (.func 132) #[] #[pt U1]] [.own U0 (lc s),.box U1 3 [iv del_c0]] [] (zC s del_c0) (fun _ (X:Value)=>X) fun r X=>[.box U1 3 [iv del_c0],.own X (lc r)]:=by
 unfold zC
 refine Ci Tryz.func131 r r ?_
 rintro w S -
 refine Sr<|Qs 1 r<|Nx<|Sr<|Qs 2 r<|Bi fun R1 H2=>Fo (Cl [1] zdb H2 r r1 ⟨(Oc 0 r),⟨⟩⟩) fun _=>Qs 1 r<|Nx<|Sq<|Sr<|Qs 2 r<|Nx<|Wc r (fun H4=>Sr<|Qs 2 r<|Nx<|Wr<|Tr<|Re U0 [0,0]) fun H4=>Sn<|Sq<|Sr<|Qs 3 r<|Nx<|Jn Unit [0] [0] (fun T _=>[(5,iv T.1)]) (fun T _=>[.own U0 (lc T.2)]) r2 r2 (?_) fun T7 X8=>?_
 ·refine Wb<|Lp Unit [0,1] [0] (fun T _=>[(5,iv T.1),(6,iv T.2.1)]) (fun T _=>[.own U0 (lc T.2.2)]) () [0,0] r2 r2 fun S5 X6=>Sq<|Sr<|Qs 2 r<|Yo (Ln ke37 (Oc 1 r) r)<|Qs 1 r<|Nx<|Wc r (fun H9=>?_) fun H9=>?_
  ·refine Sn<|Sq<|Wb<|Sr<|Qs 2 r<|Bi fun E10 H11=>Yo (Ix ke37 (Oc 1 r) H11 r)<|Yo (Le kk106 (Oc 1 r) H11 r)<|Fo (Al kz106 r) fun B12=>Fu (Sb 0 kk106 r (Cp r) r)<|Nx<|Sr<|Qs 1 r<|Yo (Lb 0 kk106 r)<|Bi fun R13 H14=>Fo (Cw [1] zfp H14 r r r1) fun _=>Qs 1 r<|Nx<|Jn Unit [0,1,6] [0] (fun T _=>[(5,iv T.1)]) (fun T _=>[.own U0 (lc T.2)]) r2 r2 (Wc r (fun H18=>Sr<|Qs 2 r<|Yo (Lb 1 kk106 r)<|Bi fun E19 H20=>Yo (Ix ke37 (Oc 2 r) H20 r)<|Fu (Se E10 2 kk106 H20 r (Cp r) r)<|Nx<|Rg<|Qs 3 r<|Nl<|Jg () [0,1]) fun H18=>Sk<|Jg () [0,1]) fun T16 X17=>?_
   exact Bn<|Ne<|Rg<|Qs 3 r<|Nl<|Lg () [0,0]
  exact Wx<|Tx<|Ex<|Be<|Jg () [0,0]
 exact Ne<|Sr<|Qs 2 r<|Bi fun E21 H22=>Yo (Y.subs H22 ke37 (Oc 1 r) r ⟨_,r⟩ r)<|Bi fun E23 H24=>Fu (Ef.clearView (i:=1) (is':=[.box U1 3 [iv del_c0],.own (subV U0 5 (0:Int).toNat (T7.1.toNat - (0:Int).toNat)) (lc E23)]) H24 ke37 kz106 r r r r r r)<|Nx<|Sr<|Qs 2 r<|Yo (Y.sub_again (i:=1) r (zbJ H24).2.1 ke37 r r)<|Qs 1 r<|Nx<|Wr<|Re (subV U0 5 (0:Int).toNat (T7.1.toNat - (0:Int).toNat)) [0,0]
noncomputable def zbx (s:Store) (id:Int):Option Store:=
 (zC s.Rows id).bind fun R2=>
 some (⟨s.Secret,s.Keys,s.Shares,s.Tens,R2,s.Hist,s.Boot⟩:Store)
theorem zd1 {s:Store} {id:Int} {U0 U1 U2 U3 U4:Value} {U5:Nat} :Cn Tryz.prog 94 [pt U5,iv id] [.box U5 39 [strV s.Secret,strV s.Keys.Master,U0,iv s.Keys.Wiped,iv s.Shares.Size,U1,U2,U3,U4,iv s.Boot],.own U3 (lc s.Rows)] [] (zbx s id) (fun _ (_:Value)=>.tuple #[]) fun r X=>[.box U5 39 [strV r.Secret,strV r.Keys.Master,U0,iv r.Keys.Wiped,iv r.Shares.Size,U1,U2,X,U4,iv r.Boot],.own X (lc r.Rows)]:=by
 unfold zbx
 refine Ci Tryz.func94 r r ?_
 rintro w S -
 exact Sr<|Fo (Bx r (Cp r)) fun B1=>Nx<|Rg<|Qs 3 r<|Yo (Fb zfv r)<|Yo (Lb 1 kk37 r)<|Yo (Y.makeFunc r)<|Bi fun R2 H3=>Fo (Cl [2,0] zc1 H3 r r1) fun Y4=>Qs 1 r<|Yo (Fb zfv r)<|Fu (Sb 2 kk37 r (Co 1) r)<|Nl<|Re Y4 [2,1]
noncomputable def zbY (t:STen) (c0_:Int):Option Bool:=
 some (decide (t.Id=c0_))
theorem zfI {t:STen} {c0_:Int} {U0 U1 U2:Value} {U3:Nat} :Cn Tryz.prog 93 [.agg #[iv t.Id,iv t.Epoch,iv t.Base,U0,U1,iv t.Eng.Seq,U2],pt U3] [.box U3 3 [iv c0_]] [(U0,lc t.Eng.Mem),(U1,lc t.Eng.Tables),(U2,lc t.Eng.Snaps)] (zbY t c0_) (fun r (_:Unit)=>.bool r) fun _ _=>[.box U3 3 [iv c0_]]:=by
 unfold zbY
 refine Ci Tryz.func93 r r ?_
 rintro w S ⟨Z0,Z1,Z2,-⟩
 exact Sr<|Fo (Bx r (Ca ⟨Op',Op',Op',Ob Z0,Ob Z1,Op',Ob Z2,⟨⟩⟩)) fun B1=>Qs 1 r<|Nx<|Sr<|Yo (Fb zeS r)<|Yo (Lb 0 kk3 r)<|Yo (Lb 1 kk3 r)<|Qs 2 r<|Nx<|Wr<|Re () [1]
noncomputable def zK (s:List STen) (f_c0:Int):Option Int:=
 bindC (loopO (fun (S1:Int)=>if decide (S1<(s.length:Int)) then ((idx s S1).bind fun E6=>
 (zbY E6 f_c0).bind fun R11=>
 if R11=true then (some (.done (.done S1)))
 else (some (.go (IntKind.i64.wrap (S1+1)))))
 else (some (.done (.go ()))))
 (0:Int))
 (fun (T3:Unit)=>some (-1:Int))
theorem zdu {s:List STen} {f_c0:Int} {U0:Value} {U1:Nat} :Cn Tryz.prog 74 [U0,.func (.func 93) #[] #[pt U1]] [.box U1 3 [iv f_c0]] [(U0,lc s)] (zK s f_c0) (fun r (_:Unit)=>iv r) fun _ _=>[.box U1 3 [iv f_c0]]:=by
 unfold zK
 refine Ci Tryz.func74 r r ?_
 rintro w S ⟨Z0,-⟩
 refine Sr<|Qs 1 r<|Nx<|Sq<|Sr<|Qs 1 r<|Yo (Ln ke36 (Bc Z0) r)<|Qs 1 r<|Nx<|Ju [] (fun _=>[]) r1 (?_) fun T3=>?_
 ·refine Wb<|Lu [0,1,7] (fun T=>[(8,iv T)]) r1 fun S1=>Sr<|Qs 1 r<|Nx<|Sq<|Wc r (fun H5=>?_) fun H5=>?_
  ·refine Sn<|Sq<|Wb<|Sr<|Qs 2 r<|Nx<|Sr<|Qs 3 r<|Bi fun E6 H7=>Yo (Ix ke36 (Bc Z0) H7 r)<|?_
   have Q8:Base w S (elv w U0 (S1.toNat*7+3)) (lc E6.Eng.Mem):=Base.el Z0 (zz H7).2.2 r r
   have Q9:Base w S (elv w U0 (S1.toNat*7+4)) (lc E6.Eng.Tables):=Base.el Z0 (zz H7).2.2 r r
   have Q10:Base w S (elv w U0 (S1.toNat*7+6)) (lc E6.Eng.Snaps):=Base.el Z0 (zz H7).2.2 r r
   exact Yo (Lz kk95 Z0 H7 r)<|Bi fun R11 H12=>Fo (Cw [0] zfI H12 r r r1 ⟨(Bc Q8),(Bc Q9),(Bc Q10),⟨⟩⟩) fun _=>Nx<|Wc r (fun H14=>Sr<|Qs 2 r<|Nx<|Wr<|Br<|Tr<|Er<|Br<|Jd<|Tr<|Re () [0]) fun H14=>Sk<|Bn<|Ne<|Rg<|Qs 2 r<|Nl<|Lg () [0]
  exact Wx<|Tx<|Ex<|Be<|Jg () [0]
 exact Ne<|Sr<|Qs 1 r<|Nx<|Wr<|Re () [0]
noncomputable def zG (s:List STen) (del_c0:Int):Option (List STen):=
 (zK s del_c0).bind fun R1=>
 if decide (R1=(-1:Int)) then (some s)
 else (bindC (loopO (fun (S5:Int × Int × List (Option STen))=>if decide (S5.2.1<(S5.2.2.length:Int)) then ((idx S5.2.2 S5.2.1).bind fun E10=>
 (E10).bind fun E13=>
 (zbY E13 del_c0).bind fun R17=>
 bindC (if !R17 then ((idx S5.2.2 S5.1).bind fun E23=>
 (idx (S5.2.2.set S5.2.1.toNat none) S5.1).bind fun E25=>
 some (.go (IntKind.i64.wrap (S5.1+1),((S5.2.2.set S5.2.1.toNat none).set S5.1.toNat (some E13)))))
 else (some (.go (S5.1,S5.2.2))))
 (fun (T20:Int × List (Option STen))=>some (.go (T20.1,IntKind.i64.wrap (S5.2.1+1),T20.2))))
 else (some (.done (.go (S5.1,S5.2.2)))))
 (R1,IntKind.i64.wrap (R1+1),(s.map some)))
 (fun (T7:Int × List (Option STen))=>(piece T7.2 T7.1 (T7.2.length:Int)).bind fun E28=>
 (piece T7.2 0 T7.1).bind fun E30=>
 (allO E30).bind fun E32=>
 some E32))
theorem zdn {s:List STen} {del_c0:Int} {U0:Value} {U1:Nat} :Cn Tryz.prog 92 [U0,.func (.func 93) #[] #[pt U1]] [.own U0 (lc s),.box U1 3 [iv del_c0]] [] (zG s del_c0) (fun _ (X:Value)=>X) fun r X=>[.box U1 3 [iv del_c0],.own X (lc r)]:=by
 unfold zG
 refine Ci Tryz.func92 r r ?_
 rintro w S -
 refine Sr<|Qs 1 r<|Nx<|Sr<|Qs 2 r<|Bi fun R1 H2=>Fo (Cl [1] zdu H2 r r1 ⟨(Oc 0 r),⟨⟩⟩) fun _=>Qs 1 r<|Nx<|Sq<|Sr<|Qs 2 r<|Nx<|Wc r (fun H4=>Sr<|Qs 2 r<|Nx<|Wr<|Tr<|Re U0 [0,0]) fun H4=>Sn<|Sq<|Sr<|Qs 3 r<|Nx<|Jn Unit [0] [0] (fun T _=>[(5,iv T.1)]) (fun T _=>[.own U0 (lc T.2)]) r2 r2 (?_) fun T7 X8=>?_
 ·refine Wb<|Kw (Hm [1] r)<|Lp Unit [0,1] [1] (fun T _=>[(5,iv T.1),(6,iv T.2.1)]) (fun T _=>[.own U0 (lc T.2.2)]) () [1,0] r2 r2 fun S5 X6=>Sq<|Sr<|Qs 2 r<|Yo (Ln ke36 (Oc 1 r) r)<|Qs 1 r<|Nx<|Wc r (fun H9=>?_) fun H9=>?_
  ·refine Sn<|Sq<|Wb<|Sr<|Qs 2 r<|Bi fun E10 H11=>Yo (Ix ke36 (Oc 1 r) H11 r)<|TO.fact (zgc (Can.own 1 r) H11) fun H12=>Bi fun E13 H14=>Gt (X:=Value × Value × Value) (Ho 3 [1] (zgq H11 H14) r r1) fun X15=>Yo (Lh 0 kk95 (zgq H11 H14) r)<|Fo (Al kz95 r) fun B16=>Fu (Sb 0 kk95 r (Ca ⟨Op',Op',Op',Ow' 2,Ow' 3,Op',Ow' 4,⟨⟩⟩) r)<|Nx<|Sr<|Qs 1 r<|Yo (Lb 0 kk95 r)<|Bi fun R17 H18=>Fo (Cw [5] zfI H18 r r r1 ⟨(Oc 2 r),(Oc 3 r),(Oc 4 r),⟨⟩⟩) fun _=>Qs 1 r<|Nx<|Jn Unit [0,1,6] [0] (fun T _=>[(5,iv T.1)]) (fun T _=>[.own U0 (lc T.2)]) r2 r2 (?_) fun T20 X21=>?_
   ·refine Wc r (fun H22=>?_) fun H22=>?_
    ·exact Sr<|Qs 2 r<|Yo (Lb 1 kk95 r)<|Bi fun E23 H24=>Yo (Ix ke36 (Oc 2 r) H24 r)<|Kt (Hc (α:=(Option STen)) [2] none (zgq H11 H14) r (Cd (Cd (Cd (Cd (Cd (Cd (Cd Cz))))))))<|Bi fun E25 H26=>Gt (X:=Value × Value × Value × Value × Value × Value × Value) (Hw (α:=(Option STen)) 7 [0] H26 r r1) fun X27=>Fu (Sh 0 [ic E13.Id,ic E13.Epoch,ic E13.Base,.raw X15.1,.raw X15.2.1,ic E13.Eng.Seq,.raw X15.2.2] kk95 H26 r (Ca ⟨Op',Op',Op',Ow' 3,Ow' 4,Op',Ow' 5,⟨⟩⟩) r)<|Nx<|Rg<|Qs 3 r<|Nl<|Ke (Hc [0,2,2,2] (some E13) H26 r (Ck (Ck (Ck (Cf (Cf (Ck (Cf Cz))))))))<|Jg () [1,0]
    exact Sk<|Ke (Hs [2,2,2,2] (zgq H11 H14) r (Ck (Ck (Ck (Cf (Cf (Ck (Cf Cz))))))))<|Jg () [1,0]
   exact Bn<|Ne<|Rg<|Qs 3 r<|Nl<|Lg () [0,0]
  exact Wx<|Tx<|Ex<|Be<|Jg () [0,0]
 exact Ne<|Sr<|Qs 2 r<|Bi fun E28 H29=>Yo (Y.subs H29 ke36 (Oc 1 r) r ⟨_,r⟩ r)<|Bi fun E30 H31=>Bi fun E32 H33=>Fu (Ef.clearView (i:=1) (is':=[.box U1 3 [iv del_c0],.own (subV U0 7 (0:Int).toNat (T7.1.toNat - (0:Int).toNat)) (lc E30)]) H31 ke36 kz95 r r r r r r)<|Kt (Hv [1] H33 r)<|Nx<|Sr<|Qs 2 r<|Yo (Y.sub_again (i:=0) r (zbJ H31).2.1 ke36 r r)<|Qs 1 r<|Nx<|Wr<|Re (subV U0 7 (0:Int).toNat (T7.1.toNat - (0:Int).toNat)) [1,0]
noncomputable def zcS (s:Store) (id:Int):Option (Reply × Store):=
 (if decide (s.Boot≥1000) then (some true)
 else (some (decide (s.Keys.Wiped≥1000000)))).bind (fun (T3:Bool)=>
 if T3=true then ((zbq 4).bind fun R7=>
 some (R7,s))
 else ((zeJ s.Keys id).bind fun R10=>
 (zdZ s.Shares id).bind fun R13=>
 (zG s.Tens id).bind fun R16=>
 (zbx (⟨s.Secret,R10.1,R13.1,R16,s.Rows,s.Hist,s.Boot⟩:Store) id).bind fun R19=>
 some ((⟨0,0,[],[]⟩:Reply),(⟨R19.Secret,⟨R19.Keys.Master,R10.1.Slots,R19.Keys.Wiped⟩,⟨R19.Shares.Size,R13.1.List⟩,R16,R19.Rows,s.Hist,IntKind.i64.wrap (R19.Boot+1)⟩:Store))))
theorem zjH {s:Store} {id:Int} {U0 U1 U2 U3 U4:Value} {U5:Nat} :Cn Tryz.prog 52 [pt U5,iv id] [.box U5 39 [strV s.Secret,strV s.Keys.Master,U0,iv s.Keys.Wiped,iv s.Shares.Size,U1,U2,U3,U4,iv s.Boot],.own U0 (lc s.Keys.Slots),.own U1 (lc s.Shares.List),.own U2 (lc s.Tens),.own U3 (lc s.Rows)] [] (zcS s id) (fun r (X:Value × Value × Value × Value × Value)=>.agg #[iv r.1.Code,iv r.1.N,strV r.1.Text,X.1]) fun r X=>[.box U5 39 [strV r.2.Secret,strV r.2.Keys.Master,X.2.1,iv r.2.Keys.Wiped,iv r.2.Shares.Size,X.2.2.1,X.2.2.2.1,X.2.2.2.2,U4,iv r.2.Boot],.own X.2.1 (lc r.2.Keys.Slots),.own X.2.2.1 (lc r.2.Shares.List),.own X.2.2.2.1 (lc r.2.Tens),.own X.2.2.2.2 (lc r.2.Rows),.own X.1 (lc r.1.List)]:=by
 unfold zcS
 refine Ci Tryz.func52 r r ?_
 rintro w S -
 refine Sr<|Fo (Bx r (Cp r)) fun B1=>Fo (Al kz60 r) fun B2=>Nx<|Sq<|Sq<|Jv [0,3,4] (fun T=>[(17,.bool T)]) r1 (?_) fun T3=>?_
 ·exact Rg<|Qs 2 r<|Yo (Fb zgC r)<|Yo (Lb 2 kk3 r)<|Qs 2 r<|It (fun H5=>Of 6 (zl H5) r r<|Yo (Pt H5 r)<|Nl<|Bg () [0,0,0,0,0,0,0]) fun H5=>Qg 2 (za H5) r r<|Yg (gdA (za H5)) (Fb zhC r)<|Yg (gdA (za H5)) (Fb zka r)<|Yg (gdA (za H5)) (Lb 2 kk3 r)<|Qg 1 (za H5) r r<|Yo (Pf H5 r)<|Nl<|Bg () [0,0,0,0,0,0,0]
 refine Ne<|Wc r (fun H6=>Sr<|Bi fun R7 H8=>Fo (Cl [] zbc H8 r r1) fun Y9=>Fu (Sb 1 kk60 r (Ca ⟨Op',Op',Op',Ow' 0,⟨⟩⟩) r)<|Nx<|Wr<|Tr<|Rf (Y9,U0,U1,U2,U3) [3,3,3,3,3,0] (RV.cell 1 r r kk60 r Rz)) fun H6=>Sn<|Sq<|Dr [0,0,1,1,1,1] r hMix<|Aq [0,1,2] [0,0,1,1,1,1] r<|Ay 3 [0,0,1,1,1,1] r (Fb zhC r)<|Ay 5 [0,0,1,1,1,1] r (Lb 1 kk3 r)<|A1 4<|Xy [0,0,1,1,1,1] r (Lb 2 kk32 r)<|Ai fun R10 H11=>A1 6<|Xe [1,1,2,2,2,2] r (Cl [] zmE H11 r r1 ⟨(Oc 3 r),⟨⟩⟩) fun Y12=>Aq [7,8,9,10] [1,1,2,2,2,2] r<|Ay 11 [1,1,2,2,2,2] r (Fb zhC r)<|A1 12<|Xu [1,1,2,2,2,2] r (Sb 3 kk32 r (Ca ⟨Op',Ow' 0,Op',⟨⟩⟩) r)<|Az<|Ne<|Sq<|Dr [0,0,0,1,1,1,1] r hMix<|Aq [0,1,2] [0,0,0,1,1,1,1] r<|Ay 3 [0,0,0,1,1,1,1] r (Fb zhD r)<|Ay 5 [0,0,0,1,1,1,1] r (Lb 2 kk3 r)<|A1 4<|Xy [0,0,0,1,1,1,1] r (Lb 3 kk35 r)<|Ai fun R13 H14=>?_
 refine A1 6<|Xe [1,1,1,2,2,2,2] r (Cl [] zln H14 r r1 ⟨(Oc 5 r),⟨⟩⟩) fun Y15=>Aq [7,8,9,10] [1,1,1,2,2,2,2] r<|Ay 11 [1,1,1,2,2,2,2] r (Fb zhD r)<|A1 12<|Xu [1,1,1,2,2,2,2] r (Sb 4 kk35 r (Ca ⟨Op',Ow' 0,⟨⟩⟩) r)<|Az<|Ne<|Sr<|Qs 3 r<|Yo (Fb zdk r)<|Yo (Lb 4 kk36 r)<|Yo (Y.makeFunc r)<|Bi fun R16 H17=>Fo (Cl [7,3] zdn H17 r r1) fun Y18=>Qs 1 r<|Yo (Fb zdk r)<|Fu (Sb 5 kk36 r (Co 1) r)<|Nx<|Sr<|Qs 1 r<|Yo (Lb 0 kk3 r)<|Bi fun R19 H20=>Fo (Cl [5,7] zd1 H20 r r1) fun Y21=>?_
 exact Nx<|Sr<|Qs 2 r<|Yo (Fb zgC r)<|Yo (Lb 0 kk3 r)<|Qs 2 r<|Yo (Fb zgC r)<|Fu (Sb 0 kk3 r (Cp r) r)<|Nx<|Sr<|Yo (Bd kp60 kz60 (Pz) r)<|Fu (Sb 6 kk60 r (Cp r) r)<|Nx<|Wr<|Ni 2<|Rf ((.slice none 0 0),Y12,Y15,Y18,Y21) [1,5,4,3,1,0] (RV.cell 7 r r kk60 r Rz)
noncomputable def zcT (s:Store) (id:Int):Option (Reply × Store):=
 (zbN s id).bind fun R2=>
 (idx s.Tens R2).bind fun E5=>
 if decide (E5.Epoch≥1000000) then ((zbq 4).bind fun R8=>
 some (R8,s))
 else ((zcn s.Secret id (IntKind.i64.wrap (E5.Epoch+1))).bind fun R12=>
 some ((⟨0,0,R12,[]⟩:Reply),(⟨s.Secret,s.Keys,s.Shares,s.Tens.set R2.toNat (⟨E5.Id,IntKind.i64.wrap (E5.Epoch+1),E5.Base,E5.Eng⟩),s.Rows,s.Hist,s.Boot⟩:Store)))
theorem zjI {s:Store} {id:Int} {U0 U1 U2 U3 U4:Value} {U5:Nat} :Cn Tryz.prog 53 [pt U5,iv id] [.box U5 39 [strV s.Secret,strV s.Keys.Master,U0,iv s.Keys.Wiped,iv s.Shares.Size,U1,U2,U3,U4,iv s.Boot],.own U2 (lc s.Tens)] [] (zcT s id) (fun r (X:Value)=>.agg #[iv r.1.Code,iv r.1.N,strV r.1.Text,X]) fun r X=>[.box U5 39 [strV r.2.Secret,strV r.2.Keys.Master,U0,iv r.2.Keys.Wiped,iv r.2.Shares.Size,U1,U2,U3,U4,iv r.2.Boot],.own U2 (lc r.2.Tens),.own X (lc r.1.List)]:=by
 unfold zcT
 refine Ci Tryz.func53 r r ?_
 rintro w S -
 refine Sr<|Fo (Al kz60 r) fun B1=>Nx<|Sq<|Dr [0,0,0] r hMix<|Aq [0,1] [0,0,0] r<|Ay 2 [0,0,0] r (Fb zdk r)<|Ay 3 [0,0,0] r (Lb 1 kk36 r)<|Aq [4,5] [0,0,0] r<|Ai fun R2 H3=>A1 6<|Xe [1,0,0] r (Cl [1] zdF H3 r r1 ⟨(Oc 1 r),⟨⟩⟩) fun _=>Ai fun E5 H6=>Ay 7 [1,0,0] r (Ix ke36 (Oc 2 r) H6 r)<|Aq [8] [1,0,0] r<|Az<|Ne<|Sq<|Sr<|Qs 1 r<|Yo (Nc (Oc 2 r) H6 r)<|Yo (Fe ziG (Oc 2 r) H6 r)<|Yo (Le kk3 (Oc 2 r) H6 r)<|Qs 1 r<|Nx<|Wc r (fun H7=>Sr<|Bi fun R8 H9=>Fo (Cl [] zbc H9 r r1) fun Y10=>Fu (Sb 2 kk60 r (Ca ⟨Op',Op',Op',Ow' 0,⟨⟩⟩) r)<|Nx<|Wr<|Tr<|Rf Y10 [1,2,0] (RV.cell 2 r r kk60 r Rz)) fun H7=>?_
 refine Sn<|Sr<|Qs 1 r<|Yo (Nc (Oc 2 r) H6 r)<|Yo (Fe ziG (Oc 2 r) H6 r)<|Yo (Le kk3 (Oc 2 r) H6 r)<|Qs 1 r<|Yo (Nc (Oc 2 r) H6 r)<|Yo (Fe ziG (Oc 2 r) H6 r)<|Gt (X:=Value × Value × Value) (Ho 3 [2] H6 r r1) fun X11=>Fu (Sh 0 [ic (IntKind.i64.wrap (E5.Epoch+1))] kk3 H6 r (Cp r) r)<|Nx<|Sq<|Dr [0,0,0,0,0] r hMix<|Aq [0,1] [0,0,0,0,0] r<|Ay 2 [0,0,0,0,0] r (Fb zov r)<|Ay 3 [0,0,0,0,0] r (Lb 4 kk9 r)<|Aq [4,5] [0,0,0,0,0] r<|Ay 6 [0,0,0,0,0] r (Nc (Oc 0 r) H6 r)<|Ay 7 [0,0,0,0,0] r (Fe ziG (Oc 0 r) H6 r)<|Ay 8 [0,0,0,0,0] r (Lh 0 kk3 H6 r)<|Ai fun R12 H13=>?_
 exact A1 9<|Xe [0,0,0,0,0] r (Cl [] zfF H13 r r1) fun _=>Ay 10 [0,0,0,0,0] r (Bd kp60 kz60 (Pc r (Cp r)<|Pz) r)<|A1 11<|Xu [0,0,0,0,0] r (Sb 5 kk60 r (Cp r) r)<|Az<|Ne<|Wr<|Ke (Hc [0,0,0,0] (⟨E5.Id,IntKind.i64.wrap (E5.Epoch+1),E5.Base,E5.Eng⟩:STen) H6 r (Ck (Ck (Ck (Cf (Cf (Ck (Cf Cz))))))))<|Ni 2<|Rf (.slice none 0 0) [2,1,0] (RV.cell 3 r r kk60 r Rz)
noncomputable def zV (s:List (List Ent)) (i:Int) (v:List (List Ent)):Option (List (List Ent)):=ins 24 s i v
theorem zhS (s:List (List Ent)) (i:Int) (v:List (List Ent)) (V_s0 V_v0:Value) (r:List (List Ent)) (hm:zV s i v=some r):
 Con Tryz.prog 133 [V_s0,.int .i64 i,V_v0] [.own V_s0 (lc s),.own V_v0 (lc v)] [] (fun X:Value=>X) (fun X=>[.own X (lc r)]):=by
 refine Con.intro (args:=[V_s0,.int .i64 i,V_v0]) (n:=95) (val:=fun _ (X:Value)=>X) (post:=fun r X=>[.own X (lc r)]) (m:=zV s i v) Tryz.func133 rfl rfl rfl hm ?_
 intro w S _
 unfold zV
 refine TW.known fun r0 hr0=>?_
 obtain ⟨h0,h1,h2,h3,rfl⟩:=ziD hr0
 obtain ⟨I,rfl⟩:=Int.eq_ofNat_of_zero_le h0
 rw[Int.toNat_natCast]
 have h1n:I≤s.length:=by omega
 clear hr0 hm
 have wr: ∀q:Nat,q≤4611686018427387904→IntKind.i64.wrap (q:Int)=(q:Int):=fun q hq=>by rw[IntKind.wrap_i64];omega
 have wr2: ∀a b:Nat,a+b≤4611686018427387904→IntKind.i64.wrap ((a:Int)+(b:Int))=((a+b:Nat):Int):=fun a b hq=>by rw[IntKind.wrap_i64];omega
 obtain ⟨z0,hpc⟩: ∃z,piece s (I:Int) (s.length:Int)=some z:=⟨_,if_pos ⟨by omega,by omega,by omega⟩⟩
 refine TW.seq ?_
 refine TW.region ?_
 refine TO.y (Y.assign rfl) rfl rfl rfl ?_
 refine TO.nil ?_
 refine TE.next ?_
 refine TW.seq ?_
 refine TW.region ?_
 refine TO.y (Y.move rfl) rfl rfl rfl ?_
 refine TO.y (Y.move rfl) rfl rfl rfl ?_
 refine TO.y (Y.subs hpc ke91 (Can.own 0 rfl) rfl ⟨_,rfl⟩ rfl) rfl rfl rfl ?_
 refine TO.nil ?_
 refine TE.next ?_
 refine TW.seq ?_
 refine TW.region ?_
 refine TO.y (Y.move rfl) rfl rfl rfl ?_
 refine TO.y (Y.len (l:=v) ke91 (Can.own 1 rfl) rfl) rfl rfl rfl ?_
 refine TO.y (Y.assign rfl) rfl rfl rfl ?_
 refine TO.nil ?_
 refine TE.next ?_
 refine TW.seq ?_
 refine TW.seq ?_
 refine TW.region ?_
 refine TO.y (Y.move rfl) rfl rfl rfl ?_
 refine TO.y (Y.eql rfl rfl) rfl rfl rfl ?_
 refine TO.nil ?_
 refine TE.next ?_
 by_cases hm0:v= []
 ·subst hm0
  rw[show s.take I++([]++s.drop I)=s by simp]
  refine TW.cond_t rfl (by simp) ?_
  refine TW.seq ?_
  refine TW.region ?_
  refine TO.y (Y.move rfl) rfl rfl rfl ?_
  refine TO.y (Y.assign rfl) rfl rfl rfl ?_
  refine TO.nil ?_
  refine TE.next ?_
  refine TW.ret ?_
  refine TE.then_ret ?_
  exact TE.leaf fun _ _ hf_ hs_=>zS (rs:=[.tmp 6]) (vs:=[V_s0]) (.inl rfl) rfl ⟨rfl,trivial⟩ hf_ hs_ ⟨V_s0,rfl,hs_.pulls [0] rfl⟩
 ·have hm1:0<v.length:=List.length_pos_iff.2 hm0
  refine TW.cond_f rfl (decide_eq_false (by omega)) ?_
  refine TW.skip ?_
  refine TE.next ?_
  refine TW.seq ?_
  refine TW.region ?_
  refine TO.y (Y.move rfl) rfl rfl rfl ?_
  refine TO.y (Y.len (l:=s) ke91 (Can.own 0 rfl) rfl) rfl rfl rfl ?_
  refine TO.y (Y.assign rfl) rfl rfl rfl ?_
  refine TO.nil ?_
  refine TE.next ?_
  refine TW.seq ?_
  refine TW.seq ?_
  refine TW.region ?_
  refine TO.y (Y.move rfl) rfl rfl rfl ?_
  refine TO.y (Y.move rfl) rfl rfl rfl ?_
  refine TO.y (Y.eql rfl rfl) rfl rfl rfl ?_
  refine TO.nil ?_
  refine TE.next ?_
  by_cases hin:I=s.length
  ·have happ:app 24 s v=some (s++v):=by unfold app;rw[if_pos ⟨h2,by omega⟩]
   rw[show s.take I++(v++s.drop I)=s++v by rw[hin];simp]
   refine TW.cond_t rfl (decide_eq_true (by omega)) ?_
   refine TW.seq ?_
   refine TW.region ?_
   refine TO.y (Y.move rfl) rfl rfl rfl ?_
   refine TO.y (Y.move rfl) rfl rfl rfl ?_
   refine TO.ef (Ef.appN (α:=List Ent) (is':=[]) [0,0] happ ke91 kz90 rfl rfl rfl rfl rfl) rfl rfl rfl (fun X=>?_)
   refine TO.y (Y.assign rfl) rfl rfl rfl ?_
   refine TO.nil ?_
   refine TE.next ?_
   refine TW.ret ?_
   refine TE.then_ret ?_
   exact TE.leaf fun _ _ hf_ hs_=>zS (rs:=[.tmp 6]) (vs:=[X]) (.inl rfl) rfl ⟨rfl,trivial⟩ hf_ hs_ ⟨X,rfl,hs_.pulls [0] rfl⟩
  ·refine TW.cond_f rfl (decide_eq_false (by omega)) ?_
   refine TW.skip ?_
   refine TE.next ?_
   refine TW.openRows (α:=List Ent) (by omega) hm1 ?_
   intro b cap e cur b2 cap2 e2 cur2 hV hU hbb hc1 hc2 hc3 hc4 hl1 hl2 ho1 ho2
   subst hV hU
   have hsz:Enc.sz (List Ent)=1:=rfl
   rw[hsz]at hl1 hl2 ho1 ho2
   have e1:=wr2 s.length v.length h3
   refine TW.seq ?_
   refine TW.seq ?_
   refine TW.region ?_
   refine TO.y (Y.move rfl) rfl rfl rfl ?_
   refine TO.y (Y.move rfl) rfl rfl rfl ?_
   refine TO.y (Y.add rfl rfl) rfl rfl rfl ?_
   refine TO.y (Y.move rfl) rfl rfl rfl ?_
   refine TO.y (Y.capRaw ke91 rfl) rfl rfl rfl ?_
   refine TO.y (Y.gtr rfl rfl) rfl rfl rfl ?_
   refine TO.nil ?_
   refine TE.next ?_
   by_cases hroom:cap<s.length+v.length
   ·refine TW.cond_t rfl (by rw[e1];exact decide_eq_true (by omega)) ?_
    refine TW.seq ?_
    refine TW.region ?_
    refine TO.y (Y.move rfl) rfl rfl rfl ?_
    refine TO.y (Y.move rfl) rfl rfl rfl ?_
    refine TO.y (Y.toRaw (hi:=I) ke91 (by omega) rfl rfl rfl) rfl rfl rfl ?_
    refine TO.y (Y.move rfl) rfl rfl rfl ?_
    refine TO.y (Y.move rfl) rfl rfl rfl ?_
    refine TO.y (Y.add rfl rfl) rfl rfl rfl ?_
    refine TO.y (Y.move rfl) rfl rfl rfl ?_
    refine TO.y (Y.sub rfl rfl) rfl rfl rfl ?_
    have e2:IntKind.i64.wrap (IntKind.i64.wrap ((s.length:Int)+(v.length:Int)) - (I:Int))=((s.length+v.length - I:Nat):Int):=by rw[e1,IntKind.wrap_i64];omega
    refine TO.ef (Ef.rawGrow (N:=s.length+v.length) (q:=s.length+v.length - I) 0 ke91 ki3 kz90 rfl rfl rfl rfl rfl e2 (by omega) (by omega) hl1 (by omega) hroom (by omega) h2) rfl rfl rfl (fun X=>?_)
    refine TO.y (Y.assign rfl) rfl rfl rfl ?_
    refine TO.nil ?_
    refine TE.next ?_
    obtain ⟨⟨⟨g,gc⟩,ge,zs⟩,hz1,hz2,hz3⟩:=X
    dsimp only at hz1 hz2 hz3 ⊢
    obtain ⟨q1,q2,q3,q4,q5,q6⟩:=insA (G:=gc) (zs:=zs) h1n hc1 hc3 hl1 hl2 hz1 hz2
    have m1:0+I*1+v.length*1≤gc*1:=by omega
    have m2:0+(I+v.length)*1+(s.length - I)*1≤gc*1:=by omega
    have m3:0+v.length*1≤cap2*1:=by omega
    have m4:0+I*1+(s.length - I)*1≤cap*1:=by omega
    refine TW.seq ?_
    refine TW.region ?_
    refine TO.y (Y.move rfl) rfl rfl rfl ?_
    refine TO.y (Y.move rfl) rfl rfl rfl ?_
    refine TO.y (Y.fromRaw (lo:=I) ke91 (by omega) (by omega) rfl rfl rfl) rfl rfl rfl ?_
    refine TO.y (Y.move rfl) rfl rfl rfl ?_
    refine TO.ef (Ef.rawCopy (sl:=v.length) 0 2 ke91 rfl rfl rfl rfl (by omega) (by rw[q3];exact m1) (Nat.le_trans m3 hl2) (by rw[List.drop_zero];exact ho2) rfl) rfl rfl rfl (fun _=>?_)
    refine TO.nil ?_
    refine TE.next ?_
    refine TW.seq ?_
    refine TW.draw (isH:=[]) hMix ?_
    refine TA.y 0 [] rfl (Y.move rfl) rfl rfl rfl (by kernel_rfl) rfl ?_
    refine TA.y 1 [] rfl (Y.move rfl) rfl rfl rfl (by kernel_rfl) rfl ?_
    refine TA.y 2 [] rfl (Y.move rfl) rfl rfl rfl (by kernel_rfl) rfl ?_
    refine TA.y 3 [] rfl (Y.add rfl rfl) rfl rfl rfl (by kernel_rfl) rfl ?_
    refine TA.y 4 [] rfl (Y.fromRaw (lo:=I+v.length) ke91 (by omega) (by omega) (wr2 I v.length (by omega)) rfl rfl) rfl rfl rfl (by kernel_rfl) rfl ?_
    refine TA.y 5 [] rfl (Y.move rfl) rfl rfl rfl (by kernel_rfl) rfl ?_
    refine TA.y 6 [] rfl (Y.move rfl) rfl rfl rfl (by kernel_rfl) rfl ?_
    refine TA.y 7 [] rfl (Y.fromRaw (lo:=I) ke91 (by omega) (by omega) rfl rfl rfl) rfl rfl rfl (by kernel_rfl) rfl ?_
    refine TA.one 8 (by kernel_rfl) ?_
    refine TX.ef [] rfl (Ef.rawCopy (sl:=s.length - I) 0 1 ke91 rfl rfl rfl rfl (by omega) (by rw[q4];exact m2) (Nat.le_trans m4 hl1) (zdA ho1 h1n) rfl) rfl rfl rfl (fun _=>rfl) (fun _=>?_)
    refine TA.nil (by kernel_rfl) ?_
    refine TE.next ?_
    refine TW.seq ?_
    refine TW.region ?_
    refine TO.y (Y.move rfl) rfl rfl rfl ?_
    refine TO.y (Y.assign rfl) rfl rfl rfl ?_
    refine TO.nil ?_
    refine TE.next ?_
    refine TW.ret ?_
    refine TE.then_ret ?_
    refine TE.ghost (Gh.fold (α:=List Ent) (l:=s) (k:=v) (i:=I) [0,2,2,0,0] rfl h1n hz2 hz3 (Nat.le_of_eq q5.symm) q6) (fun _=>?_)
    exact TE.leaf fun _ _ hf_ hs_=>zS (rs:=[.tmp 6]) (vs:=[.slice (some ⟨g,0,none⟩) (s.length+v.length) gc]) (.inl rfl) rfl ⟨rfl,trivial⟩ hf_ hs_ ⟨(.slice (some ⟨g,0,none⟩) (s.length+v.length) gc),rfl,hs_.pulls [0] rfl⟩
   ·refine TW.cond_f rfl (by rw[e1];exact decide_eq_false (by omega)) ?_
    refine TW.skip ?_
    refine TE.next ?_
    refine TW.seq ?_
    refine TW.region ?_
    refine TO.y (Y.move rfl) rfl rfl rfl ?_
    refine TO.y (Y.move rfl) rfl rfl rfl ?_
    refine TO.y (Y.move rfl) rfl rfl rfl ?_
    refine TO.y (Y.add rfl rfl) rfl rfl rfl ?_
    refine TO.y (Y.toRaw (hi:=s.length+v.length) ke91 (by omega) e1 rfl rfl) rfl rfl rfl ?_
    refine TO.y (Y.assign rfl) rfl rfl rfl ?_
    refine TO.nil ?_
    refine TE.next ?_
    obtain ⟨q1,q2,q3,q4,q5⟩:=insB h1n (by omega) hc3 hl1 hl2
    have m1:0+I*1+v.length*1≤cap*1:=by omega
    have m2:0+(I+v.length)*1+(s.length - I)*1≤cap*1:=by omega
    have m3:0+v.length*1≤cap2*1:=by omega
    have m4:0+I*1+(s.length - I)*1≤cap*1:=by omega
    have hne:cur≠[]:=by intro e;rw[e]at hl1;simp at hl1;omega
    refine TW.seq ?_
    refine TW.seq ?_
    refine TW.region ?_
    refine TO.y (Y.move rfl) rfl rfl rfl ?_
    refine TO.y (Y.move rfl) rfl rfl rfl ?_
    refine TO.y (Y.move rfl) rfl rfl rfl ?_
    refine TO.y (Y.move rfl) rfl rfl rfl ?_
    refine TO.y (Y.add rfl rfl) rfl rfl rfl ?_
    refine TO.y (Y.fromRaw (lo:=I+v.length) ke91 (by omega) (by omega) (wr2 I v.length (by omega)) rfl rfl) rfl rfl rfl ?_
    refine TO.ef (Ef.overlaps (tr:=4) 1 0 Tryz.func163 (by kernel_rfl) (by kernel_rfl) (by kernel_rfl) (by kernel_rfl) ke91 rfl rfl (Ne.symm hbb) rfl rfl hne) rfl rfl rfl (fun _=>?_)
    refine TO.y (Y.not rfl) rfl rfl rfl ?_
    refine TO.nil ?_
    refine TE.next ?_
    refine TW.cond_true rfl ?_
    refine TW.seq ?_
    refine TW.draw (isH:=[]) hMix ?_
    refine TA.y 0 [] rfl (Y.move rfl) rfl rfl rfl (by kernel_rfl) rfl ?_
    refine TA.y 1 [] rfl (Y.move rfl) rfl rfl rfl (by kernel_rfl) rfl ?_
    refine TA.y 2 [] rfl (Y.move rfl) rfl rfl rfl (by kernel_rfl) rfl ?_
    refine TA.y 3 [] rfl (Y.add rfl rfl) rfl rfl rfl (by kernel_rfl) rfl ?_
    refine TA.y 4 [] rfl (Y.fromRaw (lo:=I+v.length) ke91 (by omega) (by omega) (wr2 I v.length (by omega)) rfl rfl) rfl rfl rfl (by kernel_rfl) rfl ?_
    refine TA.y 5 [] rfl (Y.move rfl) rfl rfl rfl (by kernel_rfl) rfl ?_
    refine TA.y 6 [] rfl (Y.move rfl) rfl rfl rfl (by kernel_rfl) rfl ?_
    refine TA.y 7 [] rfl (Y.fromRaw (lo:=I) ke91 (by omega) (by omega) rfl rfl rfl) rfl rfl rfl (by kernel_rfl) rfl ?_
    refine TA.one 8 (by kernel_rfl) ?_
    refine TX.ef [] rfl (Ef.rawCopy (sl:=s.length - I) 0 0 ke91 rfl rfl rfl rfl (by omega) (Nat.le_trans m2 hl1) (Nat.le_trans m4 hl1) (zdA ho1 h1n) rfl) rfl rfl rfl (fun _=>rfl) (fun _=>?_)
    refine TA.nil (by kernel_rfl) ?_
    refine TE.next ?_
    refine TW.seq ?_
    refine TW.region ?_
    refine TO.y (Y.move rfl) rfl rfl rfl ?_
    refine TO.y (Y.move rfl) rfl rfl rfl ?_
    refine TO.y (Y.fromRaw (lo:=I) ke91 (by omega) (by omega) rfl rfl rfl) rfl rfl rfl ?_
    refine TO.y (Y.move rfl) rfl rfl rfl ?_
    refine TO.ef (Ef.rawCopy (sl:=v.length) 0 1 ke91 rfl rfl rfl rfl (by omega) (by rw[q3];exact Nat.le_trans m1 hl1) (Nat.le_trans m3 hl2) (by rw[List.drop_zero];exact ho2) rfl) rfl rfl rfl (fun _=>?_)
    refine TO.nil ?_
    refine TE.next ?_
    refine TW.seq ?_
    refine TW.region ?_
    refine TO.y (Y.move rfl) rfl rfl rfl ?_
    refine TO.y (Y.assign rfl) rfl rfl rfl ?_
    refine TO.nil ?_
    refine TE.next ?_
    refine TW.ret ?_
    refine TE.then_ret ?_
    refine TE.ghost (Gh.fold (α:=List Ent) (l:=s) (k:=v) (i:=I) [0,1,1,0] rfl h1n (by omega) hc2 (by rw[q4];exact hl1) q5) (fun _=>?_)
    exact TE.leaf fun _ _ hf_ hs_=>zS (rs:=[.tmp 6]) (vs:=[.slice (some ⟨b,0,none⟩) (s.length+v.length) cap]) (.inl rfl) rfl ⟨rfl,trivial⟩ hf_ hs_ ⟨(.slice (some ⟨b,0,none⟩) (s.length+v.length) cap),rfl,hs_.pulls [0] rfl⟩
theorem zbG {s:List (List Ent)} {i:Int} {v:List (List Ent)} {V_s0 V_v0:Value} :Cn Tryz.prog 133 [V_s0,iv i,V_v0] [.own V_s0 (lc s),.own V_v0 (lc v)] [] (zV s i v) (fun _ (X:Value)=>X) fun r X=>[.own X (lc r)]:=⟨by kernel_rfl,fun _ h=>zhS s i v _ _ _ h⟩
noncomputable def ze7 (e:Eng):Option (Bool × Eng):=
 (if decide ((e.Mem.length:Int)=0) then (some true)
 else (some (decide ((e.Tables.length:Int)≥6)))).bind (fun (T1:Bool)=>
 if T1=true then (some (false,e))
 else ((zV e.Tables 0 ([e.Mem])).bind fun R6=>
 some (true,(⟨[],R6,e.Seq,e.Snaps⟩:Eng))))
noncomputable def zca (n:Int):Option (List Ent):=
 if decide (n<0) then (none)
 else (bindC (if decide (IntKind.i64.wrap (n - (IntKind.i64.wrap (((0:Nat):Int) - ((([]:List Ent).length:Nat):Int))))>0) then ((piece ([]:List Ent) (0:Int) ((0:Nat):Int)).bind fun E5=>
 (zapp 48 (IntKind.i64.wrap (n - (IntKind.i64.wrap (((0:Nat):Int) - ((([]:List Ent).length:Nat):Int)))))).bind fun E8=>
 (piece (List.replicate E8 ((⟨[],0,false,[]⟩:Ent):Ent)) 0 ((([]:List Ent).length:Nat):Int)).bind fun E10=>
 some (.go E10))
 else (some (.go ([]:List Ent))))
 (fun (T2:List Ent)=>some T2))
theorem zhO {n:Int} :Cn Tryz.prog 189 [.slice none 0 0,iv n] [] [] (zca n) (fun _ (X:Value)=>X) fun r X=>[.own X (lc r)]:=by
 unfold zca
 refine Ci Tryz.func189 r r ?_
 rintro w S -
 refine Sr<|Qs 1 r<|Nx<|Sq<|Sr<|Qs 2 r<|Nx<|Wc r (fun H1=>fun _ h_=>by cases h_) fun H1=>Sn<|Sq<|Sr<|Qs 2 r<|Yo (Y.capRaw (cap:=0) ke90 r)<|Qs 1 r<|Yo (Y.len (l:=([]:List Ent)) (sz':=0) ke90 (Can.plain fun _=>.nil _) r)<|Qs 3 r<|Nx<|Sr<|Qs 2 r<|Nx<|Jn Value [] [] (fun _ X=>[(0,X)]) (fun T X=>[.own X (lc T)]) r2 r2 (?_) fun T2 X3=>?_
 ·refine Wc r (fun H4=>?_) fun H4=>?_
  ·exact Rg<|Qs 2 r<|Yo (Y.capRaw (cap:=0) ke90 r)<|Bi fun E5 H6=>Yo (Y.subs_nil H6 ke90 r r ⟨_,r⟩)<|Qs 1 r<|Bi fun E8 H9=>Fo (Ef.appZeros (α:=Ent) (z:=((⟨[],0,false,[]⟩:Ent):Ent)) H9 ke90 ki3 kz189 r r r r r) fun V7=>Qs 1 r<|Yo (Y.len (l:=([]:List Ent)) (sz':=0) ke90 (Can.plain fun _=>.nil _) r)<|Bi fun E10 H11=>Yo (Y.subs H11 ke90 (Oc 0 r) r r ⟨_,r⟩)<|Qs 1 r<|Nl<|TE.conv (is':=[.own (subV V7 4 (0:Int).toNat (((([]:List Ent).length:Nat):Int).toNat - (0:Int).toNat)) (lc E10)]) (St.cut (i:=0) H11 r r r)<|Jg (subV V7 4 (0:Int).toNat (((([]:List Ent).length:Nat):Int).toNat - (0:Int).toNat)) [0]
  exact Sk<|Ni 4<|Jg (.slice none 0 0) [0]
 exact Ne<|Sr<|Qs 2 r<|Nx<|Wr<|Re X3 [0]
noncomputable def zck (slices:List (List Ent)):Option (List Ent):=
 bindC (loopO (fun (S1:Int × Int)=>if decide (S1.2<(slices.length:Int)) then ((idx slices S1.2).bind fun E6=>
 if decide (IntKind.i64.wrap (S1.1+(E6.length:Int))<0) then (none)
 else (some (.go (IntKind.i64.wrap (S1.1+(E6.length:Int)),IntKind.i64.wrap (S1.2+1)))))
 else (some (.done (.go S1.1))))
 ((0:Int),(0:Int)))
 (fun (T3:Int)=>(zca T3).bind fun R10=>
 bindC (loopO (fun (S13:Int × List Ent)=>if decide (S13.1<(slices.length:Int)) then ((idx slices S13.1).bind fun E18=>
 (app 48 S13.2 E18).bind fun E22=>
 some (.go (IntKind.i64.wrap (S13.1+1),E22)))
 else (some (.done (.go S13.2))))
 ((0:Int),R10))
 (fun (T15:List Ent)=>some T15))
theorem ziJ {slices:List (List Ent)} {U0:Value} :Cn Tryz.prog 167 [U0] [] [(U0,lc slices)] (zck slices) (fun _ (X:Value)=>X) fun r X=>[.own X (lc r)]:=by
 unfold zck
 refine Ci Tryz.func167 r r ?_
 rintro w S ⟨Z0,-⟩
 refine Sr<|Qs 1 r<|Nx<|Sr<|Qs 1 r<|Nx<|Sq<|Sr<|Qs 1 r<|Yo (Ln ke91 (Bc Z0) r)<|Qs 1 r<|Nx<|Ju [0] (fun T=>[(3,iv T)]) r1 (?_) fun T3=>?_
 ·refine Wb<|Lu [0,9,10] (fun T=>[(3,iv T.1),(11,iv T.2)]) r1 fun S1=>Sr<|Qs 1 r<|Nx<|Sq<|Wc r (fun H5=>?_) fun H5=>?_
  ·refine Sn<|Sq<|Wb<|Sr<|Bi fun E6 H7=>Yo (Ix ke91 (Bc Z0) H7 r)<|?_
   have Q8:Base w S (elv w U0 (S1.2.toNat*1+0)) (lc E6):=Base.el Z0 (zz H7).2.2 r r
   exact Yo (Lz kk90 Z0 H7 r)<|Qs 1 r<|Nx<|Sr<|Qs 2 r<|Yo (Ln ke90 (Bc Q8) r)<|Qs 2 r<|Nx<|Sr<|Qs 2 r<|Nx<|Wc r (fun H9=>fun _ h_=>by cases h_) fun H9=>Sk<|Bn<|Ne<|Rg<|Qs 2 r<|Nl<|Lg () []
  exact Wx<|Tx<|Ex<|Be<|Jg () []
 refine Ne<|Sr<|Qs 1 r<|Bi fun R10 H11=>Fo (Cl [] zhO H11 r r1) fun Y12=>Qs 1 r<|Nx<|Sq<|Sr<|Qs 1 r<|Yo (Ln ke91 (Bc Z0) r)<|Qs 1 r<|Nx<|Jn Value [] [] (fun _ X=>[(6,X)]) (fun T X=>[.own X (lc T)]) r2 r2 (?_) fun T15 X16=>?_
 ·refine Wb<|Lp Value [25,26] [] (fun T X=>[(6,X),(27,iv T.1)]) (fun T X=>[.own X (lc T.2)]) Y12 [0] r2 r2 fun S13 X14=>Sr<|Qs 1 r<|Nx<|Sq<|Wc r (fun H17=>?_) fun H17=>?_
  ·refine Sn<|Sq<|Wb<|Sr<|Bi fun E18 H19=>Yo (Ix ke91 (Bc Z0) H19 r)<|?_
   have Q20:Base w S (elv w U0 (S13.1.toNat*1+0)) (lc E18):=Base.el Z0 (zz H19).2.2 r r
   exact Yo (Lz kk90 Z0 H19 r)<|Qs 1 r<|Nx<|Rg<|Qs 2 r<|Bi fun E22 H23=>Fo (Ap [0] H23 ke90 kz189 r (Bc Q20)) fun V21=>Qs 1 r<|Nl<|Bn<|Ne<|Rg<|Qs 2 r<|Nl<|Lg V21 [0]
  exact Wx<|Tx<|Ex<|Be<|Jg X14 [0]
 exact Ne<|Sr<|Qs 2 r<|Nx<|Wr<|Re X16 [0]
noncomputable def zdU (s:List Ent):Option (List Ent):=
 (piece s 0 (s.length:Int)).bind fun E1=>
 some E1
theorem zjJ {s:List Ent} {U0:Value} :Cn Tryz.prog 170 [U0] [.own U0 (lc s)] [] (zdU s) (fun _ (X:Value)=>X) fun r X=>[.own X (lc r)]:=by
 unfold zdU
 refine Ci Tryz.func170 r r ?_
 rintro w S -
 exact Sr<|Qs 1 r<|Nx<|Sr<|Qs 2 r<|Yo (Ln ke90 (Oc 0 r) r)<|Qs 1 r<|Yo (Ln ke90 (Oc 0 r) r)<|Bi fun E1 H2=>Yo (Y.subs30 H2 ke90 (Oc 0 r) r r r)<|TO.conv (is':=[.own (sub3V U0 4 (0:Int).toNat ((s.length:Int).toNat - (0:Int).toNat) s.length) (lc E1)]) (St.clip (i:=0) H2 r r r)<|Qs 1 r<|Nx<|Wr<|Re (sub3V U0 4 (0:Int).toNat ((s.length:Int).toNat - (0:Int).toNat) s.length) [0]
noncomputable def zdE (x:List UInt8):Option Bool:=
 some (!(decide (x=x)))
theorem zgT {x:List UInt8} :Cn Tryz.prog 205 [strV x] [] [] (zdE x) (fun r (_:Unit)=>.bool r) fun _ _=>[]:=by
 unfold zdE
 refine Ci Tryz.func205 r r ?_
 rintro w S -
 exact Sr<|Qs 1 r<|Nx<|Sr<|Qs 4 r<|Nx<|Wr<|Re () []
noncomputable def zcQ (x:List UInt8) (y:List UInt8):Option Int:=
 (zdE x).bind fun R1=>
 (zdE y).bind fun R4=>
 if R1=true then (if R4=true then (some (0:Int))
 else (some (-1:Int)))
 else (if R4=true then (some (1:Int))
 else (if sLt x y then (some (-1:Int))
 else (if !(sLt x y||decide (x=y)) then (some (1:Int))
 else (some (0:Int)))))
theorem zjD {x:List UInt8} {y:List UInt8} :Cn Tryz.prog 192 [strV x,strV y] [] [] (zcQ x y) (fun r (_:Unit)=>iv r) fun _ _=>[]:=by
 unfold zcQ
 refine Ci Tryz.func192 r r ?_
 rintro w S -
 refine Sr<|Qs 1 r<|Nx<|Sr<|Qs 1 r<|Bi fun R1 H2=>Fo (Cl [] zgT H2 r r1) fun _=>Qs 1 r<|Nx<|Sr<|Qs 1 r<|Bi fun R4 H5=>Fo (Cl [] zgT H5 r r1) fun _=>Qs 1 r<|Nx<|Sq<|Sr<|Qs 1 r<|Nx<|Wc r (fun H7=>Sq<|Sr<|Qs 1 r<|Nx<|Wc r (fun H8=>Sr<|Qs 1 r<|Nx<|Wr<|Tr<|Tr<|Re () []) fun H8=>Sn<|Sr<|Qs 1 r<|Nx<|Wr<|Tr<|Re () []) fun H7=>Sn<|Sq<|Sr<|Qs 1 r<|Nx<|Wc r (fun H9=>Sr<|Qs 1 r<|Nx<|Wr<|Tr<|Re () []) fun H9=>Sn<|Sq<|Sr<|Qs 3 r<|Nx<|Wc r (fun H10=>Sr<|Qs 1 r<|Nx<|Wr<|Tr<|Re () []) fun H10=>Sn<|Sq<|Sr<|Qs 3 r<|Nx<|Wc r (fun H11=>Sr<|Qs 1 r<|Nx<|Wr<|Tr<|Re () []) fun H11=>?_
 exact Sn<|Sr<|Qs 1 r<|Nx<|Wr<|Re () []
noncomputable def zdD (x:Int):Option Bool:=
 some (!(decide (x=x)))
theorem zgS {x:Int} :Cn Tryz.prog 206 [iv x] [] [] (zdD x) (fun r (_:Unit)=>.bool r) fun _ _=>[]:=by
 unfold zdD
 refine Ci Tryz.func206 r r ?_
 rintro w S -
 exact Sr<|Qs 1 r<|Nx<|Sr<|Qs 4 r<|Nx<|Wr<|Re () []
noncomputable def zcP (x:Int) (y:Int):Option Int:=
 (zdD x).bind fun R1=>
 (zdD y).bind fun R4=>
 if R1=true then (if R4=true then (some (0:Int))
 else (some (-1:Int)))
 else (if R4=true then (some (1:Int))
 else (if decide (x<y) then (some (-1:Int))
 else (if decide (x>y) then (some (1:Int))
 else (some (0:Int)))))
theorem zjC {x:Int} {y:Int} :Cn Tryz.prog 193 [iv x,iv y] [] [] (zcP x y) (fun r (_:Unit)=>iv r) fun _ _=>[]:=by
 unfold zcP
 refine Ci Tryz.func193 r r ?_
 rintro w S -
 refine Sr<|Qs 1 r<|Nx<|Sr<|Qs 1 r<|Bi fun R1 H2=>Fo (Cl [] zgS H2 r r1) fun _=>Qs 1 r<|Nx<|Sr<|Qs 1 r<|Bi fun R4 H5=>Fo (Cl [] zgS H5 r r1) fun _=>Qs 1 r<|Nx<|Sq<|Sr<|Qs 1 r<|Nx<|Wc r (fun H7=>Sq<|Sr<|Qs 1 r<|Nx<|Wc r (fun H8=>Sr<|Qs 1 r<|Nx<|Wr<|Tr<|Tr<|Re () []) fun H8=>Sn<|Sr<|Qs 1 r<|Nx<|Wr<|Tr<|Re () []) fun H7=>Sn<|Sq<|Sr<|Qs 1 r<|Nx<|Wc r (fun H9=>Sr<|Qs 1 r<|Nx<|Wr<|Tr<|Re () []) fun H9=>Sn<|Sq<|Sr<|Qs 3 r<|Nx<|Wc r (fun H10=>Sr<|Qs 1 r<|Nx<|Wr<|Tr<|Re () []) fun H10=>Sn<|Sq<|Sr<|Qs 3 r<|Nx<|Wc r (fun H11=>Sr<|Qs 1 r<|Nx<|Wr<|Tr<|Re () []) fun H11=>?_
 exact Sn<|Sr<|Qs 1 r<|Nx<|Wr<|Re () []
noncomputable def zeH (vals:List Int):Option Int:=
 bindC (loopO (fun (S1:Int)=>if decide (S1<(vals.length:Int)) then ((idx vals S1).bind fun E6=>
 if !(decide (E6=0)) then (some (.done (.done E6)))
 else (some (.go (IntKind.i64.wrap (S1+1)))))
 else (some (.done (.go ()))))
 (0:Int))
 (fun (T3:Unit)=>some (0:Int))
theorem zmz {vals:List Int} {U0:Value} :Cn Tryz.prog 191 [U0] [] [(U0,lc vals)] (zeH vals) (fun r (_:Unit)=>iv r) fun _ _=>[]:=by
 unfold zeH
 refine Ci Tryz.func191 r r ?_
 rintro w S ⟨Z0,-⟩
 refine Sr<|Qs 1 r<|Nx<|Sr<|Qs 1 r<|Nx<|Sq<|Sr<|Qs 1 r<|Yo (Ln ke53 (Bc Z0) r)<|Qs 1 r<|Nx<|Ju [3] (fun _=>[]) r1 (?_) fun T3=>?_
 ·exact Wb<|Lu [3,6,7] (fun T=>[(8,iv T)]) r1 fun S1=>Sr<|Qs 1 r<|Nx<|Sq<|Wc r (fun H5=>Sn<|Sq<|Wb<|Sr<|Bi fun E6 H7=>Yo (Ix ke53 (Bc Z0) H7 r)<|Yo (Le kk3 (Bc Z0) H7 r)<|Qs 1 r<|Nx<|Sr<|Qs 3 r<|Nx<|Wc r (fun H8=>Sr<|Qs 2 r<|Nx<|Wr<|Br<|Tr<|Er<|Br<|Jd<|Tr<|Re () []) fun H8=>Sk<|Bn<|Ne<|Rg<|Qs 2 r<|Nl<|Lg () []) fun H5=>Wx<|Tx<|Ex<|Be<|Jg () []
 exact Ne<|Sr<|Qs 2 r<|Nx<|Wr<|Re () []
noncomputable def zu (a:Ent) (b:Ent):Option Int:=
 (zcQ a.Key b.Key).bind fun R3=>
 (zcP b.Seq a.Seq).bind fun R6=>
 (zeH ([R3,R6])).bind fun R10=>
 some R10
theorem zb5 {a:Ent} {b:Ent} :Cn Tryz.prog 169 [.agg #[strV a.Key,iv a.Seq,.bool a.Del,strV a.Val],.agg #[strV b.Key,iv b.Seq,.bool b.Del,strV b.Val]] [] [] (zu a b) (fun r (_:Unit)=>iv r) fun _ _=>[]:=by
 unfold zu
 refine Ci Tryz.func169 r r ?_
 rintro w S -
 refine Sr<|Fo (Bx r (Cp r)) fun B1=>Fo (Bx r (Cp r)) fun B2=>Qs 1 r<|Nx<|Sq<|Dr [0,0] r hMix<|Ay 0 [0,0] r (Fb zdB r)<|Ay 1 [0,0] r (Lb 1 kk9 r)<|Ay 2 [0,0] r (Fb zdB r)<|Ay 3 [0,0] r (Lb 0 kk9 r)<|Ay 5 [0,0] r (Fb zfK r)<|Ay 6 [0,0] r (Lb 0 kk3 r)<|Ay 7 [0,0] r (Fb zfK r)<|Ay 8 [0,0] r (Lb 1 kk3 r)<|Ai fun R3 H4=>A1 4<|Xe [0,0] r (Cl [] zjD H4 r r1) fun _=>Ai fun R6 H7=>A1 9<|Xe [0,0] r (Cl [] zjC H7 r r1) fun _=>A1 10<|Xe [1,1] r (Bs [R3,R6] ke53 kz3) fun B9=>Ai fun R10 H11=>A1 11<|Xe [1,1] r (Cl [] zmz H11 r r1 ⟨(Oc 0 r),⟨⟩⟩) fun _=>?_
 exact Aq [12] [1,1] r<|Az<|Ne<|Wr<|Re () []
noncomputable def zk (data:List Ent) (a:Int) (b:Int):Option (List Ent):=
 bindC (loopO (fun (S1:Int × List Ent)=>if decide (S1.1<b) then (bindC (loopO (fun (S6:Int × List Ent)=>(if decide (S6.1>a) then ((idx S6.2 S6.1).bind fun E13=>
 (idx S6.2 (IntKind.i64.wrap (S6.1 - 1))).bind fun E15=>
 (zu E13 E15).bind fun R17=>
 some (decide (R17<0)))
 else (some false)).bind (fun (T10:Bool)=>
 if T10=true then ((idx S6.2 (IntKind.i64.wrap (S6.1 - 1))).bind fun E21=>
 (idx S6.2 S6.1).bind fun E23=>
 (idx (S6.2.set S6.1.toNat E21) (IntKind.i64.wrap (S6.1 - 1))).bind fun E25=>
 some (.go (IntKind.i64.wrap (S6.1 - 1),((S6.2.set S6.1.toNat E21).set ((IntKind.i64.wrap (S6.1 - 1)).toNat) E23))))
 else (some (.done (.go S6.2)))))
 (S1.1,S1.2))
 (fun (T8:List Ent)=>some (.go (IntKind.i64.wrap (S1.1+1),T8))))
 else (some (.done (.go S1.2))))
 (IntKind.i64.wrap (a+1),data))
 (fun (T3:List Ent)=>some T3)
theorem zbj {data:List Ent} {a:Int} {b:Int} {U0:Value} :Cn Tryz.prog 203 [U0,iv a,iv b,.func (.func 169) #[] #[]] [.own U0 (lc data)] [] (zk data a b) (fun _ (_:Unit)=>.tuple #[]) fun r _=>[.own U0 (lc r)]:=by
 unfold zk
 refine Ci Tryz.func203 r r ?_
 rintro w S -
 refine Sr<|Qs 3 r<|Nx<|Jn Unit [] [] (fun _ _=>[]) (fun T _=>[.own U0 (lc T)]) r2 r2 (?_) fun T3 X4=>?_
 ·refine Wb<|Lp Unit [0,1,2,3] [] (fun T _=>[(8,iv T.1)]) (fun T _=>[.own U0 (lc T.2)]) () [0] r2 r2 fun S1 X2=>Sq<|Sr<|Qs 3 r<|Nx<|Wc r (fun H5=>?_) fun H5=>?_
  ·refine Sn<|Sq<|Wb<|Sr<|Qs 2 r<|Nx<|Jn Unit [0,1,2,3,8] [] (fun _ _=>[]) (fun T _=>[.own U0 (lc T)]) r2 r2 (?_) fun T8 X9=>?_
   ·refine Wb<|Lp Unit [0,1,2,3,8] [] (fun T _=>[(9,iv T.1)]) (fun T _=>[.own U0 (lc T.2)]) () [0] r2 r2 fun S6 X7=>Sq<|Sq<|Jv [0,1,2,3,8,9] (fun T=>[(34,.bool T)]) r1 (?_) fun T10=>?_
    ·refine Dr [0] r hMix<|Aq [0,1,2,3] [0] r<|Ia (fun H12=>?_) fun H12=>?_
     ·refine Ag 4 [0] (gdA (zd H12)) r (Y.move r)<|Ag 5 [0] (gdA (zd H12)) r (Y.move r)<|Ag 6 [0] (gdA (zd H12)) r (Y.move r)<|Ai fun E13 H14=>Ag 7 [0] (gdA (zd H12)) r (Ix ke90 (Oc 0 r) H14 r)<|Ag 8 [0] (gdA (zd H12)) r (Le kk189 (Oc 0 r) H14 r)<|Ag 9 [0] (gdA (zd H12)) r (Y.move r)<|Ag 10 [0] (gdA (zd H12)) r (Y.move r)<|Ag 11 [0] (gdA (zd H12)) r (Y.sub r r)<|Ai fun E15 H16=>Ag 12 [0] (gdA (zd H12)) r (Ix ke90 (Oc 0 r) H16 r)<|Ag 13 [0] (gdA (zd H12)) r (Le kk189 (Oc 0 r) H16 r)<|Ai fun R17 H18=>A1 14<|Xeg [0] (gdA (zd H12)) r (Cw [] zb5 H18 r r r1) fun _=>?_
      exact Ag 15 [0] (gdA (zd H12)) r (Y.lss r r)<|Ay 16 [0] r (Pt H12 r)<|Az<|Bg () [0]
     exact Ax [4,5,6,7,8,9,10,11,12,13,14,15] [0] (zt H12) r r<|Ay 16 [0] r (Pf H12 r)<|Az<|Bg () [0]
    refine Ne<|Wc r (fun H20=>?_) fun H20=>?_
    ·refine Sn<|Sq<|Wb<|Wi fun E21 H22=>Wi fun E23 H24=>Wi fun E25 H26=>Jw Unit [0,1,2,3,8,9] [] (fun _=>[]) (fun _=>[.own U0 (lc ((S6.2.set S6.1.toNat E21).set ((IntKind.i64.wrap (S6.1 - 1)).toNat) E23))]) r1 r1 (?_) fun X28=>?_
     ·refine Dr [] r hMix<|Aq [0,1,2,3,4,5,6,7,10,11] [] r<|A2 8 12 (?_)<|?_
      ·refine Xy [] r (Ix ke90 (Oc 0 r) H22 r)<|A2 9 12 (?_)<|?_
       ·exact Xy [] r (Le kk189 (Oc 0 r) H22 r)<|A1 12<|Xy [] r (Ix ke90 (Oc 0 r) H24 r)<|A1 13<|Xy [] r (Le kk189 (Oc 0 r) H24 r)<|A1 14<|Xy [] r (Ix ke90 (Oc 0 r) H24 r)<|A1 15<|Xu [] r (Se E21 0 kk189 H24 r (Cp r) r)<|A1 16<|Xy [] r (Ix ke90 (Oc 0 r) H26 r)<|A1 17<|Xu [] r (Se E23 0 kk189 H26 r (Cp r) r)<|Az<|Bg () [0]
       exact Xy [] r (Ix ke90 (Oc 0 r) H24 r)<|A2 9 13 (Xy [] r (Le kk189 (Oc 0 r) H22 r)<|A1 13<|Xy [] r (Le kk189 (Oc 0 r) H24 r)<|A1 14<|Xy [] r (Ix ke90 (Oc 0 r) H24 r)<|A1 15<|Xu [] r (Se E21 0 kk189 H24 r (Cp r) r)<|A1 16<|Xy [] r (Ix ke90 (Oc 0 r) H26 r)<|A1 17<|Xu [] r (Se E23 0 kk189 H26 r (Cp r) r)<|Az<|Bg () [0])<|Xy [] r (Le kk189 (Oc 0 r) H24 r)<|A1 9<|Xy [] r (Le kk189 (Oc 0 r) H22 r)<|A1 14<|Xy [] r (Ix ke90 (Oc 0 r) H24 r)<|A1 15<|Xu [] r (Se E21 0 kk189 H24 r (Cp r) r)<|A1 16<|Xy [] r (Ix ke90 (Oc 0 r) H26 r)<|A1 17<|Xu [] r (Se E23 0 kk189 H26 r (Cp r) r)<|Az<|Bg () [0]
      refine Xy [] r (Ix ke90 (Oc 0 r) H24 r)<|A2 8 13 (?_)<|?_
      ·exact Xy [] r (Ix ke90 (Oc 0 r) H22 r)<|A2 9 13 (Xy [] r (Le kk189 (Oc 0 r) H22 r)<|A1 13<|Xy [] r (Le kk189 (Oc 0 r) H24 r)<|A1 14<|Xy [] r (Ix ke90 (Oc 0 r) H24 r)<|A1 15<|Xu [] r (Se E21 0 kk189 H24 r (Cp r) r)<|A1 16<|Xy [] r (Ix ke90 (Oc 0 r) H26 r)<|A1 17<|Xu [] r (Se E23 0 kk189 H26 r (Cp r) r)<|Az<|Bg () [0])<|Xy [] r (Le kk189 (Oc 0 r) H24 r)<|A1 9<|Xy [] r (Le kk189 (Oc 0 r) H22 r)<|A1 14<|Xy [] r (Ix ke90 (Oc 0 r) H24 r)<|A1 15<|Xu [] r (Se E21 0 kk189 H24 r (Cp r) r)<|A1 16<|Xy [] r (Ix ke90 (Oc 0 r) H26 r)<|A1 17<|Xu [] r (Se E23 0 kk189 H26 r (Cp r) r)<|Az<|Bg () [0]
      exact Xy [] r (Le kk189 (Oc 0 r) H24 r)<|A1 8<|Xy [] r (Ix ke90 (Oc 0 r) H22 r)<|A1 9<|Xy [] r (Le kk189 (Oc 0 r) H22 r)<|A1 14<|Xy [] r (Ix ke90 (Oc 0 r) H24 r)<|A1 15<|Xu [] r (Se E21 0 kk189 H24 r (Cp r) r)<|A1 16<|Xy [] r (Ix ke90 (Oc 0 r) H26 r)<|A1 17<|Xu [] r (Se E23 0 kk189 H26 r (Cp r) r)<|Az<|Bg () [0]
     exact Bn<|Ne<|Rg<|Qs 3 r<|Nl<|Lg () [0]
    exact Wx<|Tx<|Ex<|Be<|Jg () [0]
   exact Bn<|Ne<|Rg<|Qs 3 r<|Nl<|Lg () [0]
  exact Wx<|Tx<|Ex<|Be<|Jg () [0]
 exact Re () [0]
noncomputable def zn (data:List Ent) (a:Int) (b:Int) (n:Int):Option (List Ent):=
 bindC (loopO (fun (S1:Int × List Ent)=>if decide (S1.1<n) then ((idx S1.2 (IntKind.i64.wrap (b+S1.1))).bind fun E6=>
 (idx S1.2 (IntKind.i64.wrap (a+S1.1))).bind fun E8=>
 (idx (S1.2.set ((IntKind.i64.wrap (a+S1.1)).toNat) E6) (IntKind.i64.wrap (b+S1.1))).bind fun E10=>
 some (.go (IntKind.i64.wrap (S1.1+1),((S1.2.set ((IntKind.i64.wrap (a+S1.1)).toNat) E6).set ((IntKind.i64.wrap (b+S1.1)).toNat) E8))))
 else (some (.done (.go S1.2))))
 ((0:Int),data))
 (fun (T3:List Ent)=>some T3)
theorem zX {data:List Ent} {a:Int} {b:Int} {n:Int} {U0:Value} :Cn Tryz.prog 214 [U0,iv a,iv b,iv n,.func (.func 169) #[] #[]] [.own U0 (lc data)] [] (zn data a b n) (fun _ (_:Unit)=>.tuple #[]) fun r _=>[.own U0 (lc r)]:=by
 unfold zn
 refine Ci Tryz.func214 r r ?_
 rintro w S -
 refine Sr<|Qs 1 r<|Nx<|Jn Unit [] [] (fun _ _=>[]) (fun T _=>[.own U0 (lc T)]) r2 r2 (?_) fun T3 X4=>?_
 ·refine Wb<|Lp Unit [0,1,2,3] [] (fun T _=>[(10,iv T.1)]) (fun T _=>[.own U0 (lc T.2)]) () [0] r2 r2 fun S1 X2=>Sq<|Sr<|Qs 3 r<|Nx<|Wc r (fun H5=>?_) fun H5=>?_
  ·refine Sn<|Sq<|Wb<|Wi fun E6 H7=>Wi fun E8 H9=>Wi fun E10 H11=>Jw Unit [0,1,2,3,10] [] (fun _=>[]) (fun _=>[.own U0 (lc ((S1.2.set ((IntKind.i64.wrap (a+S1.1)).toNat) E6).set ((IntKind.i64.wrap (b+S1.1)).toNat) E8))]) r1 r1 (?_) fun X13=>?_
   ·refine Dr [] r hMix<|Aq [0,1,2,3,4,5,6,7,8,9,10,11,14,15,16,17] [] r<|A2 12 18 (?_)<|?_
    ·refine Xy [] r (Ix ke90 (Oc 0 r) H7 r)<|A2 13 18 (?_)<|?_
     ·exact Xy [] r (Le kk189 (Oc 0 r) H7 r)<|A1 18<|Xy [] r (Ix ke90 (Oc 0 r) H9 r)<|A1 19<|Xy [] r (Le kk189 (Oc 0 r) H9 r)<|A1 20<|Xy [] r (Ix ke90 (Oc 0 r) H9 r)<|A1 21<|Xu [] r (Se E6 0 kk189 H9 r (Cp r) r)<|A1 22<|Xy [] r (Ix ke90 (Oc 0 r) H11 r)<|A1 23<|Xu [] r (Se E8 0 kk189 H11 r (Cp r) r)<|Az<|Bg () [0]
     exact Xy [] r (Ix ke90 (Oc 0 r) H9 r)<|A2 13 19 (Xy [] r (Le kk189 (Oc 0 r) H7 r)<|A1 19<|Xy [] r (Le kk189 (Oc 0 r) H9 r)<|A1 20<|Xy [] r (Ix ke90 (Oc 0 r) H9 r)<|A1 21<|Xu [] r (Se E6 0 kk189 H9 r (Cp r) r)<|A1 22<|Xy [] r (Ix ke90 (Oc 0 r) H11 r)<|A1 23<|Xu [] r (Se E8 0 kk189 H11 r (Cp r) r)<|Az<|Bg () [0])<|Xy [] r (Le kk189 (Oc 0 r) H9 r)<|A1 13<|Xy [] r (Le kk189 (Oc 0 r) H7 r)<|A1 20<|Xy [] r (Ix ke90 (Oc 0 r) H9 r)<|A1 21<|Xu [] r (Se E6 0 kk189 H9 r (Cp r) r)<|A1 22<|Xy [] r (Ix ke90 (Oc 0 r) H11 r)<|A1 23<|Xu [] r (Se E8 0 kk189 H11 r (Cp r) r)<|Az<|Bg () [0]
    refine Xy [] r (Ix ke90 (Oc 0 r) H9 r)<|A2 12 19 (?_)<|?_
    ·exact Xy [] r (Ix ke90 (Oc 0 r) H7 r)<|A2 13 19 (Xy [] r (Le kk189 (Oc 0 r) H7 r)<|A1 19<|Xy [] r (Le kk189 (Oc 0 r) H9 r)<|A1 20<|Xy [] r (Ix ke90 (Oc 0 r) H9 r)<|A1 21<|Xu [] r (Se E6 0 kk189 H9 r (Cp r) r)<|A1 22<|Xy [] r (Ix ke90 (Oc 0 r) H11 r)<|A1 23<|Xu [] r (Se E8 0 kk189 H11 r (Cp r) r)<|Az<|Bg () [0])<|Xy [] r (Le kk189 (Oc 0 r) H9 r)<|A1 13<|Xy [] r (Le kk189 (Oc 0 r) H7 r)<|A1 20<|Xy [] r (Ix ke90 (Oc 0 r) H9 r)<|A1 21<|Xu [] r (Se E6 0 kk189 H9 r (Cp r) r)<|A1 22<|Xy [] r (Ix ke90 (Oc 0 r) H11 r)<|A1 23<|Xu [] r (Se E8 0 kk189 H11 r (Cp r) r)<|Az<|Bg () [0]
    exact Xy [] r (Le kk189 (Oc 0 r) H9 r)<|A1 12<|Xy [] r (Ix ke90 (Oc 0 r) H7 r)<|A1 13<|Xy [] r (Le kk189 (Oc 0 r) H7 r)<|A1 20<|Xy [] r (Ix ke90 (Oc 0 r) H9 r)<|A1 21<|Xu [] r (Se E6 0 kk189 H9 r (Cp r) r)<|A1 22<|Xy [] r (Ix ke90 (Oc 0 r) H11 r)<|A1 23<|Xu [] r (Se E8 0 kk189 H11 r (Cp r) r)<|Az<|Bg () [0]
   exact Bn<|Ne<|Rg<|Qs 3 r<|Nl<|Lg () [0]
  exact Wx<|Tx<|Ex<|Be<|Jg () [0]
 exact Re () [0]
noncomputable def zH (data:List Ent) (a:Int) (m:Int) (b:Int):Option (List Ent):=
 bindC (loopO (fun (S1:Int × Int × List Ent)=>if !(decide (S1.1=S1.2.1)) then (bindC (if decide (S1.1>S1.2.1) then ((zn S1.2.2 (IntKind.i64.wrap (m - S1.1)) m S1.2.1).bind fun R9=>
 some (.go (IntKind.i64.wrap (S1.1 - S1.2.1),S1.2.1,R9)))
 else ((zn S1.2.2 (IntKind.i64.wrap (m - S1.1)) (IntKind.i64.wrap (IntKind.i64.wrap (m+S1.2.1) - S1.1)) S1.1).bind fun R12=>
 some (.go (S1.1,IntKind.i64.wrap (S1.2.1 - S1.1),R12))))
 (fun (T6:Int × Int × List Ent)=>some (.go (T6.1,T6.2.1,T6.2.2))))
 else (some (.done (.go (S1.1,S1.2.2)))))
 (IntKind.i64.wrap (m - a),IntKind.i64.wrap (b - m),data))
 (fun (T3:Int × List Ent)=>(zn T3.2 (IntKind.i64.wrap (m - T3.1)) m T3.1).bind fun R15=>
 some R15)
theorem zdo {data:List Ent} {a:Int} {m:Int} {b:Int} {U0:Value} :Cn Tryz.prog 211 [U0,iv a,iv m,iv b,.func (.func 169) #[] #[]] [.own U0 (lc data)] [] (zH data a m b) (fun _ (_:Unit)=>.tuple #[]) fun r _=>[.own U0 (lc r)]:=by
 unfold zH
 refine Ci Tryz.func211 r r ?_
 rintro w S -
 refine Sr<|Qs 4 r<|Nx<|Sr<|Qs 4 r<|Nx<|Sq<|Jn Unit [0,2,4] [] (fun T _=>[(10,iv T.1)]) (fun T _=>[.own U0 (lc T.2)]) r2 r2 (?_) fun T3 X4=>?_
 ·refine Wb<|Lp Unit [0,2,4] [] (fun T _=>[(10,iv T.1),(11,iv T.2.1)]) (fun T _=>[.own U0 (lc T.2.2)]) () [0] r2 r2 fun S1 X2=>Sq<|Sr<|Qs 3 r<|Nx<|Wc r (fun H5=>?_) fun H5=>?_
  ·refine Sn<|Wb<|Sr<|Qs 3 r<|Nx<|Jn Unit [0,2,4] [] (fun T _=>[(10,iv T.1),(11,iv T.2.1)]) (fun T _=>[.own U0 (lc T.2.2)]) r2 r2 (?_) fun T6 X7=>?_
   ·exact Wc r (fun H8=>Sr<|Qs 7 r<|Bi fun R9 H10=>Fo (Cl [0] zX H10 r r1) fun _=>Nx<|Rg<|Qs 4 r<|Nl<|Jg () [0]) fun H8=>Sr<|Qs 11 r<|Bi fun R12 H13=>Fo (Cl [0] zX H13 r r1) fun _=>Nx<|Rg<|Qs 4 r<|Nl<|Jg () [0]
   exact Bn<|Lg () [0]
  exact Wx<|Tx<|Ex<|Be<|Jg () [0]
 exact Ne<|Rg<|Qs 7 r<|Bi fun R15 H16=>Fo (Cl [0] zX H16 r r1) fun _=>Nl<|Re () [0]
end Go.Proofs.YtfgjhefhlabpkaaGreat
