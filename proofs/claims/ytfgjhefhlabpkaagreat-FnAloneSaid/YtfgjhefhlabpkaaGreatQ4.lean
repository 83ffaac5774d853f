/-
  The functions that a law reaches, each as a pure function, with the proof that the program computes it, and the step from a pure law to the given statement. Conditions: none.
-/
import Derived.Test.YtfgjhefhlabpkaaGreatQ3
set_option linter.unusedVariables false
set_option maxRecDepth 100000
set_option maxHeartbeats 4000000
namespace Go.Proofs.YtfgjhefhlabpkaaGreat
open Go Sl
noncomputable def zg:Nat→List Ent→Int→Int→Int→Option (List Ent)
 | 0,_,_,_,_=>none
 | f_+1,data,a,m,b=>
 if decide (IntKind.i64.wrap (m - a)=1) then (bindC (loopO (fun (S2:Int × Int)=>if decide (S2.1<S2.2) then ((idx data (IntKind.i64.wrap (ishr .u64 (IntKind.u64.wrap (IntKind.i64.wrap (S2.1+S2.2))) 1))).bind fun E7=>
 (idx data a).bind fun E9=>
 (zu E7 E9).bind fun R11=>
 bindC (if decide (R11<0) then (some (.go (IntKind.i64.wrap (IntKind.i64.wrap (ishr .u64 (IntKind.u64.wrap (IntKind.i64.wrap (S2.1+S2.2))) 1)+1),S2.2)))
 else (some (.go (S2.1,IntKind.i64.wrap (ishr .u64 (IntKind.u64.wrap (IntKind.i64.wrap (S2.1+S2.2))) 1)))))
 (fun (T14:Int × Int)=>some (.go (T14.1,T14.2))))
 else (some (.done (.go S2.1))))
 (m,b))
 (fun (T4:Int)=>bindC (loopO (fun (S17:Int × List Ent)=>if decide (S17.1<IntKind.i64.wrap (T4 - 1)) then ((idx S17.2 (IntKind.i64.wrap (S17.1+1))).bind fun E22=>
 (idx S17.2 S17.1).bind fun E24=>
 (idx (S17.2.set S17.1.toNat E22) (IntKind.i64.wrap (S17.1+1))).bind fun E26=>
 some (.go (IntKind.i64.wrap (S17.1+1),((S17.2.set S17.1.toNat E22).set ((IntKind.i64.wrap (S17.1+1)).toNat) E24))))
 else (some (.done (.go S17.2))))
 (a,data))
 (fun (T19:List Ent)=>some T19)))
 else (if decide (IntKind.i64.wrap (b - m)=1) then (bindC (loopO (fun (S31:Int × Int)=>if decide (S31.1<S31.2) then ((idx data m).bind fun E36=>
 (idx data (IntKind.i64.wrap (ishr .u64 (IntKind.u64.wrap (IntKind.i64.wrap (S31.1+S31.2))) 1))).bind fun E38=>
 (zu E36 E38).bind fun R40=>
 bindC (if !(decide (R40<0)) then (some (.go (IntKind.i64.wrap (IntKind.i64.wrap (ishr .u64 (IntKind.u64.wrap (IntKind.i64.wrap (S31.1+S31.2))) 1)+1),S31.2)))
 else (some (.go (S31.1,IntKind.i64.wrap (ishr .u64 (IntKind.u64.wrap (IntKind.i64.wrap (S31.1+S31.2))) 1)))))
 (fun (T43:Int × Int)=>some (.go (T43.1,T43.2))))
 else (some (.done (.go S31.1))))
 (a,m))
 (fun (T33:Int)=>bindC (loopO (fun (S46:Int × List Ent)=>if decide (S46.1>T33) then ((idx S46.2 (IntKind.i64.wrap (S46.1 - 1))).bind fun E51=>
 (idx S46.2 S46.1).bind fun E53=>
 (idx (S46.2.set S46.1.toNat E51) (IntKind.i64.wrap (S46.1 - 1))).bind fun E55=>
 some (.go (IntKind.i64.wrap (S46.1 - 1),((S46.2.set S46.1.toNat E51).set ((IntKind.i64.wrap (S46.1 - 1)).toNat) E53))))
 else (some (.done (.go S46.2))))
 (m,data))
 (fun (T48:List Ent)=>some T48)))
 else (bindC (if decide (m>IntKind.i64.wrap (ishr .u64 (IntKind.u64.wrap (IntKind.i64.wrap (a+b))) 1)) then (some (.go (IntKind.i64.wrap (IntKind.i64.wrap (IntKind.i64.wrap (ishr .u64 (IntKind.u64.wrap (IntKind.i64.wrap (a+b))) 1)+m) - b),IntKind.i64.wrap (ishr .u64 (IntKind.u64.wrap (IntKind.i64.wrap (a+b))) 1))))
 else (some (.go (a,m))))
 (fun (T59:Int × Int)=>bindC (loopO (fun (S62:Int × Int)=>if decide (S62.1<S62.2) then ((idx data (IntKind.i64.wrap (IntKind.i64.wrap (IntKind.i64.wrap (IntKind.i64.wrap (ishr .u64 (IntKind.u64.wrap (IntKind.i64.wrap (a+b))) 1)+m) - 1) - (IntKind.i64.wrap (ishr .u64 (IntKind.u64.wrap (IntKind.i64.wrap (S62.1+S62.2))) 1))))).bind fun E67=>
 (idx data (IntKind.i64.wrap (ishr .u64 (IntKind.u64.wrap (IntKind.i64.wrap (S62.1+S62.2))) 1))).bind fun E69=>
 (zu E67 E69).bind fun R71=>
 bindC (if !(decide (R71<0)) then (some (.go (IntKind.i64.wrap (IntKind.i64.wrap (ishr .u64 (IntKind.u64.wrap (IntKind.i64.wrap (S62.1+S62.2))) 1)+1),S62.2)))
 else (some (.go (S62.1,IntKind.i64.wrap (ishr .u64 (IntKind.u64.wrap (IntKind.i64.wrap (S62.1+S62.2))) 1)))))
 (fun (T74:Int × Int)=>some (.go (T74.1,T74.2))))
 else (some (.done (.go S62.1))))
 (T59.1,T59.2))
 (fun (T64:Int)=>(if decide (T64<m) then (some (decide (m<IntKind.i64.wrap (IntKind.i64.wrap (IntKind.i64.wrap (ishr .u64 (IntKind.u64.wrap (IntKind.i64.wrap (a+b))) 1)+m) - T64))))
 else (some false)).bind (fun (T77:Bool)=>
 bindC (if T77=true then ((zH data T64 m (IntKind.i64.wrap (IntKind.i64.wrap (IntKind.i64.wrap (ishr .u64 (IntKind.u64.wrap (IntKind.i64.wrap (a+b))) 1)+m) - T64))).bind fun R83=>
 some (.go R83))
 else (some (.go data)))
 (fun (T80:List Ent)=>(if decide (a<T64) then (some (decide (T64<IntKind.i64.wrap (ishr .u64 (IntKind.u64.wrap (IntKind.i64.wrap (a+b))) 1))))
 else (some false)).bind (fun (T86:Bool)=>
 bindC (if T86=true then ((zg f_ T80 a T64 (IntKind.i64.wrap (ishr .u64 (IntKind.u64.wrap (IntKind.i64.wrap (a+b))) 1))).bind fun R92=>
 some (.go R92))
 else (some (.go T80)))
 (fun (T89:List Ent)=>(if decide (IntKind.i64.wrap (ishr .u64 (IntKind.u64.wrap (IntKind.i64.wrap (a+b))) 1)<IntKind.i64.wrap (IntKind.i64.wrap (IntKind.i64.wrap (ishr .u64 (IntKind.u64.wrap (IntKind.i64.wrap (a+b))) 1)+m) - T64)) then (some (decide (IntKind.i64.wrap (IntKind.i64.wrap (IntKind.i64.wrap (ishr .u64 (IntKind.u64.wrap (IntKind.i64.wrap (a+b))) 1)+m) - T64)<b)))
 else (some false)).bind (fun (T95:Bool)=>
 bindC (if T95=true then ((zg f_ T89 (IntKind.i64.wrap (ishr .u64 (IntKind.u64.wrap (IntKind.i64.wrap (a+b))) 1)) (IntKind.i64.wrap (IntKind.i64.wrap (IntKind.i64.wrap (ishr .u64 (IntKind.u64.wrap (IntKind.i64.wrap (a+b))) 1)+m) - T64)) b).bind fun R101=>
 some (.go R101))
 else (some (.go T89)))
 (fun (T98:List Ent)=>some T98))))))))))
theorem zcX (f_:Nat): ∀{data:List Ent} {a:Int} {m:Int} {b:Int} {U0:Value},Cn Tryz.prog 204 [U0,iv a,iv m,iv b,.func (.func 169) #[] #[]] [.own U0 (lc data)] [] (zg f_ data a m b) (fun _ (_:Unit)=>.tuple #[]) fun r _=>[.own U0 (lc r)]:=by
 induction f_ with
 | zero=>intros;exact ⟨by kernel_rfl,fun q h_=>absurd (show (none:Option (List Ent))=some q from h_) (fun h_=>by cases h_)⟩
 | succ f_ ih_=>
   intro data a m b U0
   rw[zg]
   refine Ci Tryz.func204 r r ?_
   rintro w S -
   refine Sq<|Sr<|Qs 4 r<|Nx<|Wc r (fun H1=>?_) fun H1=>?_
   ·refine Sr<|Qs 2 r<|Nx<|Sr<|Qs 2 r<|Nx<|Sq<|Ju [0,1] (fun T=>[(10,iv T)]) r1 (?_) fun T4=>?_
    ·refine Wb<|Lu [0,1,4] (fun T=>[(10,iv T.1),(11,iv T.2)]) r1 fun S2=>Sq<|Sr<|Qs 3 r<|Nx<|Wc r (fun H6=>?_) fun H6=>?_
     ·refine Sn<|Wb<|Sr<|Qs 3 r<|Yo (Y.conv ki3 ki79 r)<|Yo (Y.shr (by decide) r r)<|Yo (Y.conv ki79 ki3 r)<|Qs 1 r<|Nx<|Sq<|Dr [0] r hMix<|Aq [0,1,2] [0] r<|Ai fun E7 H8=>Ay 3 [0] r (Ix ke90 (Oc 0 r) H8 r)<|Ay 4 [0] r (Le kk189 (Oc 0 r) H8 r)<|Aq [5,6] [0] r<|Ai fun E9 H10=>Ay 7 [0] r (Ix ke90 (Oc 0 r) H10 r)<|Ay 8 [0] r (Le kk189 (Oc 0 r) H10 r)<|Ai fun R11 H12=>A1 9<|Xe [0] r (Cw [] zb5 H12 r r r1) fun _=>Aq [10] [0] r<|Az<|Ne<|Ju [0,1,4] (fun T=>[(10,iv T.1),(11,iv T.2)]) r1 (Wc r (fun H16=>Rg<|Qs 3 r<|Nl<|Jg () [0]) fun H16=>Rg<|Qs 2 r<|Nl<|Jg () [0]) fun T14=>?_
      exact Bn<|Lg () [0]
     exact Wx<|Tx<|Ex<|Be<|Jg () [0]
    refine Ne<|Sq<|Sr<|Qs 2 r<|Nx<|Jn Unit [] [] (fun _ _=>[]) (fun T _=>[.own U0 (lc T)]) r2 r2 (?_) fun T19 X20=>?_
    ·refine Wb<|Lp Unit [0,10] [] (fun T _=>[(13,iv T.1)]) (fun T _=>[.own U0 (lc T.2)]) () [0] r2 r2 fun S17 X18=>Sq<|Sr<|Qs 4 r<|Nx<|Wc r (fun H21=>?_) fun H21=>?_
     ·refine Sn<|Sq<|Wb<|Wi fun E22 H23=>Wi fun E24 H25=>Wi fun E26 H27=>Jw Unit [0,10,13] [] (fun _=>[]) (fun _=>[.own U0 (lc ((S17.2.set S17.1.toNat E22).set ((IntKind.i64.wrap (S17.1+1)).toNat) E24))]) r1 r1 (?_) fun X29=>?_
      ·refine Dr [] r hMix<|Aq [0,1,2,3,4,5,6,7,10,11] [] r<|A2 8 12 (?_)<|?_
       ·refine Xy [] r (Ix ke90 (Oc 0 r) H23 r)<|A2 9 12 (?_)<|?_
        ·exact Xy [] r (Le kk189 (Oc 0 r) H23 r)<|A1 12<|Xy [] r (Ix ke90 (Oc 0 r) H25 r)<|A1 13<|Xy [] r (Le kk189 (Oc 0 r) H25 r)<|A1 14<|Xy [] r (Ix ke90 (Oc 0 r) H25 r)<|A1 15<|Xu [] r (Se E22 0 kk189 H25 r (Cp r) r)<|A1 16<|Xy [] r (Ix ke90 (Oc 0 r) H27 r)<|A1 17<|Xu [] r (Se E24 0 kk189 H27 r (Cp r) r)<|Az<|Bg () [0]
        exact Xy [] r (Ix ke90 (Oc 0 r) H25 r)<|A2 9 13 (Xy [] r (Le kk189 (Oc 0 r) H23 r)<|A1 13<|Xy [] r (Le kk189 (Oc 0 r) H25 r)<|A1 14<|Xy [] r (Ix ke90 (Oc 0 r) H25 r)<|A1 15<|Xu [] r (Se E22 0 kk189 H25 r (Cp r) r)<|A1 16<|Xy [] r (Ix ke90 (Oc 0 r) H27 r)<|A1 17<|Xu [] r (Se E24 0 kk189 H27 r (Cp r) r)<|Az<|Bg () [0])<|Xy [] r (Le kk189 (Oc 0 r) H25 r)<|A1 9<|Xy [] r (Le kk189 (Oc 0 r) H23 r)<|A1 14<|Xy [] r (Ix ke90 (Oc 0 r) H25 r)<|A1 15<|Xu [] r (Se E22 0 kk189 H25 r (Cp r) r)<|A1 16<|Xy [] r (Ix ke90 (Oc 0 r) H27 r)<|A1 17<|Xu [] r (Se E24 0 kk189 H27 r (Cp r) r)<|Az<|Bg () [0]
       refine Xy [] r (Ix ke90 (Oc 0 r) H25 r)<|A2 8 13 (?_)<|?_
       ·exact Xy [] r (Ix ke90 (Oc 0 r) H23 r)<|A2 9 13 (Xy [] r (Le kk189 (Oc 0 r) H23 r)<|A1 13<|Xy [] r (Le kk189 (Oc 0 r) H25 r)<|A1 14<|Xy [] r (Ix ke90 (Oc 0 r) H25 r)<|A1 15<|Xu [] r (Se E22 0 kk189 H25 r (Cp r) r)<|A1 16<|Xy [] r (Ix ke90 (Oc 0 r) H27 r)<|A1 17<|Xu [] r (Se E24 0 kk189 H27 r (Cp r) r)<|Az<|Bg () [0])<|Xy [] r (Le kk189 (Oc 0 r) H25 r)<|A1 9<|Xy [] r (Le kk189 (Oc 0 r) H23 r)<|A1 14<|Xy [] r (Ix ke90 (Oc 0 r) H25 r)<|A1 15<|Xu [] r (Se E22 0 kk189 H25 r (Cp r) r)<|A1 16<|Xy [] r (Ix ke90 (Oc 0 r) H27 r)<|A1 17<|Xu [] r (Se E24 0 kk189 H27 r (Cp r) r)<|Az<|Bg () [0]
       exact Xy [] r (Le kk189 (Oc 0 r) H25 r)<|A1 8<|Xy [] r (Ix ke90 (Oc 0 r) H23 r)<|A1 9<|Xy [] r (Le kk189 (Oc 0 r) H23 r)<|A1 14<|Xy [] r (Ix ke90 (Oc 0 r) H25 r)<|A1 15<|Xu [] r (Se E22 0 kk189 H25 r (Cp r) r)<|A1 16<|Xy [] r (Ix ke90 (Oc 0 r) H27 r)<|A1 17<|Xu [] r (Se E24 0 kk189 H27 r (Cp r) r)<|Az<|Bg () [0]
      exact Bn<|Ne<|Rg<|Qs 3 r<|Nl<|Lg () [0]
     exact Wx<|Tx<|Ex<|Be<|Jg () [0]
    exact Ne<|Wr<|Tr<|Re () [0]
   refine Sn<|Sq<|Sr<|Qs 4 r<|Nx<|Wc r (fun H30=>?_) fun H30=>?_
   ·refine Sr<|Qs 2 r<|Nx<|Sr<|Qs 2 r<|Nx<|Sq<|Ju [0,2] (fun T=>[(14,iv T)]) r1 (?_) fun T33=>?_
    ·refine Wb<|Lu [0,2,4] (fun T=>[(14,iv T.1),(15,iv T.2)]) r1 fun S31=>Sq<|Sr<|Qs 3 r<|Nx<|Wc r (fun H35=>?_) fun H35=>?_
     ·refine Sn<|Wb<|Sr<|Qs 3 r<|Yo (Y.conv ki3 ki79 r)<|Yo (Y.shr (by decide) r r)<|Yo (Y.conv ki79 ki3 r)<|Qs 1 r<|Nx<|Sq<|Dr [0] r hMix<|Aq [0,1,2] [0] r<|Ai fun E36 H37=>Ay 3 [0] r (Ix ke90 (Oc 0 r) H37 r)<|Ay 4 [0] r (Le kk189 (Oc 0 r) H37 r)<|Aq [5,6] [0] r<|Ai fun E38 H39=>Ay 7 [0] r (Ix ke90 (Oc 0 r) H39 r)<|Ay 8 [0] r (Le kk189 (Oc 0 r) H39 r)<|Ai fun R40 H41=>A1 9<|Xe [0] r (Cw [] zb5 H41 r r r1) fun _=>Aq [10,11] [0] r<|Az<|Ne<|Ju [0,2,4] (fun T=>[(14,iv T.1),(15,iv T.2)]) r1 (Wc r (fun H45=>Rg<|Qs 3 r<|Nl<|Jg () [0]) fun H45=>Rg<|Qs 2 r<|Nl<|Jg () [0]) fun T43=>?_
      exact Bn<|Lg () [0]
     exact Wx<|Tx<|Ex<|Be<|Jg () [0]
    refine Ne<|Sq<|Sr<|Qs 2 r<|Nx<|Jn Unit [] [] (fun _ _=>[]) (fun T _=>[.own U0 (lc T)]) r2 r2 (?_) fun T48 X49=>?_
    ·refine Wb<|Lp Unit [0,14] [] (fun T _=>[(17,iv T.1)]) (fun T _=>[.own U0 (lc T.2)]) () [0] r2 r2 fun S46 X47=>Sq<|Sr<|Qs 3 r<|Nx<|Wc r (fun H50=>?_) fun H50=>?_
     ·refine Sn<|Sq<|Wb<|Wi fun E51 H52=>Wi fun E53 H54=>Wi fun E55 H56=>Jw Unit [0,14,17] [] (fun _=>[]) (fun _=>[.own U0 (lc ((S46.2.set S46.1.toNat E51).set ((IntKind.i64.wrap (S46.1 - 1)).toNat) E53))]) r1 r1 (?_) fun X58=>?_
      ·refine Dr [] r hMix<|Aq [0,1,2,3,4,5,6,7,10,11] [] r<|A2 8 12 (?_)<|?_
       ·refine Xy [] r (Ix ke90 (Oc 0 r) H52 r)<|A2 9 12 (?_)<|?_
        ·exact Xy [] r (Le kk189 (Oc 0 r) H52 r)<|A1 12<|Xy [] r (Ix ke90 (Oc 0 r) H54 r)<|A1 13<|Xy [] r (Le kk189 (Oc 0 r) H54 r)<|A1 14<|Xy [] r (Ix ke90 (Oc 0 r) H54 r)<|A1 15<|Xu [] r (Se E51 0 kk189 H54 r (Cp r) r)<|A1 16<|Xy [] r (Ix ke90 (Oc 0 r) H56 r)<|A1 17<|Xu [] r (Se E53 0 kk189 H56 r (Cp r) r)<|Az<|Bg () [0]
        exact Xy [] r (Ix ke90 (Oc 0 r) H54 r)<|A2 9 13 (Xy [] r (Le kk189 (Oc 0 r) H52 r)<|A1 13<|Xy [] r (Le kk189 (Oc 0 r) H54 r)<|A1 14<|Xy [] r (Ix ke90 (Oc 0 r) H54 r)<|A1 15<|Xu [] r (Se E51 0 kk189 H54 r (Cp r) r)<|A1 16<|Xy [] r (Ix ke90 (Oc 0 r) H56 r)<|A1 17<|Xu [] r (Se E53 0 kk189 H56 r (Cp r) r)<|Az<|Bg () [0])<|Xy [] r (Le kk189 (Oc 0 r) H54 r)<|A1 9<|Xy [] r (Le kk189 (Oc 0 r) H52 r)<|A1 14<|Xy [] r (Ix ke90 (Oc 0 r) H54 r)<|A1 15<|Xu [] r (Se E51 0 kk189 H54 r (Cp r) r)<|A1 16<|Xy [] r (Ix ke90 (Oc 0 r) H56 r)<|A1 17<|Xu [] r (Se E53 0 kk189 H56 r (Cp r) r)<|Az<|Bg () [0]
       refine Xy [] r (Ix ke90 (Oc 0 r) H54 r)<|A2 8 13 (?_)<|?_
       ·exact Xy [] r (Ix ke90 (Oc 0 r) H52 r)<|A2 9 13 (Xy [] r (Le kk189 (Oc 0 r) H52 r)<|A1 13<|Xy [] r (Le kk189 (Oc 0 r) H54 r)<|A1 14<|Xy [] r (Ix ke90 (Oc 0 r) H54 r)<|A1 15<|Xu [] r (Se E51 0 kk189 H54 r (Cp r) r)<|A1 16<|Xy [] r (Ix ke90 (Oc 0 r) H56 r)<|A1 17<|Xu [] r (Se E53 0 kk189 H56 r (Cp r) r)<|Az<|Bg () [0])<|Xy [] r (Le kk189 (Oc 0 r) H54 r)<|A1 9<|Xy [] r (Le kk189 (Oc 0 r) H52 r)<|A1 14<|Xy [] r (Ix ke90 (Oc 0 r) H54 r)<|A1 15<|Xu [] r (Se E51 0 kk189 H54 r (Cp r) r)<|A1 16<|Xy [] r (Ix ke90 (Oc 0 r) H56 r)<|A1 17<|Xu [] r (Se E53 0 kk189 H56 r (Cp r) r)<|Az<|Bg () [0]
       exact Xy [] r (Le kk189 (Oc 0 r) H54 r)<|A1 8<|Xy [] r (Ix ke90 (Oc 0 r) H52 r)<|A1 9<|Xy [] r (Le kk189 (Oc 0 r) H52 r)<|A1 14<|Xy [] r (Ix ke90 (Oc 0 r) H54 r)<|A1 15<|Xu [] r (Se E51 0 kk189 H54 r (Cp r) r)<|A1 16<|Xy [] r (Ix ke90 (Oc 0 r) H56 r)<|A1 17<|Xu [] r (Se E53 0 kk189 H56 r (Cp r) r)<|Az<|Bg () [0]
      exact Bn<|Ne<|Rg<|Qs 3 r<|Nl<|Lg () [0]
     exact Wx<|Tx<|Ex<|Be<|Jg () [0]
    exact Ne<|Wr<|Tr<|Re () [0]
   refine Sn<|Sr<|Qs 3 r<|Yo (Y.conv ki3 ki79 r)<|Yo (Y.shr (by decide) r r)<|Yo (Y.conv ki79 ki3 r)<|Qs 1 r<|Nx<|Sr<|Qs 4 r<|Nx<|Sr<|Qs 2 r<|Nx<|Sq<|Sr<|Qs 3 r<|Nx<|Ju [0,1,2,3,4,18,19] (fun T=>[(20,iv T.1),(21,iv T.2)]) r1 (Wc r (fun H61=>Sr<|Qs 4 r<|Nx<|Rg<|Qs 2 r<|Nl<|Jg () [0]) fun H61=>Sr<|Qs 2 r<|Nx<|Rg<|Qs 2 r<|Nl<|Jg () [0]) fun T59=>Ne<|Sr<|Qs 3 r<|Nx<|Sq<|Ju [0,1,2,3,4,18,19] (fun T=>[(20,iv T)]) r1 (?_) fun T64=>?_
   ·refine Wb<|Lu [0,1,2,3,4,18,19,22] (fun T=>[(20,iv T.1),(21,iv T.2)]) r1 fun S62=>Sq<|Sr<|Qs 3 r<|Nx<|Wc r (fun H66=>?_) fun H66=>?_
    ·refine Sn<|Wb<|Sr<|Qs 3 r<|Yo (Y.conv ki3 ki79 r)<|Yo (Y.shr (by decide) r r)<|Yo (Y.conv ki79 ki3 r)<|Qs 1 r<|Nx<|Sq<|Dr [0] r hMix<|Aq [0,1,2,3,4] [0] r<|Ai fun E67 H68=>Ay 5 [0] r (Ix ke90 (Oc 0 r) H68 r)<|Ay 6 [0] r (Le kk189 (Oc 0 r) H68 r)<|Aq [7,8] [0] r<|Ai fun E69 H70=>Ay 9 [0] r (Ix ke90 (Oc 0 r) H70 r)<|Ay 10 [0] r (Le kk189 (Oc 0 r) H70 r)<|Ai fun R71 H72=>A1 11<|Xe [0] r (Cw [] zb5 H72 r r r1) fun _=>Aq [12,13] [0] r<|Az<|Ne<|Ju [0,1,2,3,4,18,19,22] (fun T=>[(20,iv T.1),(21,iv T.2)]) r1 (Wc r (fun H76=>Rg<|Qs 3 r<|Nl<|Jg () [0]) fun H76=>Rg<|Qs 2 r<|Nl<|Jg () [0]) fun T74=>?_
     exact Bn<|Lg () [0]
    exact Wx<|Tx<|Ex<|Be<|Jg () [0]
   refine Ne<|Sr<|Qs 4 r<|Nx<|Sq<|Sq<|Jv [0,1,2,3,4,18,20,24] (fun T=>[(185,.bool T)]) r1 (Rg<|Qs 4 r<|It (fun H79=>Qg 3 (zd H79) r r<|Yo (Pt H79 r)<|Nl<|Bg () [0]) fun H79=>Of 3 (zt H79) r r<|Yo (Pf H79 r)<|Nl<|Bg () [0]) fun T77=>Ne<|Jn Unit [0,1,3,4,18,20,24] [] (fun _ _=>[]) (fun T _=>[.own U0 (lc T)]) r2 r2 (Wc r (fun H82=>Rg<|Qs 5 r<|Bi fun R83 H84=>Fo (Cl [0] zdo H84 r r1) fun _=>Nl<|Jg () [0]) fun H82=>Sk<|Jg () [0]) fun T80 X81=>Ne<|Sq<|Sq<|Jv [0,1,3,4,18,20,24] (fun T=>[(199,.bool T)]) r1 (Rg<|Qs 4 r<|It (fun H88=>Qg 3 (zd H88) r r<|Yo (Pt H88 r)<|Nl<|Bg () [0]) fun H88=>Of 3 (zt H88) r r<|Yo (Pf H88 r)<|Nl<|Bg () [0]) fun T86=>?_
   refine Ne<|Jn Unit [0,3,4,18,24] [] (fun _ _=>[]) (fun T _=>[.own U0 (lc T)]) r2 r2 (Wc r (fun H91=>Rg<|Qs 5 r<|Bi fun R92 H93=>Fo (Cl [0] ih_ H93 r r1) fun _=>Nl<|Jg () [0]) fun H91=>Sk<|Jg () [0]) fun T89 X90=>Ne<|Sq<|Jv [0,3,4,18,24] (fun T=>[(213,.bool T)]) r1 (Rg<|Qs 4 r<|It (fun H97=>Qg 3 (zd H97) r r<|Yo (Pt H97 r)<|Nl<|Bg () [0]) fun H97=>Of 3 (zt H97) r r<|Yo (Pf H97 r)<|Nl<|Bg () [0]) fun T95=>Ne<|Jn Unit [] [] (fun _ _=>[]) (fun T _=>[.own U0 (lc T)]) r2 r2 (Wc r (fun H100=>Rg<|Qs 5 r<|Bi fun R101 H102=>Fo (Cl [0] ih_ H102 r r1) fun _=>Nl<|Jg () [0]) fun H100=>Sk<|Jg () [0]) fun T98 X99=>?_
   exact Re () [0]
noncomputable def zq (data:List Ent) (a:Int) (m:Int) (b:Int):Option (List Ent):=zg 64 data a m b
theorem zbD {data:List Ent} {a:Int} {m:Int} {b:Int} {U0:Value} :Cn Tryz.prog 204 [U0,iv a,iv m,iv b,.func (.func 169) #[] #[]] [.own U0 (lc data)] [] (zq data a m b) (fun _ (_:Unit)=>.tuple #[]) fun r _=>[.own U0 (lc r)]:=zcX 64
noncomputable def zI (data:List Ent) (n:Int):Option (List Ent):=
 bindC (loopO (fun (S1:Int × Int × List Ent)=>if decide (S1.2.1≤n) then ((zk S1.2.2 S1.1 S1.2.1).bind fun R6=>
 some (.go (S1.2.1,IntKind.i64.wrap (S1.2.1+20),R6)))
 else (some (.done (.go (S1.1,S1.2.2)))))
 ((0:Int),(20:Int),data))
 (fun (T3:Int × List Ent)=>(zk T3.2 T3.1 n).bind fun R9=>
 bindC (loopO (fun (S12:Int × List Ent)=>if decide (S12.1<n) then (bindC (loopO (fun (S17:Int × Int × List Ent)=>if decide (S17.2.1≤n) then ((zq S17.2.2 S17.1 (IntKind.i64.wrap (S17.1+S12.1)) S17.2.1).bind fun R22=>
 some (.go (S17.2.1,IntKind.i64.wrap (S17.2.1+(IntKind.i64.wrap ((2:Int)*S12.1))),R22)))
 else (some (.done (.go (S17.1,S17.2.2)))))
 ((0:Int),IntKind.i64.wrap ((2:Int)*S12.1),S12.2))
 (fun (T19:Int × List Ent)=>bindC (if decide (IntKind.i64.wrap (T19.1+S12.1)<n) then ((zq T19.2 T19.1 (IntKind.i64.wrap (T19.1+S12.1)) n).bind fun R28=>
 some (.go R28))
 else (some (.go T19.2)))
 (fun (T25:List Ent)=>some (.go (IntKind.i64.wrap (S12.1*2),T25)))))
 else (some (.done (.go S12.2))))
 ((20:Int),R9))
 (fun (T14:List Ent)=>some T14))
theorem zdp {data:List Ent} {n:Int} {U0:Value} :Cn Tryz.prog 190 [U0,iv n,.func (.func 169) #[] #[]] [.own U0 (lc data)] [] (zI data n) (fun _ (_:Unit)=>.tuple #[]) fun r _=>[.own U0 (lc r)]:=by
 unfold zI
 refine Ci Tryz.func190 r r ?_
 rintro w S -
 refine Sr<|Qs 1 r<|Nx<|Sr<|Qs 3 r<|Nx<|Sq<|Jn Unit [0,1,2,6] [] (fun T _=>[(7,iv T.1)]) (fun T _=>[.own U0 (lc T.2)]) r2 r2 (?_) fun T3 X4=>?_
 ·exact Wb<|Lp Unit [0,1,2,6] [] (fun T _=>[(7,iv T.1),(8,iv T.2.1)]) (fun T _=>[.own U0 (lc T.2.2)]) () [0] r2 r2 fun S1 X2=>Sq<|Sr<|Qs 3 r<|Nx<|Wc r (fun H5=>Sn<|Wb<|Sr<|Qs 4 r<|Bi fun R6 H7=>Fo (Cl [0] zbj H7 r r1) fun _=>Nx<|Sr<|Qs 2 r<|Nx<|Rg<|Qs 4 r<|Nl<|Bn<|Lg () [0]) fun H5=>Wx<|Tx<|Ex<|Be<|Jg () [0]
 refine Ne<|Sr<|Qs 4 r<|Bi fun R9 H10=>Fo (Cl [0] zbj H10 r r1) fun _=>Nx<|Jn Unit [] [] (fun _ _=>[]) (fun T _=>[.own U0 (lc T)]) r2 r2 (?_) fun T14 X15=>?_
 ·refine Wb<|Lp Unit [0,1,2] [] (fun T _=>[(6,iv T.1)]) (fun T _=>[.own U0 (lc T.2)]) () [0] r2 r2 fun S12 X13=>Sq<|Sr<|Qs 3 r<|Nx<|Wc r (fun H16=>?_) fun H16=>?_
  ·refine Sn<|Wb<|Sr<|Qs 4 r<|Nx<|Sq<|Jn Unit [0,1,2,6] [] (fun T _=>[(7,iv T.1)]) (fun T _=>[.own U0 (lc T.2)]) r2 r2 (?_) fun T19 X20=>?_
   ·exact Wb<|Lp Unit [0,1,2,6] [] (fun T _=>[(7,iv T.1),(8,iv T.2.1)]) (fun T _=>[.own U0 (lc T.2.2)]) () [0] r2 r2 fun S17 X18=>Sq<|Sr<|Qs 3 r<|Nx<|Wc r (fun H21=>Sn<|Wb<|Sr<|Qs 7 r<|Bi fun R22 H23=>Fo (Cl [0] zbD H23 r r1) fun _=>Nx<|Sr<|Qs 2 r<|Nx<|Rg<|Qs 5 r<|Nl<|Bn<|Lg () [0]) fun H21=>Wx<|Tx<|Ex<|Be<|Jg () [0]
   exact Ne<|Sq<|Sr<|Qs 4 r<|Nx<|Sr<|Qs 3 r<|Nx<|Jn Unit [0,1,2,6] [] (fun _ _=>[]) (fun T _=>[.own U0 (lc T)]) r2 r2 (Wc r (fun H27=>Rg<|Qs 5 r<|Bi fun R28 H29=>Fo (Cl [0] zbD H29 r r1) fun _=>Nl<|Jg () [0]) fun H27=>Sk<|Jg () [0]) fun T25 X26=>Ne<|Rg<|Qs 3 r<|Nl<|Bn<|Lg () [0]
  exact Wx<|Tx<|Ex<|Be<|Jg () [0]
 exact Re () [0]
noncomputable def zE (x:List Ent):Option (List Ent):=
 (zI x (x.length:Int)).bind fun R1=>
 some R1
theorem zdc {x:List Ent} {U0:Value} :Cn Tryz.prog 168 [U0,.func (.func 169) #[] #[]] [.own U0 (lc x)] [] (zE x) (fun _ (_:Unit)=>.tuple #[]) fun r _=>[.own U0 (lc r)]:=by
 unfold zE
 refine Ci Tryz.func168 r r ?_
 rintro w S -
 exact Rg<|Qs 2 r<|Yo (Ln ke90 (Oc 0 r) r)<|Qs 1 r<|Bi fun R1 H2=>Fo (Cl [0] zdp H2 r r1) fun _=>Nl<|Re () [0]
noncomputable def zdy (a:Ent) (b:Ent):Option Bool:=
 (if decide (a.Key=b.Key) then (some (decide (a.Seq=b.Seq)))
 else (some false)).bind (fun (T3:Bool)=>
 some T3)
theorem zh7 {a:Ent} {b:Ent} :Cn Tryz.prog 172 [.agg #[strV a.Key,iv a.Seq,.bool a.Del,strV a.Val],.agg #[strV b.Key,iv b.Seq,.bool b.Del,strV b.Val]] [] [] (zdy a b) (fun r (_:Unit)=>.bool r) fun _ _=>[]:=by
 unfold zdy
 refine Ci Tryz.func172 r r ?_
 rintro w S -
 refine Sr<|Fo (Bx r (Cp r)) fun B1=>Fo (Bx r (Cp r)) fun B2=>Qs 1 r<|Nx<|Sq<|Jb Unit [] [] (fun T _=>[(4,.bool T)]) (fun _ _=>[]) r2 r2 (?_) fun T3 X4=>?_
 ·exact Rg<|Yo (Fb zdB r)<|Yo (Lb 1 kk9 r)<|Yo (Fb zdB r)<|Yo (Lb 0 kk9 r)<|Qs 2 r<|It (fun H5=>Yg (gdA (zd H5)) (Fb zfK r)<|Yg (gdA (zd H5)) (Lb 1 kk3 r)<|Yg (gdA (zd H5)) (Fb zfK r)<|Yg (gdA (zd H5)) (Lb 0 kk3 r)<|Qg 1 (zd H5) r r<|Yo (Pt H5 r)<|Qs 1 r<|Nl<|Bg () []) fun H5=>Of 5 (zt H5) r r<|Yo (Pf H5 r)<|Qs 1 r<|Nl<|Bg () []
 exact Ne<|Wr<|Re () []
noncomputable def zN (s:List Ent):Option (List Ent):=
 if decide ((s.length:Int)<2) then (some s)
 else (bindC (loopO (fun (S2:Int)=>if decide (S2<(s.length:Int)) then ((idx s S2).bind fun E7=>
 (idx s (IntKind.i64.wrap (S2 - 1))).bind fun E9=>
 (zdy E7 E9).bind fun R11=>
 if R11=true then ((piece s S2 (s.length:Int)).bind fun E15=>
 bindC (loopO (fun (S17:Int × Int × List Ent)=>(piece S17.2.2 S2 (s.length:Int)).bind fun E21=>
 if decide (S17.2.1<(E21.length:Int)) then ((idx E21 S17.2.1).bind fun E24=>
 (idx E21 (IntKind.i64.wrap (S17.2.1 - 1))).bind fun E26=>
 (zdy E24 E26).bind fun R28=>
 bindC (if !R28 then ((idx S17.2.2 S17.1).bind fun E34=>
 some (.go (IntKind.i64.wrap (S17.1+1),(S17.2.2.set S17.1.toNat E24))))
 else (some (.go (S17.1,S17.2.2))))
 (fun (T31:Int × List Ent)=>some (.go (T31.1,IntKind.i64.wrap (S17.2.1+1),T31.2))))
 else (some (.done (.go (S17.1,S17.2.2)))))
 (S2,(1:Int),s))
 (fun (T19:Int × List Ent)=>(piece T19.2 T19.1 (T19.2.length:Int)).bind fun E36=>
 (piece T19.2 0 T19.1).bind fun E38=>
 some (.done (.done E38))))
 else (some (.go (IntKind.i64.wrap (S2+1)))))
 else (some (.done (.go ()))))
 (1:Int))
 (fun (T4:Unit)=>some s))
theorem zdQ {s:List Ent} {U0:Value} :Cn Tryz.prog 171 [U0,.func (.func 172) #[] #[]] [.own U0 (lc s)] [] (zN s) (fun _ (X:Value)=>X) fun r X=>[.own X (lc r)]:=by
 unfold zN
 refine Ci Tryz.func171 r r ?_
 rintro w S -
 refine Sr<|Qs 1 r<|Nx<|Sq<|Sr<|Qs 1 r<|Yo (Ln ke90 (Oc 0 r) r)<|Qs 1 r<|Nx<|Wc r (fun H1=>Sr<|Qs 2 r<|Nx<|Wr<|Tr<|Re U0 [0]) fun H1=>Sn<|Sq<|Sr<|Qs 1 r<|Nx<|Ju [0] (fun _=>[]) r1 (?_) fun T4=>?_
 ·refine Wb<|Lu [0,1] (fun T=>[(5,iv T)]) r1 fun S2=>Sq<|Sr<|Qs 2 r<|Yo (Ln ke90 (Oc 0 r) r)<|Qs 1 r<|Nx<|Wc r (fun H6=>?_) fun H6=>?_
  ·refine Sn<|Sq<|Wb<|Sq<|Dr [0] r hMix<|Aq [0,1,2] [0] r<|Ai fun E7 H8=>Ay 3 [0] r (Ix ke90 (Oc 0 r) H8 r)<|Ay 4 [0] r (Le kk189 (Oc 0 r) H8 r)<|Aq [5,6,7] [0] r<|Ai fun E9 H10=>Ay 8 [0] r (Ix ke90 (Oc 0 r) H10 r)<|Ay 9 [0] r (Le kk189 (Oc 0 r) H10 r)<|Ai fun R11 H12=>A1 10<|Xe [0] r (Cw [] zh7 H12 r r r1) fun _=>Az<|Ne<|Wc r (fun H14=>?_) fun H14=>?_
   ·refine Sr<|Qs 2 r<|Bi fun E15 H16=>Yo (Y.subs H16 ke90 (Oc 0 r) r ⟨_,r⟩ r)<|Qs 1 r<|Nx<|Sq<|Sr<|Qs 1 r<|Nx<|Jn Unit [0] [] (fun T _=>[(5,iv T.1)]) (fun T _=>[.own U0 (lc T.2)]) r2 r2 (?_) fun T19 X20=>?_
    ·refine Wb<|Lp Unit [0,1,6] [] (fun T _=>[(5,iv T.1),(7,iv T.2.1)]) (fun T _=>[.own U0 (lc T.2.2)]) () [0] r2 r2 fun S17 X18=>Sq<|Sr<|Qs 2 r<|Bi fun E21 H22=>Yo (Ln ke90 (Can.sub H22 r (Can.own 0 r)) r)<|Qs 1 r<|Nx<|Wc r (fun H23=>?_) fun H23=>?_
     ·refine Sn<|Sq<|Wb<|Sq<|Dr [0] r hMix<|Aq [0,1,2] [0] r<|Ai fun E24 H25=>Ay 3 [0] r (Ix ke90 (Can.sub H22 r (Can.own 0 r)) H25 r)<|Ay 4 [0] r (Le kk189 (Can.sub H22 r (Can.own 0 r)) H25 r)<|Aq [5,6,7] [0] r<|Ai fun E26 H27=>Ay 8 [0] r (Ix ke90 (Can.sub H22 r (Can.own 0 r)) H27 r)<|Ay 9 [0] r (Le kk189 (Can.sub H22 r (Can.own 0 r)) H27 r)<|Ai fun R28 H29=>A1 10<|Xe [0] r (Cw [] zh7 H29 r r r1) fun _=>Aq [11] [0] r<|Az<|Ne<|Jn Unit [0,1,6,7] [] (fun T _=>[(5,iv T.1)]) (fun T _=>[.own U0 (lc T.2)]) r2 r2 (Wc r (fun H33=>Sr<|Qs 4 r<|Yo (Ix ke90 (Can.sub H22 r (Can.own 0 r)) H25 r)<|Yo (Le kk189 (Can.sub H22 r (Can.own 0 r)) H25 r)<|Bi fun E34 H35=>Yo (Ix ke90 (Oc 0 r) H35 r)<|Fu (Se E24 0 kk189 H35 r (Cp r) r)<|Nx<|Rg<|Qs 3 r<|Nl<|Jg () [0]) fun H33=>Sk<|Jg () [0]) fun T31 X32=>?_
      exact Bn<|Ne<|Rg<|Qs 3 r<|Nl<|Lg () [0]
     exact Wx<|Tx<|Ex<|Be<|Jg () [0]
    exact Ne<|Sr<|Qs 2 r<|Bi fun E36 H37=>Yo (Y.subs H37 ke90 (Oc 0 r) r ⟨_,r⟩ r)<|Bi fun E38 H39=>Fu (Ef.clearView (i:=0) (is':=[.own (subV U0 4 (0:Int).toNat (T19.1.toNat - (0:Int).toNat)) (lc E38)]) H39 ke90 kz189 r r r r r r)<|Nx<|Sr<|Qs 2 r<|Yo (Y.sub_again (i:=0) r (zbJ H39).2.1 ke90 r r)<|Qs 1 r<|Nx<|Wr<|Br<|Tr<|Er<|Br<|Jd<|Tr<|Re (subV U0 4 (0:Int).toNat (T19.1.toNat - (0:Int).toNat)) [0]
   exact Sk<|Bn<|Ne<|Rg<|Qs 3 r<|Nl<|Lg () [0]
  exact Wx<|Tx<|Ex<|Be<|Jg () [0]
 exact Ne<|Sr<|Qs 2 r<|Nx<|Wr<|Re U0 [0]
noncomputable def zb1 (l:List (List Ent)):Option (List Ent):=
 (zck l).bind fun R1=>
 (zE R1).bind fun R4=>
 (zN R4).bind fun R7=>
 (zdU R7).bind fun R10=>
 some R10
theorem zgN {l:List (List Ent)} {U0:Value} :Cn Tryz.prog 135 [U0] [] [(U0,lc l)] (zb1 l) (fun _ (X:Value)=>X) fun r X=>[.own X (lc r)]:=by
 unfold zb1
 refine Ci Tryz.func135 r r ?_
 rintro w S ⟨Z0,-⟩
 exact Sr<|Qs 1 r<|Nx<|Sr<|Qs 1 r<|Bi fun R1 H2=>Fo (Cl [] ziJ H2 r r1 ⟨(Bc Z0),⟨⟩⟩) fun Y3=>Qs 1 r<|Nx<|Sr<|Qs 1 r<|Bi fun R4 H5=>Fo (Cl [0] zdc H5 r r1) fun _=>Nx<|Sr<|Qs 1 r<|Bi fun R7 H8=>Fo (Cl [0] zdQ H8 r r1) fun Y9=>Bi fun R10 H11=>Fo (Cl [0] zjJ H11 r r1) fun Y12=>Qs 1 r<|Nx<|Wr<|Re Y12 [0]
noncomputable def zfs (l:List Ent) (i:Int) (snaps:List Int):Option Bool:=
 (if decide (i=0) then (some true)
 else ((idx l (IntKind.i64.wrap (i - 1))).bind fun E4=>
 (idx l i).bind fun E6=>
 some (!(decide (E4.Key=E6.Key))))).bind (fun (T1:Bool)=>
 if T1=true then (some true)
 else (bindC (loopO (fun (S9:Int)=>if decide (S9<(snaps.length:Int)) then ((idx snaps S9).bind fun E14=>
 ((idx l i).bind fun E18=>
 if decide (E18.Seq≤E14) then ((idx l (IntKind.i64.wrap (i - 1))).bind fun E21=>
 some (decide (E14<E21.Seq)))
 else (some false)).bind (fun (T16:Bool)=>
 if T16=true then (some (.done (.done true)))
 else (some (.go (IntKind.i64.wrap (S9+1))))))
 else (some (.done (.go ()))))
 (0:Int))
 (fun (T11:Unit)=>some false)))
theorem znZ {l:List Ent} {i:Int} {snaps:List Int} {U0 U1:Value} :Cn Tryz.prog 165 [U0,iv i,U1] [] [(U0,lc l),(U1,lc snaps)] (zfs l i snaps) (fun r (_:Unit)=>.bool r) fun _ _=>[]:=by
 unfold zfs
 refine Ci Tryz.func165 r r ?_
 rintro w S ⟨Z0,Z1,-⟩
 refine Sr<|Qs 1 r<|Nx<|Sq<|Jv [0,1,2] (fun T=>[(7,.bool T)]) r1 (?_) fun T1=>?_
 ·refine Dr [] r hMix<|Aq [0,1,2] [] r<|Ia (fun H3=>Ax [3,4,5,6,7,8,9,10,11,12,13,14] [] (zl H3) r r<|Ay 15 [] r (Pt H3 r)<|Aq [16] [] r<|Az<|Bg () []) fun H3=>Ag 3 [] (gdA (za H3)) r (Y.move r)<|Ag 4 [] (gdA (za H3)) r (Y.move r)<|Ag 5 [] (gdA (za H3)) r (Y.sub r r)<|Ai fun E4 H5=>Ag 6 [] (gdA (za H3)) r (Ix ke90 (Bc Z0) H5 r)<|Ag 7 [] (gdA (za H3)) r (Fe zdB (Bc Z0) H5 r)<|Ag 8 [] (gdA (za H3)) r (Le kk9 (Bc Z0) H5 r)<|Ag 9 [] (gdA (za H3)) r (Y.move r)<|Ag 10 [] (gdA (za H3)) r (Y.move r)<|Ai fun E6 H7=>?_
  exact Ag 11 [] (gdA (za H3)) r (Ix ke90 (Bc Z0) H7 r)<|Ag 12 [] (gdA (za H3)) r (Fe zdB (Bc Z0) H7 r)<|Ag 13 [] (gdA (za H3)) r (Le kk9 (Bc Z0) H7 r)<|Ag 14 [] (gdA (za H3)) r (Y.sneq r r)<|Ay 15 [] r (Pf H3 r)<|Aq [16] [] r<|Az<|Bg () []
 refine Ne<|Sq<|Sr<|Qs 1 r<|Nx<|Wc r (fun H8=>Sr<|Qs 1 r<|Nx<|Wr<|Tr<|Re () []) fun H8=>Sn<|Sq<|Sr<|Qs 1 r<|Yo (Ln ke53 (Bc Z1) r)<|Qs 1 r<|Nx<|Ju [] (fun _=>[]) r1 (?_) fun T11=>?_
 ·refine Wb<|Lu [0,1,27,28] (fun T=>[(29,iv T)]) r1 fun S9=>Sr<|Qs 1 r<|Nx<|Sq<|Wc r (fun H13=>?_) fun H13=>?_
  ·refine Sn<|Sq<|Wb<|Sr<|Bi fun E14 H15=>Yo (Ix ke53 (Bc Z1) H15 r)<|Yo (Le kk3 (Bc Z1) H15 r)<|Qs 1 r<|Nx<|Sq<|Jv [0,1,27,28,29] (fun T=>[(49,.bool T)]) r1 (?_) fun T16=>?_
   ·exact Rg<|Qs 2 r<|Bi fun E18 H19=>Yo (Ix ke90 (Bc Z0) H19 r)<|Yo (Fe zfK (Bc Z0) H19 r)<|Yo (Le kk3 (Bc Z0) H19 r)<|Qs 3 r<|It (fun H20=>Qg 4 (zd H20) r r<|Bi fun E21 H22=>Yg (gdA (zd H20)) (Ix ke90 (Bc Z0) H22 r)<|Yg (gdA (zd H20)) (Fe zfK (Bc Z0) H22 r)<|Yg (gdA (zd H20)) (Le kk3 (Bc Z0) H22 r)<|Qg 1 (zd H20) r r<|Yo (Pt H20 r)<|Nl<|Bg () []) fun H20=>Of 8 (zt H20) r r<|Yo (Pf H20 r)<|Nl<|Bg () []
   exact Ne<|Wc r (fun H23=>Sr<|Qs 1 r<|Nx<|Wr<|Br<|Tr<|Er<|Br<|Jd<|Tr<|Re () []) fun H23=>Sk<|Bn<|Ne<|Rg<|Qs 2 r<|Nl<|Lg () []
  exact Wx<|Tx<|Ex<|Be<|Jg () []
 exact Ne<|Sr<|Qs 1 r<|Nx<|Wr<|Re () []
noncomputable def zcc (s:List Ent):Option (List Ent):=
 bindC (loopO (fun (S1:Int × Int × List Ent)=>if decide (S1.1<S1.2.1) then ((idx S1.2.2 S1.2.1).bind fun E6=>
 (idx S1.2.2 S1.1).bind fun E8=>
 (idx (S1.2.2.set S1.1.toNat E6) S1.2.1).bind fun E10=>
 some (.go (IntKind.i64.wrap (S1.1+1),IntKind.i64.wrap (S1.2.1 - 1),((S1.2.2.set S1.1.toNat E6).set S1.2.1.toNat E8))))
 else (some (.done (.go S1.2.2))))
 ((0:Int),IntKind.i64.wrap ((s.length:Int) - 1),s))
 (fun (T3:List Ent)=>some T3)
theorem zim {s:List Ent} {U0:Value} :Cn Tryz.prog 166 [U0] [.own U0 (lc s)] [] (zcc s) (fun _ (_:Unit)=>.tuple #[]) fun r _=>[.own U0 (lc r)]:=by
 unfold zcc
 refine Ci Tryz.func166 r r ?_
 rintro w S -
 refine Sr<|Qs 1 r<|Yo (Ln ke90 (Oc 0 r) r)<|Qs 3 r<|Nx<|Jn Unit [] [] (fun _ _=>[]) (fun T _=>[.own U0 (lc T)]) r2 r2 (?_) fun T3 X4=>?_
 ·refine Wb<|Lp Unit [0] [] (fun T _=>[(2,iv T.1),(3,iv T.2.1)]) (fun T _=>[.own U0 (lc T.2.2)]) () [0] r2 r2 fun S1 X2=>Sq<|Sr<|Qs 3 r<|Nx<|Wc r (fun H5=>?_) fun H5=>?_
  ·refine Sn<|Sq<|Wb<|Wi fun E6 H7=>Wi fun E8 H9=>Wi fun E10 H11=>Jw Unit [0,2,3] [] (fun _=>[]) (fun _=>[.own U0 (lc ((S1.2.2.set S1.1.toNat E6).set S1.2.1.toNat E8))]) r1 r1 (?_) fun X13=>?_
   ·refine Dr [] r hMix<|Aq [0,1,2,3,4,5,8,9] [] r<|A2 6 10 (?_)<|?_
    ·refine Xy [] r (Ix ke90 (Oc 0 r) H7 r)<|A2 7 10 (?_)<|?_
     ·exact Xy [] r (Le kk189 (Oc 0 r) H7 r)<|A1 10<|Xy [] r (Ix ke90 (Oc 0 r) H9 r)<|A1 11<|Xy [] r (Le kk189 (Oc 0 r) H9 r)<|A1 12<|Xy [] r (Ix ke90 (Oc 0 r) H9 r)<|A1 13<|Xu [] r (Se E6 0 kk189 H9 r (Cp r) r)<|A1 14<|Xy [] r (Ix ke90 (Oc 0 r) H11 r)<|A1 15<|Xu [] r (Se E8 0 kk189 H11 r (Cp r) r)<|Az<|Bg () [0]
     exact Xy [] r (Ix ke90 (Oc 0 r) H9 r)<|A2 7 11 (Xy [] r (Le kk189 (Oc 0 r) H7 r)<|A1 11<|Xy [] r (Le kk189 (Oc 0 r) H9 r)<|A1 12<|Xy [] r (Ix ke90 (Oc 0 r) H9 r)<|A1 13<|Xu [] r (Se E6 0 kk189 H9 r (Cp r) r)<|A1 14<|Xy [] r (Ix ke90 (Oc 0 r) H11 r)<|A1 15<|Xu [] r (Se E8 0 kk189 H11 r (Cp r) r)<|Az<|Bg () [0])<|Xy [] r (Le kk189 (Oc 0 r) H9 r)<|A1 7<|Xy [] r (Le kk189 (Oc 0 r) H7 r)<|A1 12<|Xy [] r (Ix ke90 (Oc 0 r) H9 r)<|A1 13<|Xu [] r (Se E6 0 kk189 H9 r (Cp r) r)<|A1 14<|Xy [] r (Ix ke90 (Oc 0 r) H11 r)<|A1 15<|Xu [] r (Se E8 0 kk189 H11 r (Cp r) r)<|Az<|Bg () [0]
    refine Xy [] r (Ix ke90 (Oc 0 r) H9 r)<|A2 6 11 (?_)<|?_
    ·exact Xy [] r (Ix ke90 (Oc 0 r) H7 r)<|A2 7 11 (Xy [] r (Le kk189 (Oc 0 r) H7 r)<|A1 11<|Xy [] r (Le kk189 (Oc 0 r) H9 r)<|A1 12<|Xy [] r (Ix ke90 (Oc 0 r) H9 r)<|A1 13<|Xu [] r (Se E6 0 kk189 H9 r (Cp r) r)<|A1 14<|Xy [] r (Ix ke90 (Oc 0 r) H11 r)<|A1 15<|Xu [] r (Se E8 0 kk189 H11 r (Cp r) r)<|Az<|Bg () [0])<|Xy [] r (Le kk189 (Oc 0 r) H9 r)<|A1 7<|Xy [] r (Le kk189 (Oc 0 r) H7 r)<|A1 12<|Xy [] r (Ix ke90 (Oc 0 r) H9 r)<|A1 13<|Xu [] r (Se E6 0 kk189 H9 r (Cp r) r)<|A1 14<|Xy [] r (Ix ke90 (Oc 0 r) H11 r)<|A1 15<|Xu [] r (Se E8 0 kk189 H11 r (Cp r) r)<|Az<|Bg () [0]
    exact Xy [] r (Le kk189 (Oc 0 r) H9 r)<|A1 6<|Xy [] r (Ix ke90 (Oc 0 r) H7 r)<|A1 7<|Xy [] r (Le kk189 (Oc 0 r) H7 r)<|A1 12<|Xy [] r (Ix ke90 (Oc 0 r) H9 r)<|A1 13<|Xu [] r (Se E6 0 kk189 H9 r (Cp r) r)<|A1 14<|Xy [] r (Ix ke90 (Oc 0 r) H11 r)<|A1 15<|Xu [] r (Se E8 0 kk189 H11 r (Cp r) r)<|Az<|Bg () [0]
   exact Bn<|Ne<|Rg<|Qs 6 r<|Nl<|Lg () [0]
  exact Wx<|Tx<|Ex<|Be<|Jg () [0]
 exact Re () [0]
noncomputable def zbQ (l:List Ent) (snaps:List Int) (bottom:Bool):Option (List Ent):=
 bindC (loopO (fun (S1:Int × List Ent)=>if decide (S1.1<(l.length:Int)) then ((idx l S1.1).bind fun E6=>
 (zfs l S1.1 snaps).bind fun R9=>
 bindC (if R9=true then ((app 48 S1.2 ([E6])).bind fun E17=>
 some (.go E17))
 else (some (.go S1.2)))
 (fun (T12:List Ent)=>some (.go (IntKind.i64.wrap (S1.1+1),T12))))
 else (some (.done (.go S1.2))))
 ((0:Int),([]:List Ent)))
 (fun (T3:List Ent)=>if !bottom then (some T3)
 else (bindC (loopO (fun (S20:Bool × Int × List Ent)=>if decide (S20.2.1≥0) then ((if decide (S20.2.1=IntKind.i64.wrap ((T3.length:Int) - 1)) then (some true)
 else ((idx T3 S20.2.1).bind fun E28=>
 (idx T3 (IntKind.i64.wrap (S20.2.1+1))).bind fun E30=>
 some (!(decide (E28.Key=E30.Key))))).bind (fun (T25:Bool)=>
 bindC (if T25=true then (some (.go false))
 else (some (.go S20.1)))
 (fun (T32:Bool)=>(if T32=true then (some true)
 else ((idx T3 S20.2.1).bind fun E38=>
 some (!E38.Del))).bind (fun (T35:Bool)=>
 bindC (if T35=true then ((idx T3 S20.2.1).bind fun E43=>
 (app 48 S20.2.2 ([E43])).bind fun E47=>
 some (.go (true,E47)))
 else (some (.go (T32,S20.2.2))))
 (fun (T40:Bool × List Ent)=>some (.go (T40.1,IntKind.i64.wrap (S20.2.1 - 1),T40.2)))))))
 else (some (.done (.go S20.2.2))))
 (false,IntKind.i64.wrap ((T3.length:Int) - 1),([]:List Ent)))
 (fun (T22:List Ent)=>(zcc T22).bind fun R49=>
 some R49)))
theorem zhz {l:List Ent} {snaps:List Int} {bottom:Bool} {U0 U1:Value} :Cn Tryz.prog 134 [U0,U1,.bool bottom] [] [(U0,lc l),(U1,lc snaps)] (zbQ l snaps bottom) (fun _ (X:Value)=>X) fun r X=>[.own X (lc r)]:=by
 unfold zbQ
 refine Ci Tryz.func134 r r ?_
 rintro w S ⟨Z0,Z1,-⟩
 refine Sr<|Qs 1 r<|Nx<|Sr<|Qs 1 r<|Nx<|Sq<|Sr<|Qs 1 r<|Yo (Ln ke90 (Bc Z0) r)<|Qs 1 r<|Nx<|Jn Value [2] [] (fun _ X=>[(7,X)]) (fun T X=>[.own X (lc T)]) r2 r2 (?_) fun T3 X4=>?_
 ·refine Wb<|Nw 4<|Lp Value [0,1,2,13,14] [] (fun T X=>[(7,X),(15,iv T.1)]) (fun T X=>[.own X (lc T.2)]) (.slice none 0 0) [0] r2 r2 fun S1 X2=>Sr<|Qs 1 r<|Nx<|Sq<|Wc r (fun H5=>?_) fun H5=>?_
  ·refine Sn<|Sq<|Wb<|Sr<|Qs 1 r<|Bi fun E6 H7=>Yo (Ix ke90 (Bc Z0) H7 r)<|Yo (Le kk189 (Bc Z0) H7 r)<|Fo (Al kz189 r) fun B8=>Qs 1 r<|Fu (Sb 0 kk189 r (Cp r) r)<|Nx<|Sr<|Qs 3 r<|Bi fun R9 H10=>Fo (Cl [] znZ H10 r r1 ⟨(Bc Z0),(Bc Z1),⟨⟩⟩) fun _=>Nx<|Jn Value [0,1,2,13,14,15] [] (fun _ X=>[(7,X)]) (fun T X=>[.own X (lc T)]) r2 r2 (Wc r (fun H14=>Rg<|Qs 1 r<|Yo (Lb 0 kk189 r)<|Fo (Bs [E6] ke90 kz189) fun B15=>Bi fun E17 H18=>Fo (Ap [2] H18 ke90 kz189 r (Oc 0 r)) fun V16=>Qs 1 r<|Nl<|Jg V16 [0]) fun H14=>Sk<|Jg X2 [1]) fun T12 X13=>?_
   exact Bn<|Ne<|Rg<|Qs 2 r<|Nl<|Lg X13 [0]
  exact Wx<|Tx<|Ex<|Be<|Jg X2 [0]
 refine Ne<|Sq<|Sr<|Qs 2 r<|Nx<|Wc r (fun H19=>Sr<|Qs 2 r<|Nx<|Wr<|Tr<|Re X4 [0]) fun H19=>Sn<|Sr<|Qs 1 r<|Nx<|Sr<|Qs 1 r<|Nx<|Sq<|Sr<|Qs 1 r<|Yo (Ln ke90 (Oc 0 r) r)<|Qs 2 r<|Nx<|Jn Value [] [] (fun _ X=>[(10,X)]) (fun T X=>[.own X (lc T)]) r2 r2 (?_) fun T22 X23=>?_
 ·refine Wb<|Nw 4<|Lp Value [7] [1] (fun T X=>[(10,X),(11,.bool T.1),(12,iv T.2.1)]) (fun T X=>[.own X (lc T.2.2)]) (.slice none 0 0) [1,0] r2 r2 fun S20 X21=>Sq<|Sr<|Qs 2 r<|Nx<|Wc r (fun H24=>?_) fun H24=>?_
  ·refine Sn<|Sq<|Wb<|Sq<|Sq<|Jv [7,10,11,12] (fun T=>[(57,.bool T)]) r1 (?_) fun T25=>?_
   ·refine Dr [0,0] r hMix<|Aq [0,1] [0,0] r<|Ay 2 [0,0] r (Ln ke90 (Oc 0 r) r)<|Aq [3,4,5] [0,0] r<|Ia (fun H27=>Ax [6,7,8,9,10,11,12,13,14,15,16,17] [0,0] (zl H27) r r<|Ay 18 [0,0] r (Pt H27 r)<|Az<|Bg () [0,0]) fun H27=>Ag 6 [0,0] (gdA (za H27)) r (Y.move r)<|Ag 7 [0,0] (gdA (za H27)) r (Y.move r)<|Ai fun E28 H29=>Ag 8 [0,0] (gdA (za H27)) r (Ix ke90 (Oc 0 r) H29 r)<|Ag 9 [0,0] (gdA (za H27)) r (Fe zdB (Oc 0 r) H29 r)<|Ag 10 [0,0] (gdA (za H27)) r (Le kk9 (Oc 0 r) H29 r)<|Ag 11 [0,0] (gdA (za H27)) r (Y.move r)<|Ag 12 [0,0] (gdA (za H27)) r (Y.move r)<|Ag 13 [0,0] (gdA (za H27)) r (Y.add r r)<|Ai fun E30 H31=>?_
    exact Ag 14 [0,0] (gdA (za H27)) r (Ix ke90 (Oc 0 r) H31 r)<|Ag 15 [0,0] (gdA (za H27)) r (Fe zdB (Oc 0 r) H31 r)<|Ag 16 [0,0] (gdA (za H27)) r (Le kk9 (Oc 0 r) H31 r)<|Ag 17 [0,0] (gdA (za H27)) r (Y.sneq r r)<|Ay 18 [0,0] r (Pf H27 r)<|Az<|Bg () [0,0]
   refine Ne<|Ju [7,10,12] (fun T=>[(11,.bool T)]) r1 (Wc r (fun H34=>Rg<|Qs 1 r<|Nl<|Jg () [0,0]) fun H34=>Sk<|Jg () [0,0]) fun T32=>Ne<|Sq<|Jv [7,10,11,12] (fun T=>[(66,.bool T)]) r1 (?_) fun T35=>?_
   ·exact Rg<|Qs 2 r<|It (fun H37=>Of 6 (zl H37) r r<|Yo (Pt H37 r)<|Nl<|Bg () [0,0]) fun H37=>Qg 2 (za H37) r r<|Bi fun E38 H39=>Yg (gdA (za H37)) (Ix ke90 (Oc 0 r) H39 r)<|Yg (gdA (za H37)) (Fe zmR (Oc 0 r) H39 r)<|Yg (gdA (za H37)) (Le kk4 (Oc 0 r) H39 r)<|Qg 1 (za H37) r r<|Yo (Pf H37 r)<|Nl<|Bg () [0,0]
   refine Ne<|Jn Value [7,12] [0] (fun T X=>[(10,X),(11,.bool T.1)]) (fun T X=>[.own X (lc T.2)]) r2 r2 (?_) fun T40 X41=>?_
   ·exact Wc r (fun H42=>Sr<|Qs 1 r<|Nx<|Rg<|Qs 3 r<|Bi fun E43 H44=>Yo (Ix ke90 (Oc 0 r) H44 r)<|Yo (Le kk189 (Oc 0 r) H44 r)<|Fo (Bs [E43] ke90 kz189) fun B45=>Bi fun E47 H48=>Fo (Ap [2] H48 ke90 kz189 r (Oc 0 r)) fun V46=>Qs 1 r<|Nl<|Jg V46 [2,0]) fun H42=>Sk<|Jg X21 [0,0]
   exact Bn<|Ne<|Rg<|Qs 3 r<|Nl<|Lg X41 [0,0]
  exact Wx<|Tx<|Ex<|Be<|Jg X21 [1]
 exact Ne<|Sr<|Qs 1 r<|Bi fun R49 H50=>Fo (Cl [0] zim H50 r r1) fun _=>Nx<|Sr<|Qs 2 r<|Nx<|Wr<|Re X23 [0]
noncomputable def ze8 (e:Eng):Option (Bool × Eng):=
 if decide ((e.Tables.length:Int)=0) then (some (false,e))
 else ((zb1 e.Tables).bind fun R2=>
 (zbQ R2 e.Snaps true).bind fun R5=>
 bindC (if decide ((R5.length:Int)>0) then (some (.go ([R5])))
 else (some (.go ([]:List (List Ent)))))
 (fun (T8:List (List Ent))=>some (true,(⟨e.Mem,T8,e.Seq,e.Snaps⟩:Eng))))
noncomputable def zbS (el_:List STen) (e:Int):Option (Bool × List STen):=
 (idx el_ e).bind fun E1=>
 (if decide ((E1.Eng.Mem.length:Int)=0) then (some true)
 else (some (decide ((E1.Eng.Tables.length:Int)≥6)))).bind (fun (T4:Bool)=>
 if T4=true then (some (false,el_))
 else ((zV E1.Eng.Tables 0 ([E1.Eng.Mem])).bind fun R16=>
 some (true,(el_.set e.toNat (⟨E1.Id,E1.Epoch,E1.Base,⟨[],R16,E1.Eng.Seq,E1.Eng.Snaps⟩⟩:STen)))))
theorem zg3 {el_:List STen} {e:Int} {U0:Value} :Cn Tryz.prog 95 [elP U0 (e.toNat*7+3)] [.own U0 (lc el_)] [] (zbS el_ e) (fun r (_:Unit)=>.bool r.1) fun r _=>[.own U0 (lc r.2)]:=by
 unfold zbS
 refine Ci Tryz.func95 r r ?_
 rintro w S -
 refine Wi fun E1 H2=>TW.fact (zgc (Can.own 0 r) H2) fun H3=>Sr<|Qs 1 r<|Nx<|Sq<|Sq<|Jv [0] (fun T=>[(16,.bool T)]) r1 (?_) fun T4=>?_
 ·exact Rg<|Qs 1 r<|Yo (Np H3 r)<|Yo (Fp zb6 H3 r)<|Gt (X:=Value × Value × Value) (Ho 3 [0] H2 r r1) fun X6=>Yo (Lh 0 kk90 H2 r)<|Yo (Ln ke90 (Oc 1 r) r)<|Qs 2 r<|It (fun H7=>Of 6 (zl H7) r r<|Yo (Pt H7 r)<|Nl<|Ke (Hs [0,0,0,0] H2 r (Ck (Ck (Ck (Cf (Cf (Ck (Cf Cz))))))))<|Bg () [0]) fun H7=>Qg 1 (za H7) r r<|Yg (gdA (za H7)) (Np H3 r)<|Yg (gdA (za H7)) (Fp zbl H3 r)<|Yg (gdA (za H7)) (Lh 0 kk91 H2 r)<|Yg (gdA (za H7)) (Ln ke91 (Oc 2 r) r)<|Qg 1 (za H7) r r<|Yo (Pf H7 r)<|Nl<|Ke (Hs [0,0,0,0] H2 r (Ck (Ck (Ck (Cf (Cf (Ck (Cf Cz))))))))<|Bg () [0]
 refine Ne<|Wc r (fun H8=>Sr<|Qs 1 r<|Nx<|Wr<|Tr<|Re () [0]) fun H8=>Sn<|Sq<|Dr [] r hMix<|Aq [0,1] [] r<|Ay 2 [] r (Np H3 r)<|Ay 3 [] r (Fp zbl H3 r)<|Aq [5] [] r<|Ay 6 [] r (Np H3 r)<|Ay 7 [] r (Fp zb6 H3 r)<|Ga (X:=Value × Value × Value) (Ho 3 [0] H2 r r1) fun X14=>A2 4 8 (?_)<|?_
 ·exact Xy [] r (Lh 0 kk91 H2 r)<|A1 8<|Xy [] r (Lh 0 kk90 H2 r)<|A1 9<|Xe [] r (Bk [.raw X14.1] ke91 kz90 r (Qc (Co 1)<|Qz)) fun B15=>Ka (Ha [0,1] ([E1.Eng.Mem]:List (List Ent)) r (Cf Cz))<|Ai fun R16 H17=>A1 10<|Xe [] r (Cl [2,0] zbG H17 r r1) fun Y18=>Ay 11 [] r (Np H3 r)<|Ay 12 [] r (Fp zbl H3 r)<|A1 13<|Xu [] r (Sh 1 [.raw Y18] kk91 H2 r (Co 0) r)<|Az<|Ne<|Sr<|Qs 1 r<|Yo (Np H3 r)<|Yo (Fp zb6 H3 r)<|Fu (Sh 1 [.raw (.slice none 0 0)] kk90 H2 r (Cp r) r)<|Nx<|Sr<|Qs 1 r<|Nx<|Wr<|Ni 4<|Ke (Hc [2,0,0,0] (⟨E1.Id,E1.Epoch,E1.Base,⟨[],R16,E1.Eng.Seq,E1.Eng.Snaps⟩⟩:STen) H2 r (Ck (Ck (Ck (Cf (Cf (Ck (Cf Cz))))))))<|Re () [0]
 refine Xy [] r (Lh 0 kk90 H2 r)<|A2 4 9 (?_)<|?_
 ·exact Xy [] r (Lh 0 kk91 H2 r)<|A1 9<|Xe [] r (Bk [.raw X14.1] ke91 kz90 r (Qc (Co 1)<|Qz)) fun B16=>Ka (Ha [0,1] ([E1.Eng.Mem]:List (List Ent)) r (Cf Cz))<|Ai fun R17 H18=>A1 10<|Xe [] r (Cl [2,0] zbG H18 r r1) fun Y19=>Ay 11 [] r (Np H3 r)<|Ay 12 [] r (Fp zbl H3 r)<|A1 13<|Xu [] r (Sh 1 [.raw Y19] kk91 H2 r (Co 0) r)<|Az<|Ne<|Sr<|Qs 1 r<|Yo (Np H3 r)<|Yo (Fp zb6 H3 r)<|Fu (Sh 1 [.raw (.slice none 0 0)] kk90 H2 r (Cp r) r)<|Nx<|Sr<|Qs 1 r<|Nx<|Wr<|Ni 4<|Ke (Hc [2,0,0,0] (⟨E1.Id,E1.Epoch,E1.Base,⟨[],R17,E1.Eng.Seq,E1.Eng.Snaps⟩⟩:STen) H2 r (Ck (Ck (Ck (Cf (Cf (Ck (Cf Cz))))))))<|Re () [0]
 exact Xe [] r (Bk [.raw X14.1] ke91 kz90 r (Qc (Co 1)<|Qz)) fun B15=>Ka (Ha [0,1] ([E1.Eng.Mem]:List (List Ent)) r (Cf Cz))<|A1 4<|Xy [] r (Lh 1 kk91 H2 r)<|Ai fun R16 H17=>A1 10<|Xe [] r (Cl [2,0] zbG H17 r r1) fun Y18=>Ay 11 [] r (Np H3 r)<|Ay 12 [] r (Fp zbl H3 r)<|A1 13<|Xu [] r (Sh 1 [.raw Y18] kk91 H2 r (Co 0) r)<|Az<|Ne<|Sr<|Qs 1 r<|Yo (Np H3 r)<|Yo (Fp zb6 H3 r)<|Fu (Sh 1 [.raw (.slice none 0 0)] kk90 H2 r (Cp r) r)<|Nx<|Sr<|Qs 1 r<|Nx<|Wr<|Ni 4<|Ke (Hc [2,0,0,0] (⟨E1.Id,E1.Epoch,E1.Base,⟨[],R16,E1.Eng.Seq,E1.Eng.Snaps⟩⟩:STen) H2 r (Ck (Ck (Ck (Cf (Cf (Ck (Cf Cz))))))))<|Re () [0]
noncomputable def zbU (el_:List STen) (e:Int):Option (Bool × List STen):=
 (idx el_ e).bind fun E1=>
 if decide ((E1.Eng.Tables.length:Int)=0) then (some (false,el_))
 else ((zb1 E1.Eng.Tables).bind fun R6=>
 (zbQ R6 E1.Eng.Snaps true).bind fun R9=>
 bindC (if decide ((R9.length:Int)>0) then (some (.go (el_.set e.toNat (⟨E1.Id,E1.Epoch,E1.Base,⟨E1.Eng.Mem,[R9],E1.Eng.Seq,E1.Eng.Snaps⟩⟩:STen))))
 else (some (.go (el_.set e.toNat (⟨E1.Id,E1.Epoch,E1.Base,⟨E1.Eng.Mem,[],E1.Eng.Seq,E1.Eng.Snaps⟩⟩:STen)))))
 (fun (T13:List STen)=>some (true,T13)))
theorem zg5 {el_:List STen} {e:Int} {U0:Value} :Cn Tryz.prog 96 [elP U0 (e.toNat*7+3)] [.own U0 (lc el_)] [] (zbU el_ e) (fun r (_:Unit)=>.bool r.1) fun r _=>[.own U0 (lc r.2)]:=by
 unfold zbU
 refine Ci Tryz.func96 r r ?_
 rintro w S -
 refine Wi fun E1 H2=>TW.fact (zgc (Can.own 0 r) H2) fun H3=>Sr<|Qs 1 r<|Nx<|Sq<|Sr<|Qs 1 r<|Yo (Np H3 r)<|Yo (Fp zbl H3 r)<|Gt (X:=Value × Value × Value) (Ho 3 [0] H2 r r1) fun X4=>Yo (Lh 0 kk91 H2 r)<|Yo (Ln ke91 (Oc 2 r) r)<|Qs 1 r<|Nx<|Wc r (fun H5=>Sr<|Qs 1 r<|Nx<|Wr<|Tr<|Ke (Hs [0,0,0,0] H2 r (Ck (Ck (Ck (Cf (Cf (Ck (Cf Cz))))))))<|Re () [0]) fun H5=>Sn<|Sq<|Dr [0,0,0,0] r hMix<|Aq [0] [0,0,0,0] r<|Ay 1 [0,0,0,0] r (Np H3 r)<|Ay 2 [0,0,0,0] r (Fp zbl H3 r)<|Ay 3 [0,0,0,0] r (Lh 0 kk91 H2 r)<|Aq [5] [0,0,0,0] r<|Ay 6 [0,0,0,0] r (Np H3 r)<|Ay 7 [0,0,0,0] r (Fp zfw H3 r)<|Ay 8 [0,0,0,0] r (Lh 0 kk53 H2 r)<|Ai fun R6 H7=>?_
 refine A1 4<|Xe [1,1,1,1] r (Cl [] zgN H7 r r1 ⟨(Oc 2 r),⟨⟩⟩) fun Y8=>Ai fun R9 H10=>A1 9<|Xe [2,2,2,2] r (Cl [] zhz H10 r r1 ⟨(Oc 0 r),(Oc 4 r),⟨⟩⟩) fun Y11=>Aq [10] [2,2,2,2] r<|Az<|Ne<|Sr<|Qs 1 r<|Yo (Np H3 r)<|Yo (Fp zbl H3 r)<|Fu (Sh 2 [.raw (.slice none 0 0)] kk91 H2 r (Cp r) r)<|Nx<|Sq<|Sr<|Qs 1 r<|Yo (Ln ke90 (Oc 0 r) r)<|Qs 1 r<|Nx<|Jn Unit [] [] (fun _ _=>[]) (fun T _=>[.own U0 (lc T)]) r2 r2 (?_) fun T13 X14=>?_
 ·refine Wc r (fun H15=>?_) fun H15=>?_
  ·exact Rg<|Qs 2 r<|Fo (Bk [.raw Y11] ke91 kz90 r (Qc (Co 0)<|Qz)) fun B16=>Kt (Ha [0,0] ([R9]:List (List Ent)) r (Cf Cz))<|Yo (Np H3 r)<|Yo (Fp zbl H3 r)<|Fu (Sh 2 [.raw (.slice (some ⟨B16,0,none⟩) 1 1)] kk91 H2 r (Cp r) r)<|Nl<|Ke (Hc [2,2,0,2] (⟨E1.Id,E1.Epoch,E1.Base,⟨E1.Eng.Mem,[R9],E1.Eng.Seq,E1.Eng.Snaps⟩⟩:STen) H2 r (Ck (Ck (Ck (Cf (Cf (Ck (Cf Cz))))))))<|Jg () [0]
  exact Sk<|Ni 1<|Ke (Hc [3,3,0,3] (⟨E1.Id,E1.Epoch,E1.Base,⟨E1.Eng.Mem,[],E1.Eng.Seq,E1.Eng.Snaps⟩⟩:STen) H2 r (Ck (Ck (Ck (Cf (Cf (Ck (Cf Cz))))))))<|Jg () [0]
 exact Ne<|Sr<|Qs 1 r<|Nx<|Wr<|Re () [0]
noncomputable def zdg (s:Store) (id:Int):Option (Reply × Store):=
 (zbN s id).bind fun R2=>
 (idx s.Tens R2).bind fun E5=>
 (zbS s.Tens R2).bind fun R7=>
 (idx R7.2 R2).bind fun E10=>
 (zbU R7.2 R2).bind fun R12=>
 (idx R12.2 R2).bind fun E15=>
 (zbx (⟨s.Secret,s.Keys,s.Shares,R12.2,s.Rows,s.Hist,s.Boot⟩:Store) id).bind fun R18=>
 some ((⟨0,0,[],[]⟩:Reply),(⟨R18.Secret,⟨R18.Keys.Master,s.Keys.Slots,R18.Keys.Wiped⟩,⟨R18.Shares.Size,s.Shares.List⟩,R12.2.set R2.toNat (⟨E15.Id,E15.Epoch,E15.Eng.Seq,E15.Eng⟩),R18.Rows,s.Hist,R18.Boot⟩:Store))
theorem zjY {s:Store} {id:Int} {U0 U1 U2 U3 U4:Value} {U5:Nat} :Cn Tryz.prog 54 [pt U5,iv id] [.box U5 39 [strV s.Secret,strV s.Keys.Master,U0,iv s.Keys.Wiped,iv s.Shares.Size,U1,U2,U3,U4,iv s.Boot],.own U2 (lc s.Tens),.own U3 (lc s.Rows)] [] (zdg s id) (fun r (X:Value × Value)=>.agg #[iv r.1.Code,iv r.1.N,strV r.1.Text,X.1]) fun r X=>[.box U5 39 [strV r.2.Secret,strV r.2.Keys.Master,U0,iv r.2.Keys.Wiped,iv r.2.Shares.Size,U1,U2,X.2,U4,iv r.2.Boot],.own U2 (lc r.2.Tens),.own X.2 (lc r.2.Rows),.own X.1 (lc r.1.List)]:=by
 unfold zdg
 refine Ci Tryz.func54 r r ?_
 rintro w S -
 refine Sr<|Fo (Al kz60 r) fun B1=>Nx<|Sq<|Dr [0,0,0,0] r hMix<|Aq [0,1] [0,0,0,0] r<|Ay 2 [0,0,0,0] r (Fb zdk r)<|Ay 3 [0,0,0,0] r (Lb 1 kk36 r)<|Aq [4,5] [0,0,0,0] r<|Ai fun R2 H3=>A1 6<|Xe [1,0,0,0] r (Cl [1] zdF H3 r r1 ⟨(Oc 1 r),⟨⟩⟩) fun _=>Ai fun E5 H6=>Ay 7 [1,0,0,0] r (Ix ke36 (Oc 2 r) H6 r)<|Aq [8] [1,0,0,0] r<|Az<|Ne<|Sr<|Qs 1 r<|Yo (Nc (Oc 2 r) H6 r)<|Yo (Fe zbh (Oc 2 r) H6 r)<|Bi fun R7 H8=>Fo (Cl [2] zg3 H8 r r1) fun _=>Nx<|Sr<|Qs 1 r<|Bi fun E10 H11=>Yo (Nc (Oc 0 r) H11 r)<|Yo (Fe zbh (Oc 0 r) H11 r)<|Bi fun R12 H13=>?_
 exact Fo (Cl [0] zg5 H13 r r1) fun _=>Nx<|Sr<|Qs 2 r<|Bi fun E15 H16=>Yo (Nc (Oc 0 r) H16 r)<|Yo (Fe zbh (Oc 0 r) H16 r)<|Yo (Fe zcA (Oc 0 r) H16 r)<|Yo (Le kk3 (Oc 0 r) H16 r)<|Yo (Nc (Oc 0 r) H16 r)<|Yo (Fe zl5 (Oc 0 r) H16 r)<|Gt (X:=Value × Value × Value) (Ho 3 [0] H16 r r1) fun X17=>Fu (Sh 0 [ic E15.Eng.Seq] kk3 H16 r (Cp r) r)<|Nx<|Sr<|Qs 2 r<|Bi fun R18 H19=>Fo (Cl [4,5] zd1 H19 r r1) fun Y20=>Nx<|Sr<|Yo (Bd kp60 kz60 (Pz) r)<|Fu (Sb 6 kk60 r (Cp r) r)<|Nx<|Wr<|Ke (Hc [2,2,2,2] (⟨E15.Id,E15.Epoch,E15.Eng.Seq,E15.Eng⟩:STen) H16 r (Ck (Ck (Ck (Cf (Cf (Ck (Cf Cz))))))))<|Ni 2<|Rf ((.slice none 0 0),Y20) [2,1,1,0] (RV.cell 4 r r kk60 r Rz)
noncomputable def zcy (s:Store) (c:Call):Option (Reply × Store):=
 (zbN s c.Tenant).bind fun R3=>
 if decide (R3<0) then ((zbq 5).bind fun R7=>
 some (R7,s))
 else (if decide (c.Kind=2) then ((zdh s c).bind fun R11=>
 some (R11.1,(⟨R11.2.Secret,⟨R11.2.Keys.Master,s.Keys.Slots,R11.2.Keys.Wiped⟩,R11.2.Shares,s.Tens,s.Rows,s.Hist,R11.2.Boot⟩:Store)))
 else (if decide (c.Kind=3) then ((zcS s c.Tenant).bind fun R15=>
 some (R15.1,(⟨R15.2.Secret,R15.2.Keys,R15.2.Shares,R15.2.Tens,R15.2.Rows,s.Hist,R15.2.Boot⟩:Store)))
 else (if decide (c.Kind=4) then ((zcT s c.Tenant).bind fun R19=>
 some (R19.1,(⟨R19.2.Secret,⟨R19.2.Keys.Master,s.Keys.Slots,R19.2.Keys.Wiped⟩,⟨R19.2.Shares.Size,s.Shares.List⟩,R19.2.Tens,s.Rows,s.Hist,R19.2.Boot⟩:Store)))
 else ((zdg s c.Tenant).bind fun R22=>
 some (R22.1,(⟨R22.2.Secret,⟨R22.2.Keys.Master,s.Keys.Slots,R22.2.Keys.Wiped⟩,⟨R22.2.Shares.Size,s.Shares.List⟩,R22.2.Tens,R22.2.Rows,s.Hist,R22.2.Boot⟩:Store))))))
theorem zi3 {s:Store} {c:Call} {U0 U1 U2 U3 U4 U6:Value} {U5:Nat} :Cn Tryz.prog 31 [pt U5,.agg #[iv c.Kind,strV c.Token,iv c.Tenant,iv c.N,strV c.Key,strV c.To,U6]] [.box U5 39 [strV s.Secret,strV s.Keys.Master,U0,iv s.Keys.Wiped,iv s.Shares.Size,U1,U2,U3,U4,iv s.Boot],.own U0 (lc s.Keys.Slots),.own U1 (lc s.Shares.List),.own U2 (lc s.Tens),.own U3 (lc s.Rows)] [(U6,lc c.Ops)] (zcy s c) (fun r (X:Value × Value × Value × Value × Value)=>.agg #[iv r.1.Code,iv r.1.N,strV r.1.Text,X.1]) fun r X=>[.box U5 39 [strV r.2.Secret,strV r.2.Keys.Master,X.2.1,iv r.2.Keys.Wiped,iv r.2.Shares.Size,X.2.2.1,X.2.2.2.1,X.2.2.2.2,U4,iv r.2.Boot],.own X.2.1 (lc r.2.Keys.Slots),.own X.2.2.1 (lc r.2.Shares.List),.own X.2.2.2.1 (lc r.2.Tens),.own X.2.2.2.2 (lc r.2.Rows),.own X.1 (lc r.1.List)]:=by
 unfold zcy
 refine Ci Tryz.func31 r r ?_
 rintro w S ⟨Z0,-⟩
 refine Sr<|Fo (Bx r (Ca ⟨Op',Op',Op',Op',Op',Op',Ob Z0,⟨⟩⟩)) fun B1=>Fo (Al kz60 r) fun B2=>Nx<|Sq<|Sr<|Qs 1 r<|Yo (Fb zcU r)<|Yo (Lb 1 kk3 r)<|Bi fun R3 H4=>Fo (Cl [2] zdF H4 r r1 ⟨(Oc 4 r),⟨⟩⟩) fun _=>Qs 1 r<|Nx<|Wc r (fun H6=>Sr<|Bi fun R7 H8=>Fo (Cl [] zbc H8 r r1) fun Y9=>Fu (Sb 2 kk60 r (Ca ⟨Op',Op',Op',Ow' 0,⟨⟩⟩) r)<|Nx<|Wr<|Tr<|Rf (Y9,U0,U1,U2,U3) [1,3,3,3,3,0] (RV.cell 2 r r kk60 r Rz)) fun H6=>Sn<|Sq<|Sr<|Yo (Fb z7 r)<|Yo (Lb 2 kk3 r)<|Nx<|Wb<|Sr<|Qs 2 r<|Nx<|Wc r (fun H10=>Sr<|Qs 1 r<|Yo (Lb 2 kk29 r)<|Bi fun R11 H12=>Fo (Cl [0,3] zjZ H12 r r1 ⟨(Bc Z0),⟨⟩⟩) fun Y13=>Fu (Sb 3 kk60 r (Ca ⟨Op',Op',Op',Ow' 2,⟨⟩⟩) r)<|Nx<|Wr<|Br<|Tr<|Rf (Y13.1,U0,Y13.2,U2,U3) [0,4,0,3,3,0] (RV.cell 3 r r kk60 r Rz)) fun H10=>?_
 refine Sr<|Qs 2 r<|Nx<|Wc r (fun H14=>?_) fun H14=>?_
 ·exact Sr<|Qs 1 r<|Yo (Fb zcU r)<|Yo (Lb 2 kk3 r)<|Bi fun R15 H16=>Fo (Cl [0,2,2,2,2] zjH H16 r r1) fun Y17=>Fu (Sb 6 kk60 r (Ca ⟨Op',Op',Op',Ow' 5,⟨⟩⟩) r)<|Nx<|Wr<|Br<|Tr<|Rf (Y17.1,Y17.2.1,Y17.2.2.1,Y17.2.2.2.1,Y17.2.2.2.2) [0,0,0,0,0,0] (RV.cell 6 r r kk60 r Rz)
 exact Sr<|Qs 2 r<|Nx<|Wc r (fun H18=>Sr<|Qs 1 r<|Yo (Fb zcU r)<|Yo (Lb 2 kk3 r)<|Bi fun R19 H20=>Fo (Cl [0,4] zjI H20 r r1) fun Y21=>Fu (Sb 3 kk60 r (Ca ⟨Op',Op',Op',Ow' 2,⟨⟩⟩) r)<|Nx<|Wr<|Br<|Tr<|Rf (Y21,U0,U1,U2,U3) [0,4,4,0,3,0] (RV.cell 3 r r kk60 r Rz)) fun H18=>Sk<|Bn<|Ne<|Sr<|Qs 1 r<|Yo (Fb zcU r)<|Yo (Lb 2 kk3 r)<|Bi fun R22 H23=>Fo (Cl [0,4,4] zjY H23 r r1) fun Y24=>Fu (Sb 4 kk60 r (Ca ⟨Op',Op',Op',Ow' 3,⟨⟩⟩) r)<|Nx<|Wr<|Rf (Y24.1,U0,U1,U2,Y24.2) [0,5,5,0,0,0] (RV.cell 4 r r kk60 r Rz)
noncomputable def zeL (s:List UInt8):Option (Int × Int):=
 bindC (loopO (fun (S1:Int × Int)=>(if decide (S1.2<7) then (some (decide (S1.2<(s.length:Int))))
 else (some false)).bind (fun (T5:Bool)=>
 if T5=true then ((sidx s S1.2).bind fun E9=>
 if decide ((E9.toNat:Int)≥128) then (some (.go (ior .i64 S1.1 (ishl .i64 (IntKind.i64.wrap (iand .u8 (E9.toNat:Int) (127:Int))) (IntKind.u64.wrap (IntKind.i64.wrap ((7:Int)*S1.2)))),IntKind.i64.wrap (S1.2+1))))
 else ((if decide ((E9.toNat:Int)=0) then (some (decide (S1.2>0)))
 else (some false)).bind (fun (T12:Bool)=>
 if T12=true then (some (.done (.done ((0:Int),(0:Int)))))
 else (some (.done (.done (ior .i64 S1.1 (ishl .i64 (IntKind.i64.wrap (iand .u8 (E9.toNat:Int) (127:Int))) (IntKind.u64.wrap (IntKind.i64.wrap ((7:Int)*S1.2)))),IntKind.i64.wrap (S1.2+1))))))))
 else (some (.done (.go ())))))
 ((0:Int),(0:Int)))
 (fun (T3:Unit)=>some ((0:Int),(0:Int)))
theorem zmF {s:List UInt8} :Cn Tryz.prog 110 [strV s] [] [] (zeL s) (fun r (_:Unit)=>.tuple #[iv r.1,iv r.2]) fun _ _=>[]:=by
 unfold zeL
 refine Ci Tryz.func110 r r ?_
 rintro w S -
 refine Sr<|Qs 2 r<|Nx<|Sr<|Qs 1 r<|Nx<|Sq<|Sr<|Qs 1 r<|Nx<|Ju [] (fun _=>[]) r1 (?_) fun T3=>?_
 ·refine Wb<|Lu [0] (fun T=>[(4,iv T.1),(5,iv T.2)]) r1 fun S1=>Sq<|Sq<|Jv [0,4,5] (fun T=>[(13,.bool T)]) r1 (Rg<|Qs 3 r<|It (fun H7=>Qg 2 (zd H7) r r<|Yg (gdA (zd H7)) (Y.slen ks9 r)<|Qg 1 (zd H7) r r<|Yo (Pt H7 r)<|Nl<|Bg () []) fun H7=>Of 4 (zt H7) r r<|Yo (Pf H7 r)<|Nl<|Bg () []) fun T5=>Ne<|Wc r (fun H8=>?_) fun H8=>?_
  ·refine Sn<|Sq<|Wb<|Sr<|Qs 3 r<|Bi fun E9 H10=>Yo (Y.sidx H10 ks9 r r)<|Qs 1 r<|Yo (Y.conv ki5 ki3 r)<|Qs 2 r<|Yo (Y.conv ki3 ki79 r)<|Yo (Y.shl (zfD r _) r r)<|Qs 2 r<|Nx<|Sq<|Sr<|Qs 2 r<|Yo (Y.sidx H10 ks9 r r)<|Qs 1 r<|Nx<|Wc r (fun H11=>Wx<|Tx<|Be<|Ne<|Rg<|Qs 3 r<|Nl<|Lg () []) fun H11=>Sn<|Sq<|Sq<|Jv [4,5] (fun T=>[(38,.bool T)]) r1 (Rg<|Qs 2 r<|Yo (Y.sidx H10 ks9 r r)<|Qs 2 r<|It (fun H14=>Qg 2 (zd H14) r r<|Yo (Pt H14 r)<|Nl<|Bg () []) fun H14=>Of 2 (zt H14) r r<|Yo (Pf H14 r)<|Nl<|Bg () []) fun T12=>Ne<|Wc r (fun H15=>Sr<|Qs 2 r<|Nx<|Wr<|Tr<|Br<|Tr<|Er<|Br<|Jd<|Tr<|Re () []) fun H15=>?_
   exact Sn<|Sr<|Qs 5 r<|Nx<|Wr<|Br<|Tr<|Er<|Br<|Jd<|Tr<|Re () []
  exact Wx<|Tx<|Ex<|Be<|Jg () []
 exact Ne<|Sr<|Qs 2 r<|Nx<|Wr<|Re () []
noncomputable def zZ (r_:Reader):Option (Int × Reader):=
 if r_.bad=true then (some ((0:Int),r_))
 else ((ssub r_.text r_.at_ (r_.text.length:Int)).bind fun E2=>
 (zeL E2).bind fun R4=>
 if decide (R4.2=0) then (some ((0:Int),(⟨r_.text,r_.at_,true⟩:Reader)))
 else (some (R4.1,(⟨r_.text,IntKind.i64.wrap (r_.at_+R4.2),r_.bad⟩:Reader))))
theorem zcY {r_:Reader} {U0:Nat} :Cn Tryz.prog 65 [pt U0] [.box U0 111 [strV r_.text,iv r_.at_,.bool r_.bad]] [] (zZ r_) (fun r (_:Unit)=>iv r.1) fun r _=>[.box U0 111 [strV r.2.text,iv r.2.at_,.bool r.2.bad]]:=by
 unfold zZ
 refine Ci Tryz.func65 r r ?_
 rintro w S -
 refine Sr<|Qs 1 r<|Nx<|Sq<|Sr<|Qs 2 r<|Yo (Fb zgs r)<|Yo (Lb 0 kk4 r)<|Nx<|Wc r (fun H1=>Sr<|Qs 1 r<|Nx<|Wr<|Tr<|Re () [0]) fun H1=>Sn<|Sq<|Dr [0] r hMix<|Aq [0,1] [0] r<|Ay 2 [0] r (Fb zkw r)<|Ay 3 [0] r (Lb 0 kk9 r)<|Aq [4,5] [0] r<|Ay 6 [0] r (Fb zfe r)<|Ay 7 [0] r (Lb 0 kk3 r)<|Ai fun E2 H3=>Ay 8 [0] r (Y.ssub_from H3 ks9 r r)<|Ai fun R4 H5=>A1 9<|Xe [0] r (Cl [] zmF H5 r r1) fun _=>Aq [10,11,12,13,14] [0] r<|Az<|Ne<|Sq<|Sr<|Qs 2 r<|Nx<|Wc r (fun H7=>Sr<|Qs 2 r<|Yo (Fb zgs r)<|Fu (Sb 0 kk4 r (Cp r) r)<|Nx<|Sr<|Qs 1 r<|Nx<|Wr<|Tr<|Re () [0]) fun H7=>?_
 exact Sn<|Sr<|Qs 2 r<|Yo (Fb zfe r)<|Yo (Lb 0 kk3 r)<|Qs 3 r<|Yo (Fb zfe r)<|Fu (Sb 0 kk3 r (Cp r) r)<|Nx<|Sr<|Qs 2 r<|Nx<|Wr<|Re () [0]
noncomputable def zbt (r_:Reader) (n:Int):Option (List UInt8 × Reader):=
 (if r_.bad=true then (some true)
 else (some (decide (n>IntKind.i64.wrap ((r_.text.length:Int) - r_.at_))))).bind (fun (T1:Bool)=>
 if T1=true then (some ([],(⟨r_.text,r_.at_,true⟩:Reader)))
 else ((ssub r_.text (IntKind.i64.wrap (IntKind.i64.wrap (r_.at_+n) - n)) (IntKind.i64.wrap (r_.at_+n))).bind fun E5=>
 some (E5,(⟨r_.text,IntKind.i64.wrap (r_.at_+n),r_.bad⟩:Reader))))
theorem zey {r_:Reader} {n:Int} {U0:Nat} :Cn Tryz.prog 66 [pt U0,iv n] [.box U0 111 [strV r_.text,iv r_.at_,.bool r_.bad]] [] (zbt r_ n) (fun r (_:Unit)=>strV r.1) fun r _=>[.box U0 111 [strV r.2.text,iv r.2.at_,.bool r.2.bad]]:=by
 unfold zbt
 refine Ci Tryz.func66 r r ?_
 rintro w S -
 refine Sr<|Qs 1 r<|Nx<|Sq<|Sq<|Jv [0,1] (fun T=>[(22,.bool T)]) r1 (?_) fun T1=>?_
 ·exact Dr [0] r hMix<|Aq [0,1] [0] r<|Ay 2 [0] r (Fb zgs r)<|Ay 3 [0] r (Lb 0 kk4 r)<|Aq [4] [0] r<|Ia (fun H3=>Ax [5,6,7,8,9,10,11,12,13,14,15,16] [0] (zl H3) r r<|Ay 17 [0] r (Pt H3 r)<|Az<|Bg () [0]) fun H3=>Ag 5 [0] (gdA (za H3)) r (Y.move r)<|Ag 6 [0] (gdA (za H3)) r (Y.move r)<|Ag 7 [0] (gdA (za H3)) r (Y.nilCheck r)<|Ag 8 [0] (gdA (za H3)) r (Fb zkw r)<|Ag 9 [0] (gdA (za H3)) r (Lb 0 kk9 r)<|Ag 10 [0] (gdA (za H3)) r (Y.slen ks9 r)<|Ag 11 [0] (gdA (za H3)) r (Y.move r)<|Ag 12 [0] (gdA (za H3)) r (Y.nilCheck r)<|Ag 13 [0] (gdA (za H3)) r (Fb zfe r)<|Ag 14 [0] (gdA (za H3)) r (Lb 0 kk3 r)<|Ag 15 [0] (gdA (za H3)) r (Y.sub r r)<|Ag 16 [0] (gdA (za H3)) r (Y.gtr r r)<|Ay 17 [0] r (Pf H3 r)<|Az<|Bg () [0]
 exact Ne<|Wc r (fun H4=>Sr<|Qs 2 r<|Yo (Fb zgs r)<|Fu (Sb 0 kk4 r (Cp r) r)<|Nx<|Sr<|Qs 1 r<|Nx<|Wr<|Tr<|Re () [0]) fun H4=>Sn<|Sr<|Qs 2 r<|Yo (Fb zfe r)<|Yo (Lb 0 kk3 r)<|Qs 3 r<|Yo (Fb zfe r)<|Fu (Sb 0 kk3 r (Cp r) r)<|Nx<|Sq<|Dr [0] r hMix<|Aq [0,1] [0] r<|Ay 2 [0] r (Fb zkw r)<|Ay 3 [0] r (Lb 0 kk9 r)<|Aq [4,5] [0] r<|Ay 6 [0] r (Fb zfe r)<|Ay 7 [0] r (Lb 0 kk3 r)<|Aq [8,9,10,11] [0] r<|Ay 12 [0] r (Fb zfe r)<|Ay 13 [0] r (Lb 0 kk3 r)<|Ai fun E5 H6=>Ay 14 [0] r (Y.ssub_both H6 ks9 r r r)<|Aq [15] [0] r<|Az<|Ne<|Wr<|Re () [0]
noncomputable def zco (r_:Reader):Option Bool:=
 (if !r_.bad then (some (decide (r_.at_=(r_.text.length:Int))))
 else (some false)).bind (fun (T1:Bool)=>
 some T1)
theorem zgB {r_:Reader} {U0:Nat} :Cn Tryz.prog 67 [pt U0] [.box U0 111 [strV r_.text,iv r_.at_,.bool r_.bad]] [] (zco r_) (fun r (_:Unit)=>.bool r) fun _ _=>[.box U0 111 [strV r_.text,iv r_.at_,.bool r_.bad]]:=by
 unfold zco
 refine Ci Tryz.func67 r r ?_
 rintro w S -
 refine Sr<|Qs 1 r<|Nx<|Sq<|Jv [] (fun T=>[(2,.bool T)]) r1 (?_) fun T1=>?_
 ·refine Dr [0] r hMix<|Aq [0,1] [0] r<|Ay 2 [0] r (Fb zgs r)<|Ay 3 [0] r (Lb 0 kk4 r)<|Aq [4,5] [0] r<|Ia (fun H3=>?_) fun H3=>?_
  ·exact Ag 6 [0] (gdA (zd H3)) r (Y.move r)<|Ag 7 [0] (gdA (zd H3)) r (Y.nilCheck r)<|Ag 8 [0] (gdA (zd H3)) r (Fb zfe r)<|Ag 9 [0] (gdA (zd H3)) r (Lb 0 kk3 r)<|Ag 10 [0] (gdA (zd H3)) r (Y.move r)<|Ag 11 [0] (gdA (zd H3)) r (Y.nilCheck r)<|Ag 12 [0] (gdA (zd H3)) r (Fb zkw r)<|Ag 13 [0] (gdA (zd H3)) r (Lb 0 kk9 r)<|Ag 14 [0] (gdA (zd H3)) r (Y.slen ks9 r)<|Ag 15 [0] (gdA (zd H3)) r (Y.eql r r)<|Ay 16 [0] r (Pt H3 r)<|Aq [17] [0] r<|Az<|Bg () [0]
  exact Ax [6,7,8,9,10,11,12,13,14,15] [0] (zt H3) r r<|Ay 16 [0] r (Pf H3 r)<|Aq [17] [0] r<|Az<|Bg () [0]
 exact Ne<|Wr<|Re () [0]
noncomputable def zc7 (secret:List UInt8) (s:List UInt8):Option (Int × Int × Bool):=
 (zZ (⟨s,0,false⟩:Reader)).bind fun R2=>
 (zZ R2.2).bind fun R5=>
 (zbt R5.2 8).bind fun R8=>
 ((zco R8.2).bind fun R13=>
 if !R13 then (some true)
 else ((zcn secret R2.1 R5.1).bind fun R17=>
 some (!(decide (R17=s))))).bind (fun (T11:Bool)=>
 if T11=true then (some ((0:Int),(0:Int),false))
 else (some (R2.1,R5.1,true)))
theorem zhx {secret:List UInt8} {s:List UInt8} :Cn Tryz.prog 37 [strV secret,strV s] [] [] (zc7 secret s) (fun r (_:Unit)=>.tuple #[iv r.1,iv r.2.1,.bool r.2.2]) fun _ _=>[]:=by
 unfold zc7
 refine Ci Tryz.func37 r r ?_
 rintro w S -
 refine Sr<|Qs 3 r<|Nx<|Sr<|Qs 1 r<|Yo (Bd kp111 kz111 (Pc r (Cp r)<|Pz) r)<|Fo (Al kz111 r) fun B1=>Fu (Sb 0 kk111 r (Cp r) r)<|Nx<|Sr<|Bi fun R2 H3=>Fo (Cl [0] zcY H3 r r1) fun _=>Qs 1 r<|Nx<|Sr<|Bi fun R5 H6=>Fo (Cl [0] zcY H6 r r1) fun _=>Qs 1 r<|Nx<|Sr<|Bi fun R8 H9=>Fo (Cl [0] zey H9 r r1) fun _=>Nx<|Sq<|Sq<|Jb Unit [8,9] [] (fun T _=>[(24,.bool T)]) (fun _ _=>[]) r2 r2 (?_) fun T11 X12=>?_
 ·exact Rg<|Bi fun R13 H14=>Fo (Cl [0] zgB H14 r r1) fun _=>Qs 2 r<|It (fun H16=>Of 6 (zl H16) r r<|Yo (Pt H16 r)<|Nl<|Bg () []) fun H16=>Qg 3 (za H16) r r<|Bi fun R17 H18=>Fg (gdA (za H16)) (Cl [] zfF H18 r r1) fun _=>Qg 2 (za H16) r r<|Yo (Pf H16 r)<|Nl<|Bg () []
 exact Ne<|Wc r (fun H20=>Sr<|Qs 3 r<|Nx<|Wr<|Tr<|Re () []) fun H20=>Sn<|Sr<|Qs 5 r<|Nx<|Wr<|Re () []
noncomputable def zf6 (s:List UInt8):Option Bool:=
 (zB (s.length:Int) (1:Int) (10:Int)).bind fun R1=>
 some R1
theorem zoo {s:List UInt8} :Cn Tryz.prog 136 [strV s] [] [] (zf6 s) (fun r (_:Unit)=>.bool r) fun _ _=>[]:=by
 unfold zf6
 refine Ci Tryz.func136 r r ?_
 rintro w S -
 exact Sr<|Qs 1 r<|Nx<|Sr<|Qs 1 r<|Yo (Y.slen ks9 r)<|Bi fun R1 H2=>Fo (Cl [] zF H2 r r1) fun _=>Qs 1 r<|Nx<|Wr<|Re () []
noncomputable def zf7 (del:Bool) (val:List UInt8):Option Bool:=
 (if decide ((val.length:Int)≤16) then (if del=true then (some (!(!(decide (val=([]))))))
 else (some (!false)))
 else (some false)).bind (fun (T1:Bool)=>
 some T1)
theorem zop {del:Bool} {val:List UInt8} :Cn Tryz.prog 137 [.bool del,strV val] [] [] (zf7 del val) (fun r (_:Unit)=>.bool r) fun _ _=>[]:=by
 unfold zf7
 refine Ci Tryz.func137 r r ?_
 rintro w S -
 refine Sr<|Qs 1 r<|Nx<|Sq<|Jv [] (fun T=>[(4,.bool T)]) r1 (?_) fun T1=>?_
 ·exact Rg<|Qs 1 r<|Yo (Y.slen ks9 r)<|Qs 2 r<|It (fun H3=>Qg 2 (zd H3) r r<|It (fun H4=>Qg 2 (zd H4) r r<|Yg (gdA (zd H3)) (Pt H4 r)<|Qg 1 (zd H3) r r<|Yo (Pt H3 r)<|Qs 1 r<|Nl<|Bg () []) fun H4=>Of 2 (zt H4) r r<|Yg (gdA (zd H3)) (Pf H4 r)<|Qg 1 (zd H3) r r<|Yo (Pt H3 r)<|Qs 1 r<|Nl<|Bg () []) fun H3=>Of 2 (zt H3) r r<|Ou 2 r r<|Of 2 (zt H3) r r<|Yo (Pf H3 r)<|Qs 1 r<|Nl<|Bg () []
 exact Ne<|Wr<|Re () []
noncomputable def zcx (l:List Op):Option Bool:=
 bindC (loopO (fun (S1:Int)=>if decide (S1<(l.length:Int)) then ((idx l S1).bind fun E6=>
 ((zf6 E6.Key).bind fun R11=>
 if !R11 then (some true)
 else ((zf7 E6.Del E6.Val).bind fun R15=>
 some (!R15))).bind (fun (T9:Bool)=>
 if T9=true then (some (.done (.done false)))
 else (some (.go (IntKind.i64.wrap (S1+1))))))
 else (some (.done (.go ()))))
 (0:Int))
 (fun (T3:Unit)=>(zB (l.length:Int) (1:Int) (6:Int)).bind fun R19=>
 some R19)
theorem ze6 {l:List Op} {U0:Value} :Cn Tryz.prog 97 [U0] [] [(U0,lc l)] (zcx l) (fun r (_:Unit)=>.bool r) fun _ _=>[]:=by
 unfold zcx
 refine Ci Tryz.func97 r r ?_
 rintro w S ⟨Z0,-⟩
 refine Sr<|Qs 1 r<|Nx<|Sq<|Sr<|Qs 1 r<|Yo (Ln ke27 (Bc Z0) r)<|Qs 1 r<|Nx<|Ju [0] (fun _=>[]) r1 (?_) fun T3=>?_
 ·refine Wb<|Lu [0,5,6] (fun T=>[(7,iv T)]) r1 fun S1=>Sr<|Qs 1 r<|Nx<|Sq<|Wc r (fun H5=>?_) fun H5=>?_
  ·refine Sn<|Sq<|Wb<|Sr<|Bi fun E6 H7=>Yo (Ix ke27 (Bc Z0) H7 r)<|Yo (Le kk120 (Bc Z0) H7 r)<|Fo (Al kz120 r) fun B8=>Fu (Sb 0 kk120 r (Cp r) r)<|Nx<|Sq<|Jb Unit [0,5,6,7] [] (fun T _=>[(22,.bool T)]) (fun _ _=>[]) r2 r2 (?_) fun T9 X10=>?_
   ·exact Rg<|Yo (Fb zev r)<|Yo (Lb 0 kk9 r)<|Bi fun R11 H12=>Fo (Cl [] zoo H12 r r1) fun _=>Qs 2 r<|It (fun H14=>Of 6 (zl H14) r r<|Yo (Pt H14 r)<|Nl<|Bg () []) fun H14=>Yg (gdA (za H14)) (Fb zff r)<|Yg (gdA (za H14)) (Lb 0 kk4 r)<|Yg (gdA (za H14)) (Fb zfg r)<|Yg (gdA (za H14)) (Lb 0 kk9 r)<|Bi fun R15 H16=>Fg (gdA (za H14)) (Cl [] zop H16 r r1) fun _=>Qg 1 (za H14) r r<|Yo (Pf H14 r)<|Nl<|Bg () []
   exact Ne<|Wc r (fun H18=>Sr<|Qs 1 r<|Nx<|Wr<|Br<|Tr<|Er<|Br<|Jd<|Tr<|Re () []) fun H18=>Sk<|Bn<|Ne<|Rg<|Qs 2 r<|Nl<|Lg () []
  exact Wx<|Tx<|Ex<|Be<|Jg () []
 exact Ne<|Sr<|Qs 1 r<|Yo (Ln ke27 (Bc Z0) r)<|Bi fun R19 H20=>Fo (Cl [] zF H20 r r1) fun _=>Qs 1 r<|Nx<|Wr<|Re () []
noncomputable def zhv (e:Eng):Option (List Ent):=
 (app 24 ([e.Mem]) e.Tables).bind fun E6=>
 (zb1 E6).bind fun R8=>
 some R8
noncomputable def zeR (l:List Ent) (seq:Int):Option (List KV):=
 bindC (loopO (fun (S1:List UInt8 × Bool × Int × List KV)=>if decide (S1.2.2.1<(l.length:Int)) then (bindC ((idx l S1.2.2.1).bind fun E8=>
 (if decide (E8.Seq>seq) then (some true)
 else (if S1.2.1=true then (some (decide (E8.Key=S1.1)))
 else (some false))).bind (fun (T11:Bool)=>
 if T11=true then (some (.go (S1.1,S1.2.1,S1.2.2.2)))
 else (bindC (if !E8.Del then ((app 32 S1.2.2.2 ([(⟨E8.Key,E8.Val⟩:KV)])).bind fun E21=>
 some (.go E21))
 else (some (.go S1.2.2.2)))
 (fun (T16:List KV)=>some (.go (E8.Key,true,T16))))))
 (fun (T6:List UInt8 × Bool × List KV)=>some (.go (T6.1,T6.2.1,IntKind.i64.wrap (S1.2.2.1+1),T6.2.2))))
 else (some (.done (.go S1.2.2.2))))
 ([],false,(0:Int),([]:List KV)))
 (fun (T3:List KV)=>some T3)
theorem zmP {l:List Ent} {seq:Int} {U0:Value} :Cn Tryz.prog 106 [U0,iv seq] [] [(U0,lc l)] (zeR l seq) (fun _ (X:Value)=>X) fun r X=>[.own X (lc r)]:=by
 unfold zeR
 refine Ci Tryz.func106 r r ?_
 rintro w S ⟨Z0,-⟩
 refine Sr<|Qs 1 r<|Nx<|Sr<|Qs 1 r<|Nx<|Sr<|Qs 2 r<|Nx<|Sq<|Sr<|Qs 1 r<|Yo (Ln ke90 (Bc Z0) r)<|Qs 1 r<|Nx<|Jn Value [] [] (fun _ X=>[(5,X)]) (fun T X=>[.own X (lc T)]) r2 r2 (?_) fun T3 X4=>?_
 ·refine Wb<|Nw 2<|Lp Value [1,10,11] [] (fun T X=>[(5,X),(6,strV T.1),(7,.bool T.2.1),(12,iv T.2.2.1)]) (fun T X=>[.own X (lc T.2.2.2)]) (.slice none 0 0) [0] r2 r2 fun S1 X2=>Sr<|Qs 1 r<|Nx<|Sq<|Wc r (fun H5=>?_) fun H5=>?_
  ·refine Sn<|Sq<|Jn Value [1,10,11,12] [] (fun T X=>[(5,X),(6,strV T.1),(7,.bool T.2.1)]) (fun T X=>[.own X (lc T.2.2)]) r2 r2 (?_) fun T6 X7=>?_
   ·refine Wb<|Sr<|Bi fun E8 H9=>Yo (Ix ke90 (Bc Z0) H9 r)<|Yo (Le kk189 (Bc Z0) H9 r)<|Fo (Al kz189 r) fun B10=>Fu (Sb 0 kk189 r (Cp r) r)<|Nx<|Sq<|Sq<|Jv [1,5,6,7,9,10,11,12] (fun T=>[(28,.bool T)]) r1 (?_) fun T11=>?_
    ·exact Rg<|Yo (Fb zfK r)<|Yo (Lb 0 kk3 r)<|Qs 3 r<|It (fun H13=>Of 2 (zl H13) r r<|Ou 4 r r<|Of 1 (zl H13) r r<|Yo (Pt H13 r)<|Nl<|Bg () [0,0]) fun H13=>Qg 2 (za H13) r r<|It (fun H14=>Yg (gdA (zd H14)) (Fb zdB r)<|Yg (gdA (zd H14)) (Lb 0 kk9 r)<|Qg 2 (zd H14) r r<|Yg (gdA (za H13)) (Pt H14 r)<|Yo (Pf H13 r)<|Nl<|Bg () [0,0]) fun H14=>Of 4 (zt H14) r r<|Yg (gdA (za H13)) (Pf H14 r)<|Yo (Pf H13 r)<|Nl<|Bg () [0,0]
    refine Ne<|Wc r (fun H15=>Wx<|Tx<|Be<|Jg X2 [1]) fun H15=>Sn<|Sr<|Yo (Fb zdB r)<|Yo (Lb 0 kk9 r)<|Qs 2 r<|Nx<|Sr<|Yo (Fb zmR r)<|Yo (Lb 0 kk4 r)<|Qs 1 r<|Nx<|Jn Value [1,6,7,10,11,12] [] (fun _ X=>[(5,X)]) (fun T X=>[.own X (lc T)]) r2 r2 (?_) fun T16 X17=>?_
    ·refine Wc r (fun H18=>?_) fun H18=>?_
     ·exact Rg<|Qs 1 r<|Yo (Fb zdB r)<|Yo (Lb 0 kk9 r)<|Yo (Fb zpQ r)<|Yo (Lb 0 kk9 r)<|Yo (Bd kp78 kz78 (Pc r (Cp r)<|Pc r (Cp r)<|Pz) r)<|Fo (Bs [(⟨E8.Key,E8.Val⟩:KV)] ke58 kz78) fun B19=>Bi fun E21 H22=>Fo (Ap [2] H22 ke58 kz78 r (Oc 0 r)) fun V20=>Qs 1 r<|Nl<|Jg V20 [0]
     exact Sk<|Jg X2 [1]
    exact Bn<|Jg X17 [0]
   exact Ne<|Rg<|Qs 2 r<|Nl<|Lg X7 [0]
  exact Wx<|Tx<|Ex<|Be<|Jg X2 [0]
 exact Ne<|Sr<|Qs 2 r<|Nx<|Wr<|Re X4 [0]
noncomputable def zdK (s:List KV):Option (List KV):=
 (app 32 ([]:List KV) s).bind fun E4=>
 some E4
theorem zjl {s:List KV} {U0:Value} :Cn Tryz.prog 138 [U0] [] [(U0,lc s)] (zdK s) (fun _ (X:Value)=>X) fun r X=>[.own X (lc r)]:=by
 unfold zdK
 refine Ci Tryz.func138 r r ?_
 rintro w S ⟨Z0,-⟩
 exact Sr<|Qs 1 r<|Nx<|Sq<|Sr<|Qs 1 r<|Yo (Y.nileq ke58 (Bc Z0) r r)<|Nx<|TW.cond_nil (Bc Z0) r (fun hnil_=>by subst hnil_;show TW _ _ _ (some ([])) _ _ _ _ _;exact (Sr<|Qs 1 r<|Nx<|Wr<|Tr<|Ni 2<|Re (.slice none 0 0) [0]))<|Sn<|Sr<|Fo (Bs ([]:List KV) ke58 kz78) fun B2=>Qs 1 r<|Bi fun E4 H5=>Fo (Ap [0] H5 ke58 kz78 r (Bc Z0)) fun V3=>Qs 1 r<|Nx<|Wr<|Re V3 [0]
noncomputable def zcb (a:List UInt8) (b:List UInt8):Option Int:=
 some (cmpS a b)
theorem zfH {a:List UInt8} {b:List UInt8} :Cn Tryz.prog 207 [strV a,strV b] [] [] (zcb a b) (fun r (_:Unit)=>iv r) fun _ _=>[]:=by
 unfold zcb
 refine Ci Tryz.func207 r r ?_
 rintro w S -
 exact Sr<|Qs 1 r<|Nx<|Sr<|Qs 2 r<|Fo (Es Tryz.func212 r r) fun _=>Qs 1 r<|Nx<|Wr<|Re () []
noncomputable def zgl (a:List UInt8) (b:List UInt8):Option Int:=
 (zcb a b).bind fun R1=>
 some R1
theorem zkT {a:List UInt8} {b:List UInt8} :Cn Tryz.prog 196 [strV a,strV b] [] [] (zgl a b) (fun r (_:Unit)=>iv r) fun _ _=>[]:=by
 unfold zgl
 refine Ci Tryz.func196 r r ?_
 rintro w S -
 exact Sr<|Qs 1 r<|Nx<|Sr<|Qs 2 r<|Bi fun R1 H2=>Fo (Cl [] zfH H2 r r1) fun _=>Qs 1 r<|Nx<|Wr<|Re () []
noncomputable def zc9 (x:KV) (key:List UInt8):Option Int:=
 (zgl x.Key key).bind fun R2=>
 some R2
theorem zhA {x:KV} {key:List UInt8} :Cn Tryz.prog 195 [.agg #[strV x.Key,strV x.Val],strV key] [] [] (zc9 x key) (fun r (_:Unit)=>iv r) fun _ _=>[]:=by
 unfold zc9
 refine Ci Tryz.func195 r r ?_
 rintro w S -
 exact Sr<|Fo (Bx r (Cp r)) fun B1=>Qs 1 r<|Nx<|Sr<|Yo (Fb zow r)<|Yo (Lb 0 kk9 r)<|Qs 1 r<|Bi fun R2 H3=>Fo (Cl [] zkT H3 r r1) fun _=>Qs 1 r<|Nx<|Wr<|Re () []
noncomputable def zQ (x:List KV) (target:List UInt8):Option (Int × Bool):=
 bindC (loopO (fun (S1:Int × Int)=>if decide (S1.1<S1.2) then ((idx x (IntKind.i64.wrap (ishr .u64 (IntKind.u64.wrap (IntKind.i64.wrap (S1.1+S1.2))) 1))).bind fun E6=>
 (zc9 E6 target).bind fun R8=>
 bindC (if decide (R8<0) then (some (.go (IntKind.i64.wrap (IntKind.i64.wrap (ishr .u64 (IntKind.u64.wrap (IntKind.i64.wrap (S1.1+S1.2))) 1)+1),S1.2)))
 else (some (.go (S1.1,IntKind.i64.wrap (ishr .u64 (IntKind.u64.wrap (IntKind.i64.wrap (S1.1+S1.2))) 1)))))
 (fun (T11:Int × Int)=>some (.go (T11.1,T11.2))))
 else (some (.done (.go S1.1))))
 ((0:Int),(x.length:Int)))
 (fun (T3:Int)=>(if decide (T3<(x.length:Int)) then ((idx x T3).bind fun E17=>
 (zc9 E17 target).bind fun R19=>
 some (decide (R19=0)))
 else (some false)).bind (fun (T14:Bool)=>
 some (T3,T14)))
theorem zda {x:List KV} {target:List UInt8} {U0:Value} :Cn Tryz.prog 194 [U0,strV target,.func (.func 195) #[] #[]] [] [(U0,lc x)] (zQ x target) (fun r (_:Unit)=>.tuple #[iv r.1,.bool r.2]) fun _ _=>[]:=by
 unfold zQ
 refine Ci Tryz.func194 r r ?_
 rintro w S ⟨Z0,-⟩
 refine Sr<|Qs 2 r<|Nx<|Sr<|Qs 1 r<|Yo (Ln ke58 (Bc Z0) r)<|Qs 1 r<|Nx<|Sr<|Qs 3 r<|Nx<|Sq<|Ju [0,1,2,8] (fun T=>[(9,iv T)]) r1 (?_) fun T3=>?_
 ·refine Wb<|Lu [0,1,2,8] (fun T=>[(9,iv T.1),(10,iv T.2)]) r1 fun S1=>Sq<|Sr<|Qs 3 r<|Nx<|Wc r (fun H5=>?_) fun H5=>?_
  ·exact Sn<|Wb<|Sr<|Qs 3 r<|Yo (Y.conv ki3 ki79 r)<|Yo (Y.shr (by decide) r r)<|Yo (Y.conv ki79 ki3 r)<|Qs 1 r<|Nx<|Sr<|Qs 3 r<|Bi fun E6 H7=>Yo (Ix ke58 (Bc Z0) H7 r)<|Yo (Le kk78 (Bc Z0) H7 r)<|Qs 1 r<|Bi fun R8 H9=>Fo (Cw [] zhA H9 r r r1) fun _=>Qs 1 r<|Nx<|Ju [0,1,2,8] (fun T=>[(9,iv T.1),(10,iv T.2)]) r1 (Wc r (fun H13=>Rg<|Qs 3 r<|Nl<|Jg () []) fun H13=>Rg<|Qs 2 r<|Nl<|Jg () []) fun T11=>Bn<|Lg () []
  exact Wx<|Tx<|Ex<|Be<|Jg () []
 refine Ne<|Sq<|Jv [] (fun T=>[(6,iv T3),(7,.bool T)]) r1 (?_) fun T14=>?_
 ·refine Rg<|Qs 5 r<|It (fun H16=>?_) fun H16=>?_
  ·exact Qg 3 (zd H16) r r<|Bi fun E17 H18=>Yg (gdA (zd H16)) (Ix ke58 (Bc Z0) H18 r)<|Yg (gdA (zd H16)) (Le kk78 (Bc Z0) H18 r)<|Qg 1 (zd H16) r r<|Bi fun R19 H20=>Fg (gdA (zd H16)) (Cw [] zhA H20 r r r1) fun _=>Qg 1 (zd H16) r r<|Yo (Pt H16 r)<|Qs 2 r<|Nl<|Bg () []
  exact Of 8 (zt H16) r r<|Yo (Pf H16 r)<|Qs 2 r<|Nl<|Bg () []
 exact Ne<|Wr<|Re () []
noncomputable def zd5 (m:List KV) (key:List UInt8):Option (Int × Bool):=
 (zQ m key).bind fun R1=>
 some (R1.1,R1.2)
theorem zix {m:List KV} {key:List UInt8} {U0:Value} :Cn Tryz.prog 173 [U0,strV key] [] [(U0,lc m)] (zd5 m key) (fun r (_:Unit)=>.tuple #[iv r.1,.bool r.2]) fun _ _=>[]:=by
 unfold zd5
 refine Ci Tryz.func173 r r ?_
 rintro w S ⟨Z0,-⟩
 exact Sr<|Qs 2 r<|Nx<|Sr<|Qs 2 r<|Bi fun R1 H2=>Fo (Cl [] zda H2 r r1 ⟨(Bc Z0),⟨⟩⟩) fun _=>Qs 4 r<|Nx<|Wr<|Re () []
noncomputable def zds (s:List KV) (i:Int) (j:Int):Option (List KV):=
 (piece s i j).bind fun E1=>
 if decide (i=j) then (some s)
 else ((piece s 0 i).bind fun E5=>
 (piece s j (s.length:Int)).bind fun E7=>
 some (E5++E7))
theorem ziL {s:List KV} {i:Int} {j:Int} {U0:Value} :Cn Tryz.prog 174 [U0,iv i,iv j] [.own U0 (lc s)] [] (zds s i j) (fun _ (X:Value)=>X) fun r X=>[.own X (lc r)]:=by
 unfold zds
 refine Ci Tryz.func174 r r ?_
 rintro w S -
 refine Sr<|Qs 1 r<|Nx<|Sr<|Qs 4 r<|Yo (Ln ke58 (Oc 0 r) r)<|Bi fun E1 H2=>TO.fact (Can.cap (Can.own 0 r)) fun H3=>Yo (Y.subs3 H2 ke58 (Oc 0 r) r r r r)<|Nx<|Sq<|Sr<|Qs 3 r<|Nx<|Wc r (fun H4=>Sr<|Qs 2 r<|Nx<|Wr<|Tr<|Re U0 [0]) fun H4=>Sn<|Sr<|Qs 1 r<|Yo (Ln ke58 (Oc 0 r) r)<|Qs 1 r<|Nx<|Sq<|Wi fun E5 H6=>Wi fun E7 H8=>Jw Unit [7] [] (fun _=>[(0,delV U0 (E5++E7).length)]) (fun _=>[.own (delV U0 (E5++E7).length) (lc (E5++E7))]) r1 r1 (?_) fun X10=>?_
 ·exact Dr [] r hMix<|Aq [0,1,3,4] [] r<|A2 2 5 (Xy [] r (Y.subs H6 ke58 (Oc 0 r) r r ⟨_,r⟩)<|A1 5<|Xy [] r (Y.subs H8 ke58 (Oc 0 r) r ⟨_,r⟩ r)<|A1 6<|Xe [] r (Ef.del (α:=KV) (is':=[]) [0] H2 H6 H8 ke58 r r r r) fun _=>Aq [7] [] r<|Az<|Bg () [0])<|Xy [] r (Y.subs H8 ke58 (Oc 0 r) r ⟨_,r⟩ r)<|A1 2<|Xy [] r (Y.subs H6 ke58 (Oc 0 r) r r ⟨_,r⟩)<|A1 6<|Xe [] r (Ef.del (α:=KV) (is':=[]) [0] H2 H6 H8 ke58 r r r r) fun _=>Aq [7] [] r<|Az<|Bg () [0]
 exact Ne<|Sr<|Qs 2 r<|Yo (Ln ke58 (Oc 0 r) r)<|Qs 1 r<|Yo (Y.tail (hi:=s.length) H3 (zgA H2 H6 H8) ke58 r r r)<|Fu (Ef.clearTail (k:=0) H3 (zgA H2 H6 H8) ke58 kz78 r r r r)<|Nx<|Sr<|Qs 2 r<|Nx<|Wr<|Re (delV U0 (E5++E7).length) [0]
noncomputable def zeP (m:List KV) (key:List UInt8):Option (List KV):=
 (zd5 m key).bind fun R1=>
 if R1.2=true then ((zds m R1.1 (IntKind.i64.wrap (R1.1+1))).bind fun R5=>
 some R5)
 else (some m)
theorem zmL {m:List KV} {key:List UInt8} {U0:Value} :Cn Tryz.prog 139 [U0,strV key] [.own U0 (lc m)] [] (zeP m key) (fun _ (X:Value)=>X) fun r X=>[.own X (lc r)]:=by
 unfold zeP
 refine Ci Tryz.func139 r r ?_
 rintro w S -
 exact Sr<|Qs 1 r<|Nx<|Sr<|Qs 2 r<|Bi fun R1 H2=>Fo (Cl [] zix H2 r r1 ⟨(Oc 0 r),⟨⟩⟩) fun _=>Qs 5 r<|Nx<|Sq<|Sr<|Qs 1 r<|Nx<|Wc r (fun H4=>Sr<|Qs 4 r<|Bi fun R5 H6=>Fo (Cl [0] ziL H6 r r1) fun Y7=>Qs 1 r<|Nx<|Wr<|Tr<|Re Y7 [0]) fun H4=>Sn<|Sr<|Qs 2 r<|Nx<|Wr<|Re U0 [0]
noncomputable def zbA (s:List KV) (i:Int) (v:List KV):Option (List KV):=ins 32 s i v
theorem zhQ (s:List KV) (i:Int) (v:List KV) (V_s0 V_v0:Value) (r:List KV) (hm:zbA s i v=some r):
 Con Tryz.prog 175 [V_s0,.int .i64 i,V_v0] [.own V_s0 (lc s),.own V_v0 (lc v)] [] (fun X:Value=>X) (fun X=>[.own X (lc r)]):=by
 refine Con.intro (args:=[V_s0,.int .i64 i,V_v0]) (n:=95) (val:=fun _ (X:Value)=>X) (post:=fun r X=>[.own X (lc r)]) (m:=zbA s i v) Tryz.func175 rfl rfl rfl hm ?_
 intro w S _
 unfold zbA
 refine TW.known fun r0 hr0=>?_
 obtain ⟨h0,h1,h2,h3,rfl⟩:=ziD hr0
 obtain ⟨I,rfl⟩:=Int.eq_ofNat_of_zero_le h0
 rw[Int.toNat_natCast]
 have h1n:I≤s.length:=by omega
 clear hr0 hm
 have wr: ∀q:Nat,q≤4611686018427387904→IntKind.i64.wrap (q:Int)=(q:Int):=fun q hq=>by rw[IntKind.wrap_i64];omega
 have wr2: ∀a b:Nat,a+b≤4611686018427387904→IntKind.i64.wrap ((a:Int)+(b:Int))=((a+b:Nat):Int):=fun a b hq=>by rw[IntKind.wrap_i64];omega
 obtain ⟨z0,hpc⟩: ∃z,piece s (I:Int) (s.length:Int)=some z:=⟨_,if_pos ⟨by omega,by omega,by omega⟩⟩
 refine TW.seq ?_
 refine TW.region ?_
 refine TO.y (Y.assign rfl) rfl rfl rfl ?_
 refine TO.nil ?_
 refine TE.next ?_
 refine TW.seq ?_
 refine TW.region ?_
 refine TO.y (Y.move rfl) rfl rfl rfl ?_
 refine TO.y (Y.move rfl) rfl rfl rfl ?_
 refine TO.y (Y.subs hpc ke58 (Can.own 0 rfl) rfl ⟨_,rfl⟩ rfl) rfl rfl rfl ?_
 refine TO.nil ?_
 refine TE.next ?_
 refine TW.seq ?_
 refine TW.region ?_
 refine TO.y (Y.move rfl) rfl rfl rfl ?_
 refine TO.y (Y.len (l:=v) ke58 (Can.own 1 rfl) rfl) rfl rfl rfl ?_
 refine TO.y (Y.assign rfl) rfl rfl rfl ?_
 refine TO.nil ?_
 refine TE.next ?_
 refine TW.seq ?_
 refine TW.seq ?_
 refine TW.region ?_
 refine TO.y (Y.move rfl) rfl rfl rfl ?_
 refine TO.y (Y.eql rfl rfl) rfl rfl rfl ?_
 refine TO.nil ?_
 refine TE.next ?_
 by_cases hm0:v= []
 ·subst hm0
  rw[show s.take I++([]++s.drop I)=s by simp]
  refine TW.cond_t rfl (by simp) ?_
  refine TW.seq ?_
  refine TW.region ?_
  refine TO.y (Y.move rfl) rfl rfl rfl ?_
  refine TO.y (Y.assign rfl) rfl rfl rfl ?_
  refine TO.nil ?_
  refine TE.next ?_
  refine TW.ret ?_
  refine TE.then_ret ?_
  exact TE.leaf fun _ _ hf_ hs_=>zS (rs:=[.tmp 6]) (vs:=[V_s0]) (.inl rfl) rfl ⟨rfl,trivial⟩ hf_ hs_ ⟨V_s0,rfl,hs_.pulls [0] rfl⟩
 ·have hm1:0<v.length:=List.length_pos_iff.2 hm0
  refine TW.cond_f rfl (decide_eq_false (by omega)) ?_
  refine TW.skip ?_
  refine TE.next ?_
  refine TW.seq ?_
  refine TW.region ?_
  refine TO.y (Y.move rfl) rfl rfl rfl ?_
  refine TO.y (Y.len (l:=s) ke58 (Can.own 0 rfl) rfl) rfl rfl rfl ?_
  refine TO.y (Y.assign rfl) rfl rfl rfl ?_
  refine TO.nil ?_
  refine TE.next ?_
  refine TW.seq ?_
  refine TW.seq ?_
  refine TW.region ?_
  refine TO.y (Y.move rfl) rfl rfl rfl ?_
  refine TO.y (Y.move rfl) rfl rfl rfl ?_
  refine TO.y (Y.eql rfl rfl) rfl rfl rfl ?_
  refine TO.nil ?_
  refine TE.next ?_
  by_cases hin:I=s.length
  ·have happ:app 32 s v=some (s++v):=by unfold app;rw[if_pos ⟨h2,by omega⟩]
   rw[show s.take I++(v++s.drop I)=s++v by rw[hin];simp]
   refine TW.cond_t rfl (decide_eq_true (by omega)) ?_
   refine TW.seq ?_
   refine TW.region ?_
   refine TO.y (Y.move rfl) rfl rfl rfl ?_
   refine TO.y (Y.move rfl) rfl rfl rfl ?_
   refine TO.ef (Ef.appN (α:=KV) (is':=[]) [0,0] happ ke58 kz78 rfl rfl rfl rfl rfl) rfl rfl rfl (fun X=>?_)
   refine TO.y (Y.assign rfl) rfl rfl rfl ?_
   refine TO.nil ?_
   refine TE.next ?_
   refine TW.ret ?_
   refine TE.then_ret ?_
   exact TE.leaf fun _ _ hf_ hs_=>zS (rs:=[.tmp 6]) (vs:=[X]) (.inl rfl) rfl ⟨rfl,trivial⟩ hf_ hs_ ⟨X,rfl,hs_.pulls [0] rfl⟩
  ·refine TW.cond_f rfl (decide_eq_false (by omega)) ?_
   refine TW.skip ?_
   refine TE.next ?_
   refine TW.openRows (α:=KV) (by omega) hm1 ?_
   intro b cap e cur b2 cap2 e2 cur2 hV hU hbb hc1 hc2 hc3 hc4 hl1 hl2 ho1 ho2
   subst hV hU
   have hsz:Enc.sz KV=2:=rfl
   rw[hsz]at hl1 hl2 ho1 ho2
   have e1:=wr2 s.length v.length h3
   refine TW.seq ?_
   refine TW.seq ?_
   refine TW.region ?_
   refine TO.y (Y.move rfl) rfl rfl rfl ?_
   refine TO.y (Y.move rfl) rfl rfl rfl ?_
   refine TO.y (Y.add rfl rfl) rfl rfl rfl ?_
   refine TO.y (Y.move rfl) rfl rfl rfl ?_
   refine TO.y (Y.capRaw ke58 rfl) rfl rfl rfl ?_
   refine TO.y (Y.gtr rfl rfl) rfl rfl rfl ?_
   refine TO.nil ?_
   refine TE.next ?_
   by_cases hroom:cap<s.length+v.length
   ·refine TW.cond_t rfl (by rw[e1];exact decide_eq_true (by omega)) ?_
    refine TW.seq ?_
    refine TW.region ?_
    refine TO.y (Y.move rfl) rfl rfl rfl ?_
    refine TO.y (Y.move rfl) rfl rfl rfl ?_
    refine TO.y (Y.toRaw (hi:=I) ke58 (by omega) rfl rfl rfl) rfl rfl rfl ?_
    refine TO.y (Y.move rfl) rfl rfl rfl ?_
    refine TO.y (Y.move rfl) rfl rfl rfl ?_
    refine TO.y (Y.add rfl rfl) rfl rfl rfl ?_
    refine TO.y (Y.move rfl) rfl rfl rfl ?_
    refine TO.y (Y.sub rfl rfl) rfl rfl rfl ?_
    have e2:IntKind.i64.wrap (IntKind.i64.wrap ((s.length:Int)+(v.length:Int)) - (I:Int))=((s.length+v.length - I:Nat):Int):=by rw[e1,IntKind.wrap_i64];omega
    refine TO.ef (Ef.rawGrow (N:=s.length+v.length) (q:=s.length+v.length - I) 0 ke58 ki3 kz78 rfl rfl rfl rfl rfl e2 (by omega) (by omega) hl1 (by omega) hroom (by omega) h2) rfl rfl rfl (fun X=>?_)
    refine TO.y (Y.assign rfl) rfl rfl rfl ?_
    refine TO.nil ?_
    refine TE.next ?_
    obtain ⟨⟨⟨g,gc⟩,ge,zs⟩,hz1,hz2,hz3⟩:=X
    dsimp only at hz1 hz2 hz3 ⊢
    obtain ⟨q1,q2,q3,q4,q5,q6⟩:=insA (G:=gc) (zs:=zs) h1n hc1 hc3 hl1 hl2 hz1 hz2
    have m1:0+I*2+v.length*2≤gc*2:=by omega
    have m2:0+(I+v.length)*2+(s.length - I)*2≤gc*2:=by omega
    have m3:0+v.length*2≤cap2*2:=by omega
    have m4:0+I*2+(s.length - I)*2≤cap*2:=by omega
    refine TW.seq ?_
    refine TW.region ?_
    refine TO.y (Y.move rfl) rfl rfl rfl ?_
    refine TO.y (Y.move rfl) rfl rfl rfl ?_
    refine TO.y (Y.fromRaw (lo:=I) ke58 (by omega) (by omega) rfl rfl rfl) rfl rfl rfl ?_
    refine TO.y (Y.move rfl) rfl rfl rfl ?_
    refine TO.ef (Ef.rawCopy (sl:=v.length) 0 2 ke58 rfl rfl rfl rfl (by omega) (by rw[q3];exact m1) (Nat.le_trans m3 hl2) (by rw[List.drop_zero];exact ho2) rfl) rfl rfl rfl (fun _=>?_)
    refine TO.nil ?_
    refine TE.next ?_
    refine TW.seq ?_
    refine TW.draw (isH:=[]) hMix ?_
    refine TA.y 0 [] rfl (Y.move rfl) rfl rfl rfl (by kernel_rfl) rfl ?_
    refine TA.y 1 [] rfl (Y.move rfl) rfl rfl rfl (by kernel_rfl) rfl ?_
    refine TA.y 2 [] rfl (Y.move rfl) rfl rfl rfl (by kernel_rfl) rfl ?_
    refine TA.y 3 [] rfl (Y.add rfl rfl) rfl rfl rfl (by kernel_rfl) rfl ?_
    refine TA.y 4 [] rfl (Y.fromRaw (lo:=I+v.length) ke58 (by omega) (by omega) (wr2 I v.length (by omega)) rfl rfl) rfl rfl rfl (by kernel_rfl) rfl ?_
    refine TA.y 5 [] rfl (Y.move rfl) rfl rfl rfl (by kernel_rfl) rfl ?_
    refine TA.y 6 [] rfl (Y.move rfl) rfl rfl rfl (by kernel_rfl) rfl ?_
    refine TA.y 7 [] rfl (Y.fromRaw (lo:=I) ke58 (by omega) (by omega) rfl rfl rfl) rfl rfl rfl (by kernel_rfl) rfl ?_
    refine TA.one 8 (by kernel_rfl) ?_
    refine TX.ef [] rfl (Ef.rawCopy (sl:=s.length - I) 0 1 ke58 rfl rfl rfl rfl (by omega) (by rw[q4];exact m2) (Nat.le_trans m4 hl1) (zdA ho1 h1n) rfl) rfl rfl rfl (fun _=>rfl) (fun _=>?_)
    refine TA.nil (by kernel_rfl) ?_
    refine TE.next ?_
    refine TW.seq ?_
    refine TW.region ?_
    refine TO.y (Y.move rfl) rfl rfl rfl ?_
    refine TO.y (Y.assign rfl) rfl rfl rfl ?_
    refine TO.nil ?_
    refine TE.next ?_
    refine TW.ret ?_
    refine TE.then_ret ?_
    refine TE.ghost (Gh.fold (α:=KV) (l:=s) (k:=v) (i:=I) [0,2,2,0,0] rfl h1n hz2 hz3 (Nat.le_of_eq q5.symm) q6) (fun _=>?_)
    exact TE.leaf fun _ _ hf_ hs_=>zS (rs:=[.tmp 6]) (vs:=[.slice (some ⟨g,0,none⟩) (s.length+v.length) gc]) (.inl rfl) rfl ⟨rfl,trivial⟩ hf_ hs_ ⟨(.slice (some ⟨g,0,none⟩) (s.length+v.length) gc),rfl,hs_.pulls [0] rfl⟩
   ·refine TW.cond_f rfl (by rw[e1];exact decide_eq_false (by omega)) ?_
    refine TW.skip ?_
    refine TE.next ?_
    refine TW.seq ?_
    refine TW.region ?_
    refine TO.y (Y.move rfl) rfl rfl rfl ?_
    refine TO.y (Y.move rfl) rfl rfl rfl ?_
    refine TO.y (Y.move rfl) rfl rfl rfl ?_
    refine TO.y (Y.add rfl rfl) rfl rfl rfl ?_
    refine TO.y (Y.toRaw (hi:=s.length+v.length) ke58 (by omega) e1 rfl rfl) rfl rfl rfl ?_
    refine TO.y (Y.assign rfl) rfl rfl rfl ?_
    refine TO.nil ?_
    refine TE.next ?_
    obtain ⟨q1,q2,q3,q4,q5⟩:=insB h1n (by omega) hc3 hl1 hl2
    have m1:0+I*2+v.length*2≤cap*2:=by omega
    have m2:0+(I+v.length)*2+(s.length - I)*2≤cap*2:=by omega
    have m3:0+v.length*2≤cap2*2:=by omega
    have m4:0+I*2+(s.length - I)*2≤cap*2:=by omega
    have hne:cur≠[]:=by intro e;rw[e]at hl1;simp at hl1;omega
    refine TW.seq ?_
    refine TW.seq ?_
    refine TW.region ?_
    refine TO.y (Y.move rfl) rfl rfl rfl ?_
    refine TO.y (Y.move rfl) rfl rfl rfl ?_
    refine TO.y (Y.move rfl) rfl rfl rfl ?_
    refine TO.y (Y.move rfl) rfl rfl rfl ?_
    refine TO.y (Y.add rfl rfl) rfl rfl rfl ?_
    refine TO.y (Y.fromRaw (lo:=I+v.length) ke58 (by omega) (by omega) (wr2 I v.length (by omega)) rfl rfl) rfl rfl rfl ?_
    refine TO.ef (Ef.overlaps (tr:=4) 1 0 Tryz.func197 (by kernel_rfl) (by kernel_rfl) (by kernel_rfl) (by kernel_rfl) ke58 rfl rfl (Ne.symm hbb) rfl rfl hne) rfl rfl rfl (fun _=>?_)
    refine TO.y (Y.not rfl) rfl rfl rfl ?_
    refine TO.nil ?_
    refine TE.next ?_
    refine TW.cond_true rfl ?_
    refine TW.seq ?_
    refine TW.draw (isH:=[]) hMix ?_
    refine TA.y 0 [] rfl (Y.move rfl) rfl rfl rfl (by kernel_rfl) rfl ?_
    refine TA.y 1 [] rfl (Y.move rfl) rfl rfl rfl (by kernel_rfl) rfl ?_
    refine TA.y 2 [] rfl (Y.move rfl) rfl rfl rfl (by kernel_rfl) rfl ?_
    refine TA.y 3 [] rfl (Y.add rfl rfl) rfl rfl rfl (by kernel_rfl) rfl ?_
    refine TA.y 4 [] rfl (Y.fromRaw (lo:=I+v.length) ke58 (by omega) (by omega) (wr2 I v.length (by omega)) rfl rfl) rfl rfl rfl (by kernel_rfl) rfl ?_
    refine TA.y 5 [] rfl (Y.move rfl) rfl rfl rfl (by kernel_rfl) rfl ?_
    refine TA.y 6 [] rfl (Y.move rfl) rfl rfl rfl (by kernel_rfl) rfl ?_
    refine TA.y 7 [] rfl (Y.fromRaw (lo:=I) ke58 (by omega) (by omega) rfl rfl rfl) rfl rfl rfl (by kernel_rfl) rfl ?_
    refine TA.one 8 (by kernel_rfl) ?_
    refine TX.ef [] rfl (Ef.rawCopy (sl:=s.length - I) 0 0 ke58 rfl rfl rfl rfl (by omega) (Nat.le_trans m2 hl1) (Nat.le_trans m4 hl1) (zdA ho1 h1n) rfl) rfl rfl rfl (fun _=>rfl) (fun _=>?_)
    refine TA.nil (by kernel_rfl) ?_
    refine TE.next ?_
    refine TW.seq ?_
    refine TW.region ?_
    refine TO.y (Y.move rfl) rfl rfl rfl ?_
    refine TO.y (Y.move rfl) rfl rfl rfl ?_
    refine TO.y (Y.fromRaw (lo:=I) ke58 (by omega) (by omega) rfl rfl rfl) rfl rfl rfl ?_
    refine TO.y (Y.move rfl) rfl rfl rfl ?_
    refine TO.ef (Ef.rawCopy (sl:=v.length) 0 1 ke58 rfl rfl rfl rfl (by omega) (by rw[q3];exact Nat.le_trans m1 hl1) (Nat.le_trans m3 hl2) (by rw[List.drop_zero];exact ho2) rfl) rfl rfl rfl (fun _=>?_)
    refine TO.nil ?_
    refine TE.next ?_
    refine TW.seq ?_
    refine TW.region ?_
    refine TO.y (Y.move rfl) rfl rfl rfl ?_
    refine TO.y (Y.assign rfl) rfl rfl rfl ?_
    refine TO.nil ?_
    refine TE.next ?_
    refine TW.ret ?_
    refine TE.then_ret ?_
    refine TE.ghost (Gh.fold (α:=KV) (l:=s) (k:=v) (i:=I) [0,1,1,0] rfl h1n (by omega) hc2 (by rw[q4];exact hl1) q5) (fun _=>?_)
    exact TE.leaf fun _ _ hf_ hs_=>zS (rs:=[.tmp 6]) (vs:=[.slice (some ⟨b,0,none⟩) (s.length+v.length) cap]) (.inl rfl) rfl ⟨rfl,trivial⟩ hf_ hs_ ⟨(.slice (some ⟨b,0,none⟩) (s.length+v.length) cap),rfl,hs_.pulls [0] rfl⟩
theorem ziP {s:List KV} {i:Int} {v:List KV} {V_s0 V_v0:Value} :Cn Tryz.prog 175 [V_s0,iv i,V_v0] [.own V_s0 (lc s),.own V_v0 (lc v)] [] (zbA s i v) (fun _ (X:Value)=>X) fun r X=>[.own X (lc r)]:=⟨by kernel_rfl,fun _ h=>zhQ s i v _ _ _ h⟩
noncomputable def zfu (m:List KV) (key:List UInt8) (val:List UInt8):Option (List KV):=
 (zd5 m key).bind fun R1=>
 if R1.2=true then ((idx m R1.1).bind fun E5=>
 some (m.set R1.1.toNat (⟨E5.Key,val⟩:KV)))
 else ((zbA m R1.1 ([(⟨key,val⟩:KV)])).bind fun R8=>
 some R8)
theorem zn1 {m:List KV} {key:List UInt8} {val:List UInt8} {U0:Value} :Cn Tryz.prog 140 [U0,strV key,strV val] [.own U0 (lc m)] [] (zfu m key val) (fun _ (X:Value)=>X) fun r X=>[.own X (lc r)]:=by
 unfold zfu
 refine Ci Tryz.func140 r r ?_
 rintro w S -
 refine Sr<|Qs 1 r<|Nx<|Sr<|Qs 2 r<|Bi fun R1 H2=>Fo (Cl [] zix H2 r r1 ⟨(Oc 0 r),⟨⟩⟩) fun _=>Qs 5 r<|Nx<|Sq<|Sr<|Qs 1 r<|Nx<|Wc r (fun H4=>Sr<|Qs 3 r<|Bi fun E5 H6=>Yo (Ix ke58 (Oc 0 r) H6 r)<|Yo (Fe zrB (Oc 0 r) H6 r)<|Fu (Se (⟨E5.Key,val⟩:KV) 0 kk9 H6 r (Cp r) r)<|Nx<|Sr<|Qs 2 r<|Nx<|Wr<|Tr<|Re U0 [0]) fun H4=>Sn<|Sr<|Qs 4 r<|Yo (Bd kp78 kz78 (Pc r (Cp r)<|Pc r (Cp r)<|Pz) r)<|Fo (Bs [(⟨key,val⟩:KV)] ke58 kz78) fun B7=>Bi fun R8 H9=>Fo (Cl [1,0] ziP H9 r r1) fun Y10=>?_
 exact Qs 1 r<|Nx<|Wr<|Re Y10 [0]
noncomputable def zeN (m:List KV) (l:List Op):Option (List KV):=
 (zdK m).bind fun R1=>
 bindC (loopO (fun (S4:Int × List KV)=>if decide (S4.1<(l.length:Int)) then ((idx l S4.1).bind fun E9=>
 bindC (if E9.Del=true then ((zeP S4.2 E9.Key).bind fun R15=>
 some (.go R15))
 else ((zfu S4.2 E9.Key E9.Val).bind fun R18=>
 some (.go R18)))
 (fun (T12:List KV)=>some (.go (IntKind.i64.wrap (S4.1+1),T12))))
 else (some (.done (.go S4.2))))
 ((0:Int),R1))
 (fun (T6:List KV)=>some T6)
theorem zmJ {m:List KV} {l:List Op} {U0 U1:Value} :Cn Tryz.prog 98 [U0,U1] [] [(U0,lc m),(U1,lc l)] (zeN m l) (fun _ (X:Value)=>X) fun r X=>[.own X (lc r)]:=by
 unfold zeN
 refine Ci Tryz.func98 r r ?_
 rintro w S ⟨Z0,Z1,-⟩
 refine Sr<|Qs 1 r<|Nx<|Sr<|Qs 1 r<|Bi fun R1 H2=>Fo (Cl [] zjl H2 r r1 ⟨(Bc Z0),⟨⟩⟩) fun Y3=>Qs 1 r<|Nx<|Sq<|Sr<|Qs 1 r<|Yo (Ln ke27 (Bc Z1) r)<|Qs 1 r<|Nx<|Jn Value [] [] (fun _ X=>[(5,X)]) (fun T X=>[.own X (lc T)]) r2 r2 (?_) fun T6 X7=>?_
 ·refine Wb<|Lp Value [10,11] [] (fun T X=>[(5,X),(12,iv T.1)]) (fun T X=>[.own X (lc T.2)]) Y3 [0] r2 r2 fun S4 X5=>Sr<|Qs 1 r<|Nx<|Sq<|Wc r (fun H8=>?_) fun H8=>?_
  ·refine Sn<|Sq<|Wb<|Sr<|Bi fun E9 H10=>Yo (Ix ke27 (Bc Z1) H10 r)<|Yo (Le kk120 (Bc Z1) H10 r)<|Fo (Al kz120 r) fun B11=>Fu (Sb 0 kk120 r (Cp r) r)<|Nx<|Sr<|Yo (Fb zff r)<|Yo (Lb 0 kk4 r)<|Nx<|Jn Value [10,11,12] [] (fun _ X=>[(5,X)]) (fun T X=>[.own X (lc T)]) r2 r2 (?_) fun T12 X13=>?_
   ·exact Wc r (fun H14=>Rg<|Qs 1 r<|Yo (Fb zev r)<|Yo (Lb 0 kk9 r)<|Bi fun R15 H16=>Fo (Cl [1] zmL H16 r r1) fun Y17=>Qs 1 r<|Nl<|Jg Y17 [0]) fun H14=>Rg<|Qs 1 r<|Yo (Fb zev r)<|Yo (Lb 0 kk9 r)<|Yo (Fb zfg r)<|Yo (Lb 0 kk9 r)<|Bi fun R18 H19=>Fo (Cl [1] zn1 H19 r r1) fun Y20=>Qs 1 r<|Nl<|Jg Y20 [0]
   exact Bn<|Ne<|Rg<|Qs 2 r<|Nl<|Lg X13 [0]
  exact Wx<|Tx<|Ex<|Be<|Jg X5 [0]
 exact Ne<|Sr<|Qs 2 r<|Nx<|Wr<|Re X7 [0]
noncomputable def zd3 (m:List KV):Option Int:=
 bindC (loopO (fun (S1:Int × Int)=>if decide (S1.2<(m.length:Int)) then ((idx m S1.2).bind fun E6=>
 some (.go (IntKind.i64.wrap (S1.1+(IntKind.i64.wrap ((E6.Key.length:Int)+(E6.Val.length:Int)))),IntKind.i64.wrap (S1.2+1))))
 else (some (.done (.go S1.1))))
 ((0:Int),(0:Int)))
 (fun (T3:Int)=>some T3)
theorem ziw {m:List KV} {U0:Value} :Cn Tryz.prog 60 [U0] [] [(U0,lc m)] (zd3 m) (fun r (_:Unit)=>iv r) fun _ _=>[]:=by
 unfold zd3
 refine Ci Tryz.func60 r r ?_
 rintro w S ⟨Z0,-⟩
 refine Sr<|Qs 1 r<|Nx<|Sr<|Qs 1 r<|Nx<|Sq<|Sr<|Qs 1 r<|Yo (Ln ke58 (Bc Z0) r)<|Qs 1 r<|Nx<|Ju [] (fun T=>[(3,iv T)]) r1 (?_) fun T3=>?_
 ·refine Wb<|Lu [6,7] (fun T=>[(3,iv T.1),(8,iv T.2)]) r1 fun S1=>Sr<|Qs 1 r<|Nx<|Sq<|Wc r (fun H5=>?_) fun H5=>?_
  ·exact Sn<|Sq<|Wb<|Sr<|Bi fun E6 H7=>Yo (Ix ke58 (Bc Z0) H7 r)<|Yo (Le kk78 (Bc Z0) H7 r)<|Fo (Al kz78 r) fun B8=>Fu (Sb 0 kk78 r (Cp r) r)<|Nx<|Rg<|Qs 1 r<|Yo (Fb zow r)<|Yo (Lb 0 kk9 r)<|Yo (Y.slen ks9 r)<|Yo (Fb zrB r)<|Yo (Lb 0 kk9 r)<|Yo (Y.slen ks9 r)<|Qs 3 r<|Nl<|Bn<|Ne<|Rg<|Qs 2 r<|Nl<|Lg () []
  exact Wx<|Tx<|Ex<|Be<|Jg () []
 exact Ne<|Sr<|Qs 2 r<|Nx<|Wr<|Re () []
noncomputable def zeQ (s:Shares) (tenant:Int):Option Int:=
 bindC (loopO (fun (S2:Int)=>if decide (S2<(s.List.length:Int)) then ((idx s.List S2).bind fun E7=>
 if decide (E7.Tenant=tenant) then (some (.done (.done E7.Quota)))
 else (some (.go (IntKind.i64.wrap (S2+1)))))
 else (some (.done (.go ()))))
 (0:Int))
 (fun (T4:Unit)=>some (0:Int))
theorem zmO {s:Shares} {tenant:Int} {U0:Value} :Cn Tryz.prog 99 [.agg #[iv s.Size,U0],iv tenant] [] [(U0,lc s.List)] (zeQ s tenant) (fun r (_:Unit)=>iv r) fun _ _=>[]:=by
 unfold zeQ
 refine Ci Tryz.func99 r r ?_
 rintro w S ⟨Z0,-⟩
 refine Sr<|Fo (Bx r (Ca ⟨Op',Ob Z0,⟨⟩⟩)) fun B1=>Qs 1 r<|Nx<|Sq<|Sr<|Yo (Fb zcV r)<|Yo (Lb 0 kk33 r)<|Yo (Ln ke33 (Bc Z0) r)<|Qs 1 r<|Nx<|Jn Unit [] [] (fun _ _=>[]) (fun _ _=>[]) r2 r2 (?_) fun T4 X5=>?_
 ·refine Wb<|Lp Unit [1,8,9] [] (fun T _=>[(10,iv T)]) (fun _ _=>[]) () [] r2 r2 fun S2 X3=>Sr<|Qs 1 r<|Nx<|Sq<|Wc r (fun H6=>?_) fun H6=>?_
  ·exact Sn<|Sq<|Wb<|Sr<|Bi fun E7 H8=>Yo (Ix ke33 (Bc Z0) H8 r)<|Yo (Le kk129 (Bc Z0) H8 r)<|Fo (Al kz129 r) fun B9=>Fu (Sb 0 kk129 r (Cp r) r)<|Nx<|Sr<|Yo (Fb zhi r)<|Yo (Lb 0 kk3 r)<|Qs 2 r<|Nx<|Wc r (fun H10=>Sr<|Yo (Fb zmQ r)<|Yo (Lb 0 kk3 r)<|Qs 1 r<|Nx<|Wr<|Br<|Tr<|Er<|Br<|Jd<|Tr<|Re () []) fun H10=>Sk<|Bn<|Ne<|Rg<|Qs 2 r<|Nl<|Lg () []
  exact Wx<|Tx<|Ex<|Be<|Jg () []
 exact Ne<|Sr<|Qs 1 r<|Nx<|Wr<|Re () []
noncomputable def zb8 (s:List Ent):Option (List Ent):=
 (app 48 ([]:List Ent) s).bind fun E4=>
 some E4
theorem zc0 {s:List Ent} {U0:Value} :Cn Tryz.prog 141 [U0] [] [(U0,lc s)] (zb8 s) (fun _ (X:Value)=>X) fun r X=>[.own X (lc r)]:=by
 unfold zb8
 refine Ci Tryz.func141 r r ?_
 rintro w S ⟨Z0,-⟩
 exact Sr<|Qs 1 r<|Nx<|Sq<|Sr<|Qs 1 r<|Yo (Y.nileq ke90 (Bc Z0) r r)<|Nx<|TW.cond_nil (Bc Z0) r (fun hnil_=>by subst hnil_;show TW _ _ _ (some ([])) _ _ _ _ _;exact (Sr<|Qs 1 r<|Nx<|Wr<|Tr<|Ni 4<|Re (.slice none 0 0) [0]))<|Sn<|Sr<|Fo (Bs ([]:List Ent) ke90 kz189) fun B2=>Qs 1 r<|Bi fun E4 H5=>Fo (Ap [0] H5 ke90 kz189 r (Bc Z0)) fun V3=>Qs 1 r<|Nx<|Wr<|Re V3 [0]
noncomputable def zcC (s:List Int):Option (List Int):=
 (app 8 ([]:List Int) s).bind fun E4=>
 some E4
theorem zem {s:List Int} {U0:Value} :Cn Tryz.prog 142 [U0] [] [(U0,lc s)] (zcC s) (fun _ (X:Value)=>X) fun r X=>[.own X (lc r)]:=by
 unfold zcC
 refine Ci Tryz.func142 r r ?_
 rintro w S ⟨Z0,-⟩
 exact Sr<|Qs 1 r<|Nx<|Sq<|Sr<|Qs 1 r<|Yo (Y.nileq ke53 (Bc Z0) r r)<|Nx<|TW.cond_nil (Bc Z0) r (fun hnil_=>by subst hnil_;show TW _ _ _ (some ([])) _ _ _ _ _;exact (Sr<|Qs 1 r<|Nx<|Wr<|Tr<|Ni 1<|Re (.slice none 0 0) [0]))<|Sn<|Sr<|Fo (Bs ([]:List Int) ke53 kz3) fun B2=>Qs 1 r<|Bi fun E4 H5=>Fo (Ap [0] H5 ke53 kz3 r (Bc Z0)) fun V3=>Qs 1 r<|Nx<|Wr<|Re V3 [0]
noncomputable def zd4 (e:Eng):Option Eng:=
 (zb8 e.Mem).bind fun R3=>
 (zcC e.Snaps).bind fun R7=>
 bindC (loopO (fun (S17:Int × List (List Ent))=>if decide (S17.1<(e.Tables.length:Int)) then ((idx e.Tables S17.1).bind fun E22=>
 (zb8 E22).bind fun R25=>
 (app 24 S17.2 ([R25])).bind fun E31=>
 some (.go (IntKind.i64.wrap (S17.1+1),E31)))
 else (some (.done (.go S17.2))))
 ((0:Int),([]:List (List Ent))))
 (fun (T19:List (List Ent))=>some (⟨R3,T19,e.Seq,R7⟩:Eng))
theorem zfb {e:Eng} {U0 U1 U2:Value} :Cn Tryz.prog 100 [.agg #[U0,U1,iv e.Seq,U2]] [] [(U0,lc e.Mem),(U1,lc e.Tables),(U2,lc e.Snaps)] (zd4 e) (fun r (X:Value × Value × Value)=>.agg #[X.1,X.2.1,iv r.Seq,X.2.2]) fun r X=>[.own X.1 (lc r.Mem),.own X.2.1 (lc r.Tables),.own X.2.2 (lc r.Snaps)]:=by
 unfold zd4
 refine Ci Tryz.func100 r r ?_
 rintro w S ⟨Z0,Z1,Z2,-⟩
 refine Sr<|Fo (Bx r (Ca ⟨Ob Z0,Ob Z1,Op',Ob Z2,⟨⟩⟩)) fun B1=>Fo (Al kz93 r) fun B2=>Nx<|Sq<|Wi fun R3 H4=>Wi fun R7 H8=>Jw (Nat × Value × Value) [1,2] [1,0] (fun X=>[(3,pt X.1)]) (fun X=>[.box X.1 93 [X.2.1,.slice none 0 0,iv e.Seq,X.2.2],.own X.2.1 (lc R3),.own X.2.2 (lc R7)]) r1 r1 (?_) fun X14=>?_
 ·refine Dr [0,0] r hMix<|Ay 0 [0,0] r (Fb zb6 r)<|Ay 1 [0,0] r (Lb 1 kk90 r)<|Ay 3 [0,0] r (Fb zcA r)<|Ay 4 [0,0] r (Lb 1 kk3 r)<|Ay 5 [0,0] r (Fb zfw r)<|Ay 6 [0,0] r (Lb 1 kk53 r)<|A2 2 9 (?_)<|?_
  ·refine Xe [1,1] r (Cl [] zc0 H4 r r1 ⟨(Bc Z0),⟨⟩⟩) fun Y15=>A2 7 9 (?_)<|?_
   ·exact Xe [2,2] r (Cl [] zem H8 r r1 ⟨(Bc Z2),⟨⟩⟩) fun Y17=>A2 8 9 (Xy [2,2] r (Bd kp93 kz93 (Pc r (Co 1)<|Pc r (Cp r)<|Pc r (Co 0)<|Pz) r)<|A1 9<|Xe [3,3] r (Al kz93 r) fun B20=>A1 10<|Xu [3,3] r (Sb 0 kk93 r (Ca ⟨Ow' 2,Op',Op',Ow' 1,⟨⟩⟩) r)<|Az<|Bg (B20,Y15,Y17) [4,3,0,1,0])<|Xe [3,3] r (Al kz93 r) fun B19=>A1 8<|Xy [3,3] r (Bd kp93 kz93 (Pc r (Co 2)<|Pc r (Cp r)<|Pc r (Co 1)<|Pz) r)<|A1 10<|Xu [3,3] r (Sb 0 kk93 r (Ca ⟨Ow' 2,Op',Op',Ow' 1,⟨⟩⟩) r)<|Az<|Bg (B19,Y15,Y17) [4,3,0,1,0]
   exact Xe [2,2] r (Al kz93 r) fun B18=>A1 7<|Xe [3,3] r (Cl [] zem H8 r r1 ⟨(Bc Z2),⟨⟩⟩) fun Y19=>A1 8<|Xy [3,3] r (Bd kp93 kz93 (Pc r (Co 2)<|Pc r (Cp r)<|Pc r (Co 0)<|Pz) r)<|A1 10<|Xu [3,3] r (Sb 1 kk93 r (Ca ⟨Ow' 2,Op',Op',Ow' 0,⟨⟩⟩) r)<|Az<|Bg (B18,Y15,Y19) [4,3,1,1,0]
  exact Xe [1,1] r (Al kz93 r) fun B16=>A1 2<|Xe [2,2] r (Cl [] zc0 H4 r r1 ⟨(Bc Z0),⟨⟩⟩) fun Y17=>A1 7<|Xe [3,3] r (Cl [] zem H8 r r1 ⟨(Bc Z2),⟨⟩⟩) fun Y18=>A1 8<|Xy [3,3] r (Bd kp93 kz93 (Pc r (Co 1)<|Pc r (Cp r)<|Pc r (Co 0)<|Pz) r)<|A1 10<|Xu [3,3] r (Sb 2 kk93 r (Ca ⟨Ow' 1,Op',Op',Ow' 0,⟨⟩⟩) r)<|Az<|Bg (B16,Y17,Y18) [4,3,2,1,0]
 refine Ne<|Sq<|Sr<|Yo (Fb zbl r)<|Yo (Lb 0 kk91 r)<|Yo (Ln ke91 (Bc Z1) r)<|Qs 1 r<|Nx<|Jn Value [2,3] [1,2,2] (fun _ _=>[]) (fun T X=>[.box X14.1 93 [X14.2.1,X,iv e.Seq,X14.2.2],.own X (lc T)]) r2 r2 (?_) fun T19 X20=>?_
 ·refine Wb<|Nw 1<|Lp Value [2,3,16,17] [2,3,3] (fun T _=>[(18,iv T.1)]) (fun T X=>[.box X14.1 93 [X14.2.1,X,iv e.Seq,X14.2.2],.own X (lc T.2)]) (.slice none 0 0) [2,3,3,2,0] r2 r2 fun S17 X18=>Sr<|Qs 1 r<|Nx<|Sq<|Wc r (fun H21=>?_) fun H21=>?_
  ·refine Sn<|Sq<|Wb<|Sr<|Bi fun E22 H23=>Yo (Ix ke91 (Bc Z1) H23 r)<|?_
   have Q24:Base w S (elv w U1 (S17.1.toNat*1+0)) (lc E22):=Base.el Z1 (zz H23).2.2 r r
   refine Yo (Lz kk90 Z1 H23 r)<|Qs 1 r<|Nx<|Wi fun R25 H26=>Wi fun E31 H32=>Jw Value [2,3,16,17,18] [0,0,0] (fun _=>[]) (fun X=>[.box X14.1 93 [X14.2.1,X,iv e.Seq,X14.2.2],.own X (lc E31)]) r1 r1 (?_) fun X34=>?_
   ·refine Dr [0,0,0] r hMix<|Ay 0 [0,0,0] r (Fb zbl r)<|Aq [2] [0,0,0] r<|A2 1 3 (?_)<|?_
    ·exact Xy [0,0,0] r (Lb 3 kk91 r)<|A1 3<|Xe [1,1,1] r (Cl [] zc0 H26 r r1 ⟨(Bc Q24),⟨⟩⟩) fun Y36=>A1 4<|Xe [2,2,2] r (Bk [.raw Y36] ke91 kz90 r (Qc (Co 0)<|Qz)) fun B37=>Ka (Ha [0,0] ([R25]:List (List Ent)) r (Cf Cz))<|A1 5<|Xe [1,1,1] r (Aw [5,0] H32 ke91 kz90 r) fun V38=>Ay 6 [1,1,1] r (Fb zbl r)<|A1 7<|Xu [1,1,1] r (Sb 4 kk91 r (Co 0) r)<|Az<|Bg V38 [1,1,1,1,0]
    refine Xe [1,1,1] r (Cl [] zc0 H26 r r1 ⟨(Bc Q24),⟨⟩⟩) fun Y35=>A2 1 4 (?_)<|?_
    ·exact Xy [1,1,1] r (Lb 4 kk91 r)<|A1 4<|Xe [2,2,2] r (Bk [.raw Y35] ke91 kz90 r (Qc (Co 0)<|Qz)) fun B37=>Ka (Ha [0,0] ([R25]:List (List Ent)) r (Cf Cz))<|A1 5<|Xe [1,1,1] r (Aw [5,0] H32 ke91 kz90 r) fun V38=>Ay 6 [1,1,1] r (Fb zbl r)<|A1 7<|Xu [1,1,1] r (Sb 4 kk91 r (Co 0) r)<|Az<|Bg V38 [1,1,1,1,0]
    exact Xe [2,2,2] r (Bk [.raw Y35] ke91 kz90 r (Qc (Co 0)<|Qz)) fun B36=>Ka (Ha [0,0] ([R25]:List (List Ent)) r (Cf Cz))<|A1 1<|Xy [1,1,1] r (Lb 4 kk91 r)<|A1 5<|Xe [1,1,1] r (Aw [5,0] H32 ke91 kz90 r) fun V37=>Ay 6 [1,1,1] r (Fb zbl r)<|A1 7<|Xu [1,1,1] r (Sb 4 kk91 r (Co 0) r)<|Az<|Bg V37 [1,1,1,1,0]
   exact Bn<|Ne<|Rg<|Qs 2 r<|Nl<|Lg X34 [0,0,0,0,0]
  exact Wx<|Tx<|Ex<|Be<|Jg X18 [0,0,0,0,0]
 exact Ne<|Sr<|Yo (Lb 3 kk93 r)<|Fu (Sb 0 kk93 r (Ca ⟨Ow' 1,Ow' 4,Op',Ow' 2,⟨⟩⟩) r)<|Nx<|Wr<|Rf (X14.2.1,X20,X14.2.2) [1,3,1] (RV.cell 0 r r kk93 r Rz)
noncomputable def zcd (s:Store) (id:Int):Option (List LogRow):=
 bindC (loopO (fun (S1:Int × List LogRow)=>if decide (S1.1<(s.Rows.length:Int)) then ((idx s.Rows S1.1).bind fun E6=>
 bindC (if decide (E6.Tenant=id) then ((app 48 S1.2 ([E6])).bind fun E14=>
 some (.go E14))
 else (some (.go S1.2)))
 (fun (T9:List LogRow)=>some (.go (IntKind.i64.wrap (S1.1+1),T9))))
 else (some (.done (.go S1.2))))
 ((0:Int),([]:List LogRow)))
 (fun (T3:List LogRow)=>some T3)
theorem zdr {s:Store} {id:Int} {U0 U1 U2 U3 U4:Value} {U5:Nat} :Cn Tryz.prog 64 [pt U5,iv id] [.box U5 39 [strV s.Secret,strV s.Keys.Master,U0,iv s.Keys.Wiped,iv s.Shares.Size,U1,U2,U3,U4,iv s.Boot]] [(U3,lc s.Rows)] (zcd s id) (fun _ (X:Value)=>X) fun r X=>[.box U5 39 [strV s.Secret,strV s.Keys.Master,U0,iv s.Keys.Wiped,iv s.Shares.Size,U1,U2,U3,U4,iv s.Boot],.own X (lc r)]:=by
 unfold zcd
 refine Ci Tryz.func64 r r ?_
 rintro w S ⟨Z0,-⟩
 refine Sr<|Qs 1 r<|Nx<|Sr<|Qs 1 r<|Nx<|Sq<|Sr<|Qs 2 r<|Yo (Fb zfv r)<|Yo (Lb 0 kk37 r)<|Yo (Ln ke37 (Bc Z0) r)<|Qs 1 r<|Nx<|Jn Value [] [0] (fun _ X=>[(5,X)]) (fun T X=>[.own X (lc T)]) r2 r2 (?_) fun T3 X4=>?_
 ·refine Wb<|Nw 5<|Lp Value [1,11,12] [1] (fun T X=>[(5,X),(13,iv T.1)]) (fun T X=>[.own X (lc T.2)]) (.slice none 0 0) [1,0] r2 r2 fun S1 X2=>Sr<|Qs 1 r<|Nx<|Sq<|Wc r (fun H5=>?_) fun H5=>?_
  ·exact Sn<|Sq<|Wb<|Sr<|Bi fun E6 H7=>Yo (Ix ke37 (Bc Z0) H7 r)<|Yo (Le kk106 (Bc Z0) H7 r)<|Fo (Al kz106 r) fun B8=>Fu (Sb 0 kk106 r (Cp r) r)<|Nx<|Sr<|Yo (Fb zpO r)<|Yo (Lb 0 kk3 r)<|Qs 2 r<|Nx<|Jn Value [1,11,12,13] [1] (fun _ X=>[(5,X)]) (fun T X=>[.own X (lc T)]) r2 r2 (Wc r (fun H11=>Rg<|Qs 1 r<|Yo (Lb 0 kk106 r)<|Fo (Bs [E6] ke37 kz106) fun B12=>Bi fun E14 H15=>Fo (Ap [3] H15 ke37 kz106 r (Oc 0 r)) fun V13=>Qs 1 r<|Nl<|Jg V13 [3,0]) fun H11=>Sk<|Jg X2 [1,1]) fun T9 X10=>Bn<|Ne<|Rg<|Qs 2 r<|Nl<|Lg X10 [0,0]
  exact Wx<|Tx<|Ex<|Be<|Jg X2 [0,0]
 exact Ne<|Sr<|Qs 2 r<|Nx<|Wr<|Re X4 [0,0]
end Go.Proofs.YtfgjhefhlabpkaaGreat
