/-
  The functions that a law reaches, each as a pure function, with the proof that the program computes it, and the step from a pure law to the given statement. Conditions: none.
-/
import Derived.Test.YtfgjhefhlabpkaaGreatQ4
set_option linter.unusedVariables false
set_option maxRecDepth 100000
set_option maxHeartbeats 4000000
namespace Go.Proofs.YtfgjhefhlabpkaaGreat
open Go Sl
noncomputable def zbB (s:List Ent) (i:Int) (v:List Ent):Option (List Ent):=ins 48 s i v
theorem zhU (s:List Ent) (i:Int) (v:List Ent) (V_s0 V_v0:Value) (r:List Ent) (hm:zbB s i v=some r):
 Con Tryz.prog 178 [V_s0,.int .i64 i,V_v0] [.own V_s0 (lc s),.own V_v0 (lc v)] [] (fun X:Value=>X) (fun X=>[.own X (lc r)]):=by
 refine Con.intro (args:=[V_s0,.int .i64 i,V_v0]) (n:=95) (val:=fun _ (X:Value)=>X) (post:=fun r X=>[.own X (lc r)]) (m:=zbB s i v) Tryz.func178 rfl rfl rfl hm ?_
 intro w S _
 unfold zbB
 refine TW.known fun r0 hr0=>?_
 obtain ⟨h0,h1,h2,h3,rfl⟩:=ziD hr0
 obtain ⟨I,rfl⟩:=Int.eq_ofNat_of_zero_le h0
 rw[Int.toNat_natCast]
 have h1n:I≤s.length:=by omega
 clear hr0 hm
 have wr: ∀q:Nat,q≤4611686018427387904→IntKind.i64.wrap (q:Int)=(q:Int):=fun q hq=>by rw[IntKind.wrap_i64];omega
 have wr2: ∀a b:Nat,a+b≤4611686018427387904→IntKind.i64.wrap ((a:Int)+(b:Int))=((a+b:Nat):Int):=fun a b hq=>by rw[IntKind.wrap_i64];omega
 obtain ⟨z0,hpc⟩: ∃z,piece s (I:Int) (s.length:Int)=some z:=⟨_,if_pos ⟨by omega,by omega,by omega⟩⟩
 refine TW.seq ?_
 refine TW.region ?_
 refine TO.y (Y.assign rfl) rfl rfl rfl ?_
 refine TO.nil ?_
 refine TE.next ?_
 refine TW.seq ?_
 refine TW.region ?_
 refine TO.y (Y.move rfl) rfl rfl rfl ?_
 refine TO.y (Y.move rfl) rfl rfl rfl ?_
 refine TO.y (Y.subs hpc ke90 (Can.own 0 rfl) rfl ⟨_,rfl⟩ rfl) rfl rfl rfl ?_
 refine TO.nil ?_
 refine TE.next ?_
 refine TW.seq ?_
 refine TW.region ?_
 refine TO.y (Y.move rfl) rfl rfl rfl ?_
 refine TO.y (Y.len (l:=v) ke90 (Can.own 1 rfl) rfl) rfl rfl rfl ?_
 refine TO.y (Y.assign rfl) rfl rfl rfl ?_
 refine TO.nil ?_
 refine TE.next ?_
 refine TW.seq ?_
 refine TW.seq ?_
 refine TW.region ?_
 refine TO.y (Y.move rfl) rfl rfl rfl ?_
 refine TO.y (Y.eql rfl rfl) rfl rfl rfl ?_
 refine TO.nil ?_
 refine TE.next ?_
 by_cases hm0:v= []
 ·subst hm0
  rw[show s.take I++([]++s.drop I)=s by simp]
  refine TW.cond_t rfl (by simp) ?_
  refine TW.seq ?_
  refine TW.region ?_
  refine TO.y (Y.move rfl) rfl rfl rfl ?_
  refine TO.y (Y.assign rfl) rfl rfl rfl ?_
  refine TO.nil ?_
  refine TE.next ?_
  refine TW.ret ?_
  refine TE.then_ret ?_
  exact TE.leaf fun _ _ hf_ hs_=>zS (rs:=[.tmp 6]) (vs:=[V_s0]) (.inl rfl) rfl ⟨rfl,trivial⟩ hf_ hs_ ⟨V_s0,rfl,hs_.pulls [0] rfl⟩
 ·have hm1:0<v.length:=List.length_pos_iff.2 hm0
  refine TW.cond_f rfl (decide_eq_false (by omega)) ?_
  refine TW.skip ?_
  refine TE.next ?_
  refine TW.seq ?_
  refine TW.region ?_
  refine TO.y (Y.move rfl) rfl rfl rfl ?_
  refine TO.y (Y.len (l:=s) ke90 (Can.own 0 rfl) rfl) rfl rfl rfl ?_
  refine TO.y (Y.assign rfl) rfl rfl rfl ?_
  refine TO.nil ?_
  refine TE.next ?_
  refine TW.seq ?_
  refine TW.seq ?_
  refine TW.region ?_
  refine TO.y (Y.move rfl) rfl rfl rfl ?_
  refine TO.y (Y.move rfl) rfl rfl rfl ?_
  refine TO.y (Y.eql rfl rfl) rfl rfl rfl ?_
  refine TO.nil ?_
  refine TE.next ?_
  by_cases hin:I=s.length
  ·have happ:app 48 s v=some (s++v):=by unfold app;rw[if_pos ⟨h2,by omega⟩]
   rw[show s.take I++(v++s.drop I)=s++v by rw[hin];simp]
   refine TW.cond_t rfl (decide_eq_true (by omega)) ?_
   refine TW.seq ?_
   refine TW.region ?_
   refine TO.y (Y.move rfl) rfl rfl rfl ?_
   refine TO.y (Y.move rfl) rfl rfl rfl ?_
   refine TO.ef (Ef.appN (α:=Ent) (is':=[]) [0,0] happ ke90 kz189 rfl rfl rfl rfl rfl) rfl rfl rfl (fun X=>?_)
   refine TO.y (Y.assign rfl) rfl rfl rfl ?_
   refine TO.nil ?_
   refine TE.next ?_
   refine TW.ret ?_
   refine TE.then_ret ?_
   exact TE.leaf fun _ _ hf_ hs_=>zS (rs:=[.tmp 6]) (vs:=[X]) (.inl rfl) rfl ⟨rfl,trivial⟩ hf_ hs_ ⟨X,rfl,hs_.pulls [0] rfl⟩
  ·refine TW.cond_f rfl (decide_eq_false (by omega)) ?_
   refine TW.skip ?_
   refine TE.next ?_
   refine TW.openRows (α:=Ent) (by omega) hm1 ?_
   intro b cap e cur b2 cap2 e2 cur2 hV hU hbb hc1 hc2 hc3 hc4 hl1 hl2 ho1 ho2
   subst hV hU
   have hsz:Enc.sz Ent=4:=rfl
   rw[hsz]at hl1 hl2 ho1 ho2
   have e1:=wr2 s.length v.length h3
   refine TW.seq ?_
   refine TW.seq ?_
   refine TW.region ?_
   refine TO.y (Y.move rfl) rfl rfl rfl ?_
   refine TO.y (Y.move rfl) rfl rfl rfl ?_
   refine TO.y (Y.add rfl rfl) rfl rfl rfl ?_
   refine TO.y (Y.move rfl) rfl rfl rfl ?_
   refine TO.y (Y.capRaw ke90 rfl) rfl rfl rfl ?_
   refine TO.y (Y.gtr rfl rfl) rfl rfl rfl ?_
   refine TO.nil ?_
   refine TE.next ?_
   by_cases hroom:cap<s.length+v.length
   ·refine TW.cond_t rfl (by rw[e1];exact decide_eq_true (by omega)) ?_
    refine TW.seq ?_
    refine TW.region ?_
    refine TO.y (Y.move rfl) rfl rfl rfl ?_
    refine TO.y (Y.move rfl) rfl rfl rfl ?_
    refine TO.y (Y.toRaw (hi:=I) ke90 (by omega) rfl rfl rfl) rfl rfl rfl ?_
    refine TO.y (Y.move rfl) rfl rfl rfl ?_
    refine TO.y (Y.move rfl) rfl rfl rfl ?_
    refine TO.y (Y.add rfl rfl) rfl rfl rfl ?_
    refine TO.y (Y.move rfl) rfl rfl rfl ?_
    refine TO.y (Y.sub rfl rfl) rfl rfl rfl ?_
    have e2:IntKind.i64.wrap (IntKind.i64.wrap ((s.length:Int)+(v.length:Int)) - (I:Int))=((s.length+v.length - I:Nat):Int):=by rw[e1,IntKind.wrap_i64];omega
    refine TO.ef (Ef.rawGrow (N:=s.length+v.length) (q:=s.length+v.length - I) 0 ke90 ki3 kz189 rfl rfl rfl rfl rfl e2 (by omega) (by omega) hl1 (by omega) hroom (by omega) h2) rfl rfl rfl (fun X=>?_)
    refine TO.y (Y.assign rfl) rfl rfl rfl ?_
    refine TO.nil ?_
    refine TE.next ?_
    obtain ⟨⟨⟨g,gc⟩,ge,zs⟩,hz1,hz2,hz3⟩:=X
    dsimp only at hz1 hz2 hz3 ⊢
    obtain ⟨q1,q2,q3,q4,q5,q6⟩:=insA (G:=gc) (zs:=zs) h1n hc1 hc3 hl1 hl2 hz1 hz2
    have m1:0+I*4+v.length*4≤gc*4:=by omega
    have m2:0+(I+v.length)*4+(s.length - I)*4≤gc*4:=by omega
    have m3:0+v.length*4≤cap2*4:=by omega
    have m4:0+I*4+(s.length - I)*4≤cap*4:=by omega
    refine TW.seq ?_
    refine TW.region ?_
    refine TO.y (Y.move rfl) rfl rfl rfl ?_
    refine TO.y (Y.move rfl) rfl rfl rfl ?_
    refine TO.y (Y.fromRaw (lo:=I) ke90 (by omega) (by omega) rfl rfl rfl) rfl rfl rfl ?_
    refine TO.y (Y.move rfl) rfl rfl rfl ?_
    refine TO.ef (Ef.rawCopy (sl:=v.length) 0 2 ke90 rfl rfl rfl rfl (by omega) (by rw[q3];exact m1) (Nat.le_trans m3 hl2) (by rw[List.drop_zero];exact ho2) rfl) rfl rfl rfl (fun _=>?_)
    refine TO.nil ?_
    refine TE.next ?_
    refine TW.seq ?_
    refine TW.draw (isH:=[]) hMix ?_
    refine TA.y 0 [] rfl (Y.move rfl) rfl rfl rfl (by kernel_rfl) rfl ?_
    refine TA.y 1 [] rfl (Y.move rfl) rfl rfl rfl (by kernel_rfl) rfl ?_
    refine TA.y 2 [] rfl (Y.move rfl) rfl rfl rfl (by kernel_rfl) rfl ?_
    refine TA.y 3 [] rfl (Y.add rfl rfl) rfl rfl rfl (by kernel_rfl) rfl ?_
    refine TA.y 4 [] rfl (Y.fromRaw (lo:=I+v.length) ke90 (by omega) (by omega) (wr2 I v.length (by omega)) rfl rfl) rfl rfl rfl (by kernel_rfl) rfl ?_
    refine TA.y 5 [] rfl (Y.move rfl) rfl rfl rfl (by kernel_rfl) rfl ?_
    refine TA.y 6 [] rfl (Y.move rfl) rfl rfl rfl (by kernel_rfl) rfl ?_
    refine TA.y 7 [] rfl (Y.fromRaw (lo:=I) ke90 (by omega) (by omega) rfl rfl rfl) rfl rfl rfl (by kernel_rfl) rfl ?_
    refine TA.one 8 (by kernel_rfl) ?_
    refine TX.ef [] rfl (Ef.rawCopy (sl:=s.length - I) 0 1 ke90 rfl rfl rfl rfl (by omega) (by rw[q4];exact m2) (Nat.le_trans m4 hl1) (zdA ho1 h1n) rfl) rfl rfl rfl (fun _=>rfl) (fun _=>?_)
    refine TA.nil (by kernel_rfl) ?_
    refine TE.next ?_
    refine TW.seq ?_
    refine TW.region ?_
    refine TO.y (Y.move rfl) rfl rfl rfl ?_
    refine TO.y (Y.assign rfl) rfl rfl rfl ?_
    refine TO.nil ?_
    refine TE.next ?_
    refine TW.ret ?_
    refine TE.then_ret ?_
    refine TE.ghost (Gh.fold (α:=Ent) (l:=s) (k:=v) (i:=I) [0,2,2,0,0] rfl h1n hz2 hz3 (Nat.le_of_eq q5.symm) q6) (fun _=>?_)
    exact TE.leaf fun _ _ hf_ hs_=>zS (rs:=[.tmp 6]) (vs:=[.slice (some ⟨g,0,none⟩) (s.length+v.length) gc]) (.inl rfl) rfl ⟨rfl,trivial⟩ hf_ hs_ ⟨(.slice (some ⟨g,0,none⟩) (s.length+v.length) gc),rfl,hs_.pulls [0] rfl⟩
   ·refine TW.cond_f rfl (by rw[e1];exact decide_eq_false (by omega)) ?_
    refine TW.skip ?_
    refine TE.next ?_
    refine TW.seq ?_
    refine TW.region ?_
    refine TO.y (Y.move rfl) rfl rfl rfl ?_
    refine TO.y (Y.move rfl) rfl rfl rfl ?_
    refine TO.y (Y.move rfl) rfl rfl rfl ?_
    refine TO.y (Y.add rfl rfl) rfl rfl rfl ?_
    refine TO.y (Y.toRaw (hi:=s.length+v.length) ke90 (by omega) e1 rfl rfl) rfl rfl rfl ?_
    refine TO.y (Y.assign rfl) rfl rfl rfl ?_
    refine TO.nil ?_
    refine TE.next ?_
    obtain ⟨q1,q2,q3,q4,q5⟩:=insB h1n (by omega) hc3 hl1 hl2
    have m1:0+I*4+v.length*4≤cap*4:=by omega
    have m2:0+(I+v.length)*4+(s.length - I)*4≤cap*4:=by omega
    have m3:0+v.length*4≤cap2*4:=by omega
    have m4:0+I*4+(s.length - I)*4≤cap*4:=by omega
    have hne:cur≠[]:=by intro e;rw[e]at hl1;simp at hl1;omega
    refine TW.seq ?_
    refine TW.seq ?_
    refine TW.region ?_
    refine TO.y (Y.move rfl) rfl rfl rfl ?_
    refine TO.y (Y.move rfl) rfl rfl rfl ?_
    refine TO.y (Y.move rfl) rfl rfl rfl ?_
    refine TO.y (Y.move rfl) rfl rfl rfl ?_
    refine TO.y (Y.add rfl rfl) rfl rfl rfl ?_
    refine TO.y (Y.fromRaw (lo:=I+v.length) ke90 (by omega) (by omega) (wr2 I v.length (by omega)) rfl rfl) rfl rfl rfl ?_
    refine TO.ef (Ef.overlaps (tr:=4) 1 0 Tryz.func199 (by kernel_rfl) (by kernel_rfl) (by kernel_rfl) (by kernel_rfl) ke90 rfl rfl (Ne.symm hbb) rfl rfl hne) rfl rfl rfl (fun _=>?_)
    refine TO.y (Y.not rfl) rfl rfl rfl ?_
    refine TO.nil ?_
    refine TE.next ?_
    refine TW.cond_true rfl ?_
    refine TW.seq ?_
    refine TW.draw (isH:=[]) hMix ?_
    refine TA.y 0 [] rfl (Y.move rfl) rfl rfl rfl (by kernel_rfl) rfl ?_
    refine TA.y 1 [] rfl (Y.move rfl) rfl rfl rfl (by kernel_rfl) rfl ?_
    refine TA.y 2 [] rfl (Y.move rfl) rfl rfl rfl (by kernel_rfl) rfl ?_
    refine TA.y 3 [] rfl (Y.add rfl rfl) rfl rfl rfl (by kernel_rfl) rfl ?_
    refine TA.y 4 [] rfl (Y.fromRaw (lo:=I+v.length) ke90 (by omega) (by omega) (wr2 I v.length (by omega)) rfl rfl) rfl rfl rfl (by kernel_rfl) rfl ?_
    refine TA.y 5 [] rfl (Y.move rfl) rfl rfl rfl (by kernel_rfl) rfl ?_
    refine TA.y 6 [] rfl (Y.move rfl) rfl rfl rfl (by kernel_rfl) rfl ?_
    refine TA.y 7 [] rfl (Y.fromRaw (lo:=I) ke90 (by omega) (by omega) rfl rfl rfl) rfl rfl rfl (by kernel_rfl) rfl ?_
    refine TA.one 8 (by kernel_rfl) ?_
    refine TX.ef [] rfl (Ef.rawCopy (sl:=s.length - I) 0 0 ke90 rfl rfl rfl rfl (by omega) (Nat.le_trans m2 hl1) (Nat.le_trans m4 hl1) (zdA ho1 h1n) rfl) rfl rfl rfl (fun _=>rfl) (fun _=>?_)
    refine TA.nil (by kernel_rfl) ?_
    refine TE.next ?_
    refine TW.seq ?_
    refine TW.region ?_
    refine TO.y (Y.move rfl) rfl rfl rfl ?_
    refine TO.y (Y.move rfl) rfl rfl rfl ?_
    refine TO.y (Y.fromRaw (lo:=I) ke90 (by omega) (by omega) rfl rfl rfl) rfl rfl rfl ?_
    refine TO.y (Y.move rfl) rfl rfl rfl ?_
    refine TO.ef (Ef.rawCopy (sl:=v.length) 0 1 ke90 rfl rfl rfl rfl (by omega) (by rw[q3];exact Nat.le_trans m1 hl1) (Nat.le_trans m3 hl2) (by rw[List.drop_zero];exact ho2) rfl) rfl rfl rfl (fun _=>?_)
    refine TO.nil ?_
    refine TE.next ?_
    refine TW.seq ?_
    refine TW.region ?_
    refine TO.y (Y.move rfl) rfl rfl rfl ?_
    refine TO.y (Y.assign rfl) rfl rfl rfl ?_
    refine TO.nil ?_
    refine TE.next ?_
    refine TW.ret ?_
    refine TE.then_ret ?_
    refine TE.ghost (Gh.fold (α:=Ent) (l:=s) (k:=v) (i:=I) [0,1,1,0] rfl h1n (by omega) hc2 (by rw[q4];exact hl1) q5) (fun _=>?_)
    exact TE.leaf fun _ _ hf_ hs_=>zS (rs:=[.tmp 6]) (vs:=[.slice (some ⟨b,0,none⟩) (s.length+v.length) cap]) (.inl rfl) rfl ⟨rfl,trivial⟩ hf_ hs_ ⟨(.slice (some ⟨b,0,none⟩) (s.length+v.length) cap),rfl,hs_.pulls [0] rfl⟩
theorem ziR {s:List Ent} {i:Int} {v:List Ent} {V_s0 V_v0:Value} :Cn Tryz.prog 178 [V_s0,iv i,V_v0] [.own V_s0 (lc s),.own V_v0 (lc v)] [] (zbB s i v) (fun _ (X:Value)=>X) fun r X=>[.own X (lc r)]:=⟨by kernel_rfl,fun _ h=>zhU s i v _ _ _ h⟩
noncomputable def zO (x:List Ent) (target:Ent):Option (Int × Bool):=
 bindC (loopO (fun (S2:Int × Int)=>if decide (S2.1<S2.2) then ((idx x (IntKind.i64.wrap (ishr .u64 (IntKind.u64.wrap (IntKind.i64.wrap (S2.1+S2.2))) 1))).bind fun E7=>
 (zu E7 target).bind fun R9=>
 bindC (if decide (R9<0) then (some (.go (IntKind.i64.wrap (IntKind.i64.wrap (ishr .u64 (IntKind.u64.wrap (IntKind.i64.wrap (S2.1+S2.2))) 1)+1),S2.2)))
 else (some (.go (S2.1,IntKind.i64.wrap (ishr .u64 (IntKind.u64.wrap (IntKind.i64.wrap (S2.1+S2.2))) 1)))))
 (fun (T12:Int × Int)=>some (.go (T12.1,T12.2))))
 else (some (.done (.go S2.1))))
 ((0:Int),(x.length:Int)))
 (fun (T4:Int)=>(if decide (T4<(x.length:Int)) then ((idx x T4).bind fun E18=>
 (zu E18 target).bind fun R20=>
 some (decide (R20=0)))
 else (some false)).bind (fun (T15:Bool)=>
 some (T4,T15)))
theorem zcW {x:List Ent} {target:Ent} {U0:Value} :Cn Tryz.prog 177 [U0,.agg #[strV target.Key,iv target.Seq,.bool target.Del,strV target.Val],.func (.func 169) #[] #[]] [] [(U0,lc x)] (zO x target) (fun r (_:Unit)=>.tuple #[iv r.1,.bool r.2]) fun _ _=>[]:=by
 unfold zO
 refine Ci Tryz.func177 r r ?_
 rintro w S ⟨Z0,-⟩
 refine Sr<|Fo (Bx r (Cp r)) fun B1=>Qs 2 r<|Nx<|Sr<|Qs 1 r<|Yo (Ln ke90 (Bc Z0) r)<|Qs 1 r<|Nx<|Sr<|Qs 3 r<|Nx<|Sq<|Ju [0,2,4,8] (fun T=>[(9,iv T)]) r1 (?_) fun T4=>?_
 ·refine Wb<|Lu [0,2,4,8] (fun T=>[(9,iv T.1),(10,iv T.2)]) r1 fun S2=>Sq<|Sr<|Qs 3 r<|Nx<|Wc r (fun H6=>?_) fun H6=>?_
  ·exact Sn<|Wb<|Sr<|Qs 3 r<|Yo (Y.conv ki3 ki79 r)<|Yo (Y.shr (by decide) r r)<|Yo (Y.conv ki79 ki3 r)<|Qs 1 r<|Nx<|Sq<|Dr [0] r hMix<|Aq [0,1,2] [0] r<|Ai fun E7 H8=>Ay 3 [0] r (Ix ke90 (Bc Z0) H8 r)<|Ay 4 [0] r (Le kk189 (Bc Z0) H8 r)<|Ay 5 [0] r (Lb 0 kk189 r)<|Ai fun R9 H10=>A1 6<|Xe [0] r (Cw [] zb5 H10 r r r1) fun _=>Aq [7] [0] r<|Az<|Ne<|Ju [0,2,4,8] (fun T=>[(9,iv T.1),(10,iv T.2)]) r1 (Wc r (fun H14=>Rg<|Qs 3 r<|Nl<|Jg () [0]) fun H14=>Rg<|Qs 2 r<|Nl<|Jg () [0]) fun T12=>Bn<|Lg () [0]
  exact Wx<|Tx<|Ex<|Be<|Jg () [0]
 refine Ne<|Sq<|Jb Unit [] [] (fun T _=>[(6,iv T4),(7,.bool T)]) (fun _ _=>[]) r2 r2 (?_) fun T15 X16=>?_
 ·refine Dr [0] r hMix<|Aq [0,1,2,3,4] [0] r<|Ia (fun H17=>?_) fun H17=>?_
  ·exact Ag 5 [0] (gdA (zd H17)) r (Y.move r)<|Ag 6 [0] (gdA (zd H17)) r (Y.move r)<|Ag 7 [0] (gdA (zd H17)) r (Y.move r)<|Ai fun E18 H19=>Ag 8 [0] (gdA (zd H17)) r (Ix ke90 (Bc Z0) H19 r)<|Ag 9 [0] (gdA (zd H17)) r (Le kk189 (Bc Z0) H19 r)<|Ag 10 [0] (gdA (zd H17)) r (Lb 0 kk189 r)<|Ai fun R20 H21=>A1 11<|Xeg [0] (gdA (zd H17)) r (Cw [] zb5 H21 r r r1) fun _=>Ag 12 [0] (gdA (zd H17)) r (Y.eql r r)<|Ay 13 [0] r (Pt H17 r)<|Aq [14,15] [0] r<|Az<|Bg () []
  exact Ax [5,6,7,8,9,10,11,12] [0] (zt H17) r r<|Ay 13 [0] r (Pf H17 r)<|Aq [14,15] [0] r<|Az<|Bg () []
 exact Ne<|Wr<|Re () []
noncomputable def zfG (l:List Ent) (e:Ent):Option (List Ent × Bool):=
 (zO l e).bind fun R2=>
 if R2.2=true then (some (l,false))
 else ((zbB l R2.1 ([e])).bind fun R7=>
 some (R7,true))
theorem zha {l:List Ent} {e:Ent} {U0:Value} :Cn Tryz.prog 145 [U0,.agg #[strV e.Key,iv e.Seq,.bool e.Del,strV e.Val]] [.own U0 (lc l)] [] (zfG l e) (fun r (X:Value)=>.tuple #[X,.bool r.2]) fun r X=>[.own X (lc r.1)]:=by
 unfold zfG
 refine Ci Tryz.func145 r r ?_
 rintro w S -
 exact Sr<|Fo (Bx r (Cp r)) fun B1=>Qs 2 r<|Nx<|Sr<|Qs 1 r<|Yo (Lb 0 kk189 r)<|Bi fun R2 H3=>Fo (Cl [] zcW H3 r r1 ⟨(Oc 1 r),⟨⟩⟩) fun _=>Qs 5 r<|Nx<|Sq<|Sr<|Qs 1 r<|Nx<|Wc r (fun H5=>Sr<|Qs 3 r<|Nx<|Wr<|Tr<|Re U0 [1]) fun H5=>Sn<|Sr<|Qs 2 r<|Yo (Lb 0 kk189 r)<|Fo (Bs [e] ke90 kz189) fun B6=>Bi fun R7 H8=>Fo (Cl [2,0] ziR H8 r r1) fun Y9=>Qs 2 r<|Nx<|Wr<|Re Y9 [0]
noncomputable def zd9 (l:List (List Ent)):Option Int:=
 bindC (loopO (fun (S1:Int × Int)=>if decide (S1.2<(l.length:Int)) then ((idx l S1.2).bind fun E6=>
 some (.go (IntKind.i64.wrap (S1.1+(E6.length:Int)),IntKind.i64.wrap (S1.2+1))))
 else (some (.done (.go S1.1))))
 ((0:Int),(0:Int)))
 (fun (T3:Int)=>some T3)
theorem ziC {l:List (List Ent)} {U0:Value} :Cn Tryz.prog 146 [U0] [] [(U0,lc l)] (zd9 l) (fun r (_:Unit)=>iv r) fun _ _=>[]:=by
 unfold zd9
 refine Ci Tryz.func146 r r ?_
 rintro w S ⟨Z0,-⟩
 refine Sr<|Qs 1 r<|Nx<|Sr<|Qs 1 r<|Nx<|Sq<|Sr<|Qs 1 r<|Yo (Ln ke91 (Bc Z0) r)<|Qs 1 r<|Nx<|Ju [] (fun T=>[(3,iv T)]) r1 (?_) fun T3=>?_
 ·refine Wb<|Lu [6,7] (fun T=>[(3,iv T.1),(8,iv T.2)]) r1 fun S1=>Sr<|Qs 1 r<|Nx<|Sq<|Wc r (fun H5=>?_) fun H5=>?_
  ·refine Sn<|Sq<|Wb<|Sr<|Bi fun E6 H7=>Yo (Ix ke91 (Bc Z0) H7 r)<|?_
   have Q8:Base w S (elv w U0 (S1.2.toNat*1+0)) (lc E6):=Base.el Z0 (zz H7).2.2 r r
   exact Yo (Lz kk90 Z0 H7 r)<|Qs 1 r<|Nx<|Rg<|Qs 2 r<|Yo (Ln ke90 (Bc Q8) r)<|Qs 2 r<|Nl<|Bn<|Ne<|Rg<|Qs 2 r<|Nl<|Lg () []
  exact Wx<|Tx<|Ex<|Be<|Jg () []
 exact Ne<|Sr<|Qs 2 r<|Nx<|Wr<|Re () []
noncomputable def zdS (x:Op) (c0_:Op):Option Bool:=
 some (decide (x.Key=c0_.Key))
theorem zjE {x:Op} {c0_:Op} {U0:Nat} :Cn Tryz.prog 144 [.agg #[strV x.Key,.bool x.Del,strV x.Val],pt U0] [.box U0 120 [strV c0_.Key,.bool c0_.Del,strV c0_.Val]] [] (zdS x c0_) (fun r (_:Unit)=>.bool r) fun _ _=>[.box U0 120 [strV c0_.Key,.bool c0_.Del,strV c0_.Val]]:=by
 unfold zdS
 refine Ci Tryz.func144 r r ?_
 rintro w S -
 exact Sr<|Fo (Bx r (Cp r)) fun B1=>Qs 1 r<|Nx<|Sr<|Yo (Fb zev r)<|Yo (Lb 0 kk9 r)<|Yo (Fb zev r)<|Yo (Lb 1 kk9 r)<|Qs 2 r<|Nx<|Wr<|Re () [1]
noncomputable def zL (s:List Op) (f_c0:Op):Option Int:=
 bindC (loopO (fun (S1:Int)=>if decide (S1<(s.length:Int)) then ((idx s S1).bind fun E6=>
 (zdS E6 f_c0).bind fun R8=>
 if R8=true then (some (.done (.done S1)))
 else (some (.go (IntKind.i64.wrap (S1+1)))))
 else (some (.done (.go ()))))
 (0:Int))
 (fun (T3:Unit)=>some (-1:Int))
theorem zdO {s:List Op} {f_c0:Op} {U0:Value} {U1:Nat} :Cn Tryz.prog 176 [U0,.func (.func 144) #[] #[pt U1]] [.box U1 120 [strV f_c0.Key,.bool f_c0.Del,strV f_c0.Val]] [(U0,lc s)] (zL s f_c0) (fun r (_:Unit)=>iv r) fun _ _=>[.box U1 120 [strV f_c0.Key,.bool f_c0.Del,strV f_c0.Val]]:=by
 unfold zL
 refine Ci Tryz.func176 r r ?_
 rintro w S ⟨Z0,-⟩
 refine Sr<|Qs 1 r<|Nx<|Sq<|Sr<|Qs 1 r<|Yo (Ln ke27 (Bc Z0) r)<|Qs 1 r<|Nx<|Ju [] (fun _=>[]) r1 (?_) fun T3=>?_
 ·refine Wb<|Lu [0,1,7] (fun T=>[(8,iv T)]) r1 fun S1=>Sr<|Qs 1 r<|Nx<|Sq<|Wc r (fun H5=>?_) fun H5=>?_
  ·exact Sn<|Sq<|Wb<|Sr<|Qs 2 r<|Nx<|Sr<|Qs 3 r<|Bi fun E6 H7=>Yo (Ix ke27 (Bc Z0) H7 r)<|Yo (Le kk120 (Bc Z0) H7 r)<|Bi fun R8 H9=>Fo (Cw [0] zjE H9 r r r1) fun _=>Nx<|Wc r (fun H11=>Sr<|Qs 2 r<|Nx<|Wr<|Br<|Tr<|Er<|Br<|Jd<|Tr<|Re () [0]) fun H11=>Sk<|Bn<|Ne<|Rg<|Qs 2 r<|Nl<|Lg () [0]
  exact Wx<|Tx<|Ex<|Be<|Jg () [0]
 exact Ne<|Sr<|Qs 1 r<|Nx<|Wr<|Re () [0]
noncomputable def zw (s:List Op) (f_c0:Op):Option Bool:=
 (zL s f_c0).bind fun R1=>
 some (decide (R1≥0))
theorem zbP {s:List Op} {f_c0:Op} {U0:Value} {U1:Nat} :Cn Tryz.prog 143 [U0,.func (.func 144) #[] #[pt U1]] [.box U1 120 [strV f_c0.Key,.bool f_c0.Del,strV f_c0.Val]] [(U0,lc s)] (zw s f_c0) (fun r (_:Unit)=>.bool r) fun _ _=>[.box U1 120 [strV f_c0.Key,.bool f_c0.Del,strV f_c0.Val]]:=by
 unfold zw
 refine Ci Tryz.func143 r r ?_
 rintro w S ⟨Z0,-⟩
 exact Sr<|Qs 1 r<|Nx<|Sr<|Qs 2 r<|Bi fun R1 H2=>Fo (Cl [0] zdO H2 r r1 ⟨(Bc Z0),⟨⟩⟩) fun _=>Qs 2 r<|Nx<|Wr<|Re () [0]
noncomputable def zcF (e:Eng) (l:List Op):Option (Bool × Eng):=
 bindC (loopO (fun (S1:Bool × Int × List Ent)=>if decide (S1.2.1<(l.length:Int)) then ((idx l S1.2.1).bind fun E6=>
 (piece l (IntKind.i64.wrap (S1.2.1+1)) (l.length:Int)).bind fun E9=>
 (zw E9 E6).bind fun R12=>
 (if !R12 then (some S1.1)
 else (some false)).bind (fun (T15:Bool)=>
 bindC (if T15=true then ((zfG S1.2.2 (⟨E6.Key,IntKind.i64.wrap (e.Seq+1),E6.Del,E6.Val⟩:Ent)).bind fun R21=>
 some (.go (R21.2,R21.1)))
 else (some (.go (S1.1,S1.2.2))))
 (fun (T18:Bool × List Ent)=>some (.go (T18.1,IntKind.i64.wrap (S1.2.1+1),T18.2)))))
 else (some (.done (.go (S1.1,S1.2.2)))))
 (true,(0:Int),e.Mem))
 (fun (T3:Bool × List Ent)=>(if T3.1=true then (if decide (IntKind.i64.wrap (e.Seq+1)≤1000000) then (if decide ((T3.2.length:Int)≤60) then ((zd9 e.Tables).bind fun R31=>
 some (decide (IntKind.i64.wrap (R31+(T3.2.length:Int))≤400)))
 else (some false))
 else (some false))
 else (some false)).bind (fun (T26:Bool)=>
 some (T26,(⟨T3.2,e.Tables,IntKind.i64.wrap (e.Seq+1),e.Snaps⟩:Eng))))
theorem zkI {e:Eng} {l:List Op} {U0 U1 U2 U4:Value} {U3:Nat} :Cn Tryz.prog 101 [pt U3,U4] [.box U3 93 [U0,U1,iv e.Seq,U2],.own U0 (lc e.Mem)] [(U1,lc e.Tables),(U4,lc l)] (zcF e l) (fun r (_:Value)=>.bool r.1) fun r X=>[.box U3 93 [X,U1,iv r.2.Seq,U2],.own X (lc r.2.Mem)]:=by
 unfold zcF
 refine Ci Tryz.func101 r r ?_
 rintro w S ⟨Z0,Z1,-⟩
 refine Sr<|Qs 1 r<|Nx<|Sr<|Qs 2 r<|Yo (Fb zcA r)<|Yo (Lb 0 kk3 r)<|Qs 2 r<|Yo (Fb zcA r)<|Fu (Sb 0 kk3 r (Cp r) r)<|Nx<|Sr<|Qs 1 r<|Nx<|Sq<|Sr<|Qs 1 r<|Yo (Ln ke27 (Bc Z1) r)<|Qs 1 r<|Nx<|Jn Value [0] [] (fun T _=>[(5,.bool T.1)]) (fun T X=>[.box U3 93 [X,U1,iv (IntKind.i64.wrap (e.Seq+1)),U2],.own X (lc T.2)]) r2 r2 (?_) fun T3 X4=>?_
 ·refine Wb<|Lp Value [0,1,16,17] [] (fun T _=>[(5,.bool T.1),(18,iv T.2.1)]) (fun T X=>[.box U3 93 [X,U1,iv (IntKind.i64.wrap (e.Seq+1)),U2],.own X (lc T.2.2)]) U0 [0,0] r2 r2 fun S1 X2=>Sr<|Qs 1 r<|Nx<|Sq<|Wc r (fun H5=>?_) fun H5=>?_
  ·refine Sn<|Sq<|Wb<|Sr<|Qs 1 r<|Bi fun E6 H7=>Yo (Ix ke27 (Bc Z1) H7 r)<|Yo (Le kk120 (Bc Z1) H7 r)<|Fo (Al kz120 r) fun B8=>Qs 1 r<|Fu (Sb 0 kk120 r (Cp r) r)<|Nx<|Sr<|Qs 3 r<|Bi fun E9 H10=>?_
   have Q11:=Base.sub (sz:=3) H10 r Z1
   refine Yo (Y.subs H10 ke27 (Bc Z1) r ⟨_,r⟩ r)<|Yo (Y.makeFunc r)<|Bi fun R12 H13=>Fo (Cl [0] zbP H13 r r1 ⟨(Bc Q11),⟨⟩⟩) fun _=>Qs 1 r<|Nx<|Sq<|Jv [0,1,5,7,16,17,18] (fun T=>[(33,.bool T)]) r1 (Rg<|Qs 3 r<|It (fun H17=>Qg 1 (zd H17) r r<|Yo (Pt H17 r)<|Nl<|Bg () [0,0,0]) fun H17=>Of 1 (zt H17) r r<|Yo (Pf H17 r)<|Nl<|Bg () [0,0,0]) fun T15=>Ne<|Jn Value [0,1,16,17,18] [] (fun T _=>[(5,.bool T.1)]) (fun T X=>[.box U3 93 [X,U1,iv (IntKind.i64.wrap (e.Seq+1)),U2],.own X (lc T.2)]) r2 r2 (?_) fun T18 X19=>?_
   ·refine Wc r (fun H20=>?_) fun H20=>?_
    ·refine Wi fun R21 H22=>Jw Value [0,1,16,17,18] [] (fun _=>[(5,.bool R21.2)]) (fun X=>[.box U3 93 [X,U1,iv (IntKind.i64.wrap (e.Seq+1)),U2],.own X (lc R21.1)]) r1 r1 (?_) fun X25=>?_
     ·refine Dr [0] r hMix<|Aq [0,1,2] [0] r<|Ay 3 [0] r (Fb zb6 r)<|Ay 5 [0] r (Fb zev r)<|Ay 6 [0] r (Lb 0 kk9 r)<|Aq [7,8] [0] r<|Ay 9 [0] r (Fb zcA r)<|Ay 11 [0] r (Fb zff r)<|Ay 12 [0] r (Lb 0 kk4 r)<|Ay 13 [0] r (Fb zfg r)<|Ay 14 [0] r (Lb 0 kk9 r)<|A2 4 10 (?_)<|?_
      ·exact Xy [0] r (Lb 1 kk90 r)<|A1 10<|Xy [0] r (Lb 1 kk3 r)<|Ay 15 [0] r (Bd kp189 kz189 (Pc r (Cp r)<|Pc r (Cp r)<|Pc r (Cp r)<|Pc r (Cp r)<|Pz) r)<|A1 16<|Xe [1] r (Cl [2] zha H22 r r1) fun Y26=>Aq [17,18,19,20] [1] r<|Ay 21 [1] r (Fb zb6 r)<|A1 22<|Xu [1] r (Sb 2 kk90 r (Co 0) r)<|Aq [23] [1] r<|Az<|Bg Y26 [2,0]
      exact Xy [0] r (Lb 1 kk3 r)<|Ay 15 [0] r (Bd kp189 kz189 (Pc r (Cp r)<|Pc r (Cp r)<|Pc r (Cp r)<|Pc r (Cp r)<|Pz) r)<|A1 4<|Xy [0] r (Lb 1 kk90 r)<|A1 16<|Xe [1] r (Cl [2] zha H22 r r1) fun Y26=>Aq [17,18,19,20] [1] r<|Ay 21 [1] r (Fb zb6 r)<|A1 22<|Xu [1] r (Sb 2 kk90 r (Co 0) r)<|Aq [23] [1] r<|Az<|Bg Y26 [2,0]
     exact Jg X25 [0,0]
    exact Sk<|Jg X2 [1,1]
   exact Bn<|Ne<|Rg<|Qs 2 r<|Nl<|Lg X19 [0,0]
  exact Wx<|Tx<|Ex<|Be<|Jg X2 [0,0]
 refine Ne<|Sq<|Jv [] (fun T=>[(4,.bool T)]) r1 (?_) fun T26=>?_
 ·refine Dr [0,0] r hMix<|Aq [0,1] [0,0] r<|Ia (fun H28=>?_) fun H28=>?_
  ·refine Ag 2 [0,0] (gdA (zd H28)) r (Y.move r)<|Ag 3 [0,0] (gdA (zd H28)) r (Y.nilCheck r)<|Ag 4 [0,0] (gdA (zd H28)) r (Fb zcA r)<|Ag 5 [0,0] (gdA (zd H28)) r (Lb 0 kk3 r)<|Ag 6 [0,0] (gdA (zd H28)) r (Y.leq r r)<|Ay 7 [0,0] r (Pt H28 r)<|Aq [8] [0,0] r<|Ia (fun H29=>?_) fun H29=>?_
   ·refine Ag 9 [0,0] (gdA (zd H29)) r (Y.move r)<|Ag 10 [0,0] (gdA (zd H29)) r (Y.nilCheck r)<|Ag 11 [0,0] (gdA (zd H29)) r (Fb zb6 r)<|Ag 12 [0,0] (gdA (zd H29)) r (Lb 0 kk90 r)<|Ag 13 [0,0] (gdA (zd H29)) r (Ln ke90 (Oc 1 r) r)<|Ag 14 [0,0] (gdA (zd H29)) r (Y.leq r r)<|Ay 15 [0,0] r (Pt H29 r)<|Aq [16] [0,0] r<|Ia (fun H30=>?_) fun H30=>?_
    ·refine Ag 17 [0,0] (gdA (zd H30)) r (Y.move r)<|Ag 18 [0,0] (gdA (zd H30)) r (Y.nilCheck r)<|Ag 19 [0,0] (gdA (zd H30)) r (Fb zbl r)<|Ag 20 [0,0] (gdA (zd H30)) r (Lb 0 kk91 r)<|Ag 22 [0,0] (gdA (zd H30)) r (Y.move r)<|Ag 23 [0,0] (gdA (zd H30)) r (Y.nilCheck r)<|Ag 24 [0,0] (gdA (zd H30)) r (Fb zb6 r)<|Ag 25 [0,0] (gdA (zd H30)) r (Lb 0 kk90 r)<|Ag 26 [0,0] (gdA (zd H30)) r (Ln ke90 (Oc 1 r) r)<|Ai fun R31 H32=>A1 21<|Xeg [0,0] (gdA (zd H30)) r (Cl [] ziC H32 r r1 ⟨(Bc Z0),⟨⟩⟩) fun _=>?_
     exact Ag 27 [0,0] (gdA (zd H30)) r (Y.add r r)<|Ag 28 [0,0] (gdA (zd H30)) r (Y.leq r r)<|Ay 29 [0,0] r (Pt H30 r)<|Aq [30] [0,0] r<|Az<|Bg () [0,0]
    exact Ax [17,18,19,20,21,22,23,24,25,26,27,28] [0,0] (zt H30) r r<|Ay 29 [0,0] r (Pf H30 r)<|Aq [30] [0,0] r<|Az<|Bg () [0,0]
   exact Ax [9,10,11,12,13,14] [0,0] (zt H29) r r<|Ay 15 [0,0] r (Pf H29 r)<|Aq [16] [0,0] r<|Ax [17,18,19,20,21,22,23,24,25,26,27,28] [0,0] r r r<|Ay 29 [0,0] r (Pf r r)<|Aq [30] [0,0] r<|Az<|Bg () [0,0]
  exact Ax [2,3,4,5,6] [0,0] (zt H28) r r<|Ay 7 [0,0] r (Pf H28 r)<|Aq [8] [0,0] r<|Ax [9,10,11,12,13,14] [0,0] r r r<|Ay 15 [0,0] r (Pf r r)<|Aq [16] [0,0] r<|Ax [17,18,19,20,21,22,23,24,25,26,27,28] [0,0] r r r<|Ay 29 [0,0] r (Pf r r)<|Aq [30] [0,0] r<|Az<|Bg () [0,0]
 exact Ne<|Wr<|Re X4 [0,0]
noncomputable def ze9 (d:KeyDev) (tenant:Int):Option (List UInt8):=
 (zdN d tenant).bind fun R2=>
 (if decide (R2<0) then (some true)
 else ((zcu d).bind fun R8=>
 some (!R8))).bind (fun (T5:Bool)=>
 if T5=true then (some ([]))
 else ((idx d.Slots R2).bind fun E12=>
 some E12.Key))
theorem zjW {d:KeyDev} {tenant:Int} {U0:Value} :Cn Tryz.prog 103 [.agg #[strV d.Master,U0,iv d.Wiped],iv tenant] [] [(U0,lc d.Slots)] (ze9 d tenant) (fun r (_:Unit)=>strV r) fun _ _=>[]:=by
 unfold ze9
 refine Ci Tryz.func103 r r ?_
 rintro w S ⟨Z0,-⟩
 refine Sr<|Fo (Bx r (Ca ⟨Op',Ob Z0,Op',⟨⟩⟩)) fun B1=>Qs 1 r<|Nx<|Sr<|Yo (Lb 0 kk32 r)<|Qs 1 r<|Bi fun R2 H3=>Fo (Cl [] zgO H3 r r1 ⟨(Bc Z0),⟨⟩⟩) fun _=>Qs 1 r<|Nx<|Sq<|Sq<|Jv [2,5] (fun T=>[(15,.bool T)]) r1 (Rg<|Qs 3 r<|It (fun H7=>Of 3 (zl H7) r r<|Yo (Pt H7 r)<|Nl<|Bg () [0]) fun H7=>Yg (gdA (za H7)) (Lb 0 kk32 r)<|Bi fun R8 H9=>Fg (gdA (za H7)) (Cl [] zf0 H9 r r1 ⟨(Bc Z0),⟨⟩⟩) fun _=>Qg 1 (za H7) r r<|Yo (Pf H7 r)<|Nl<|Bg () [0]) fun T5=>Ne<|Wc r (fun H11=>Sr<|Qs 1 r<|Nx<|Wr<|Tr<|Re () []) fun H11=>?_
 exact Sn<|Sr<|Yo (Fb zea r)<|Yo (Lb 0 kk30 r)<|Qs 1 r<|Bi fun E12 H13=>Yo (Ix ke30 (Bc Z0) H13 r)<|Yo (Fe zpP (Bc Z0) H13 r)<|Yo (Le kk9 (Bc Z0) H13 r)<|Qs 1 r<|Nx<|Wr<|Re () []
noncomputable def zd6 (boot:Int) (seq:Int):Option Bool:=
 ((zB boot 0 1000).bind fun R3=>
 if R3=true then ((zB seq 0 999999).bind fun R7=>
 some R7)
 else (some false)).bind (fun (T1:Bool)=>
 some T1)
theorem ziy {boot:Int} {seq:Int} :Cn Tryz.prog 147 [iv boot,iv seq] [] [] (zd6 boot seq) (fun r (_:Unit)=>.bool r) fun _ _=>[]:=by
 unfold zd6
 refine Ci Tryz.func147 r r ?_
 rintro w S -
 refine Sr<|Qs 1 r<|Nx<|Sq<|Jv [] (fun T=>[(4,.bool T)]) r1 (?_) fun T1=>?_
 ·exact Rg<|Qs 1 r<|Bi fun R3 H4=>Fo (Cl [] zF H4 r r1) fun _=>Qs 1 r<|It (fun H6=>Qg 1 (zd H6) r r<|Bi fun R7 H8=>Fg (gdA (zd H6)) (Cl [] zF H8 r r1) fun _=>Yo (Pt H6 r)<|Qs 1 r<|Nl<|Bg () []) fun H6=>Of 2 (zt H6) r r<|Yo (Pf H6 r)<|Qs 1 r<|Nl<|Bg () []
 exact Ne<|Wr<|Re () []
noncomputable def zdz (boot:Int) (seq:Int):Option (List UInt8):=
 (zdW 3 (IntKind.i64.wrap (IntKind.i64.wrap (boot*1000000)+seq))).bind fun R1=>
 some R1
theorem zh8 {boot:Int} {seq:Int} :Cn Tryz.prog 149 [iv boot,iv seq] [] [] (zdz boot seq) (fun r (_:Unit)=>strV r) fun _ _=>[]:=by
 unfold zdz
 refine Ci Tryz.func149 r r ?_
 rintro w S -
 exact Sr<|Qs 1 r<|Nx<|Sr<|Qs 4 r<|Bi fun R1 H2=>Fo (Cl [] ziu H2 r r1) fun _=>Qs 1 r<|Nx<|Wr<|Re () []
noncomputable def zh4 (on:Bool):Option (List UInt8):=
 if on=true then (some ([1]))
 else (some ([0]))
theorem zpc {on:Bool} :Cn Tryz.prog 180 [.bool on] [] [] (zh4 on) (fun r (_:Unit)=>strV r) fun _ _=>[]:=by
 unfold zh4
 refine Ci Tryz.func180 r r ?_
 rintro w S -
 exact Sr<|Qs 1 r<|Nx<|Sq<|Sr<|Qs 1 r<|Nx<|Wc r (fun H1=>Sr<|Qs 1 r<|Nx<|Wr<|Tr<|Re () []) fun H1=>Sn<|Sr<|Qs 1 r<|Nx<|Wr<|Re () []
noncomputable def zfd (s:List UInt8):Option (List UInt8):=
 (zeM (s.length:Int)).bind fun R1=>
 (cat R1 s).bind fun E4=>
 some E4
theorem zj5 {s:List UInt8} :Cn Tryz.prog 181 [strV s] [] [] (zfd s) (fun r (_:Unit)=>strV r) fun _ _=>[]:=by
 unfold zfd
 refine Ci Tryz.func181 r r ?_
 rintro w S -
 exact Sr<|Qs 1 r<|Nx<|Sr<|Qs 1 r<|Yo (Y.slen ks9 r)<|Bi fun R1 H2=>Fo (Cl [] zg9 H2 r r1) fun _=>Qs 1 r<|Bi fun E4 H5=>Yo (Y.cat H5 r r)<|Qs 1 r<|Nx<|Wr<|Re () []
theorem zgm (B:Nat):Con Tryz.prog 201 [.pointer (some ⟨B,0,none⟩)] [.box B 225 [.pointer none,.slice none 0 0]] [] (fun _:Unit=>.tuple #[]) (fun _=>[.box B 225 [.pointer (some ⟨B,0,none⟩),.slice none 0 0]]):=by
 refine Con.intro (args:=[.pointer (some ⟨B,0,none⟩)]) (n:=20) (val:=fun _ (_:Unit)=>.tuple #[]) (post:=fun _ _=>[.box B 225 [.pointer (some ⟨B,0,none⟩),.slice none 0 0]]) (m:=some ()) (r:=()) Tryz.func201 rfl rfl rfl rfl ?_
 intro w S _
 refine TW.seq ?_
 refine TW.region ?_
 refine TO.y (Y.move rfl) rfl rfl rfl ?_
 refine TO.y (Y.nilCheck rfl) rfl rfl rfl ?_
 refine TO.y (Y.field_box zkx rfl rfl) rfl rfl rfl ?_
 refine TO.y (Y.load_box (v:=.pointer none) 0 kk223 rfl rfl rfl) rfl rfl rfl ?_
 refine TO.y (Y.ptr_nil kp223 rfl rfl) rfl rfl rfl ?_
 refine TO.nil ?_
 refine TE.next ?_
 refine TW.cond_true rfl ?_
 refine TW.region ?_
 refine TO.y (Y.move rfl) rfl rfl rfl ?_
 refine TO.y (Y.move rfl) rfl rfl rfl ?_
 refine TO.y (Y.toUnsafe 0 kp223 rfl ku250 rfl rfl rfl) rfl rfl rfl ?_
 refine TO.y (Y.noEscape Tryz.func210 (by kernel_rfl) (by kernel_rfl) (by kernel_rfl) (by kernel_rfl) rfl) rfl rfl rfl ?_
 refine TO.y (Y.fromUnsafe 0 kp223 ku250 rfl kl225 rfl) rfl rfl rfl ?_
 refine TO.y (Y.nilCheck rfl) rfl rfl rfl ?_
 refine TO.y (Y.field_box zkx rfl rfl) rfl rfl rfl ?_
 refine TO.ef0 (Ef.store_box (us:=[.pointer (some ⟨B,0,none⟩)]) (vs':=[.pointer (some ⟨B,0,none⟩),.slice none 0 0]) (is':=[.box B 225 [.pointer (some ⟨B,0,none⟩),.slice none 0 0]]) 0 kk223 rfl rfl rfl (Cel.plain rfl rfl) rfl rfl rfl rfl) rfl rfl (fun _=>?_)
 refine TO.nil ?_
 exact TE.leaf fun _ _ hf_ hs_=>zS (rs:=[]) (vs:=[]) (.inr rfl) rfl trivial hf_ hs_ ⟨(),rfl,hs_.pulls [0] rfl⟩
theorem zgn (B:Nat) (V:Value):Con Tryz.prog 201 [.pointer (some ⟨B,0,none⟩)] [.box B 225 [.pointer (some ⟨B,0,none⟩),V]] [] (fun _:Unit=>.tuple #[]) (fun _=>[.box B 225 [.pointer (some ⟨B,0,none⟩),V]]):=by
 refine Con.intro (args:=[.pointer (some ⟨B,0,none⟩)]) (n:=20) (val:=fun _ (_:Unit)=>.tuple #[]) (post:=fun _ _=>[.box B 225 [.pointer (some ⟨B,0,none⟩),V]]) (m:=some ()) (r:=()) Tryz.func201 rfl rfl rfl rfl ?_
 intro w S _
 refine TW.seq ?_
 refine TW.region ?_
 refine TO.y (Y.move rfl) rfl rfl rfl ?_
 refine TO.y (Y.nilCheck rfl) rfl rfl rfl ?_
 refine TO.y (Y.field_box zkx rfl rfl) rfl rfl rfl ?_
 refine TO.y (Y.load_box (v:=.pointer (some ⟨B,0,none⟩)) 0 kk223 rfl rfl rfl) rfl rfl rfl ?_
 refine TO.y (Y.ptr_some kp223 rfl rfl) rfl rfl rfl ?_
 refine TO.nil ?_
 refine TE.next ?_
 refine TW.cond_false rfl ?_
 refine TW.seq ?_
 refine TW.region ?_
 refine TO.y (Y.move rfl) rfl rfl rfl ?_
 refine TO.y (Y.nilCheck rfl) rfl rfl rfl ?_
 refine TO.y (Y.field_box zkx rfl rfl) rfl rfl rfl ?_
 refine TO.y (Y.load_box (v:=.pointer (some ⟨B,0,none⟩)) 0 kk223 rfl rfl rfl) rfl rfl rfl ?_
 refine TO.y (Y.move rfl) rfl rfl rfl ?_
 refine TO.y (Y.ptr_self kp223 rfl rfl) rfl rfl rfl ?_
 refine TO.nil ?_
 refine TE.next ?_
 refine TW.cond_false rfl ?_
 refine TW.skip ?_
 exact TE.leaf fun _ _ hf_ hs_=>zS (rs:=[]) (vs:=[]) (.inr rfl) rfl trivial hf_ hs_ ⟨(),rfl,hs_.pulls [0] rfl⟩
theorem zfU (s r:List UInt8) (B:Nat) (hm:app 1 ([]:List UInt8) s=some r):Con Tryz.prog 179 [.pointer (some ⟨B,0,none⟩),strV s] [.box B 225 [.pointer none,.slice none 0 0]] [] (fun _:Value=>.tuple #[.int .i64 s.length,.nilIface]) (fun X=>[.box B 225 [.pointer (some ⟨B,0,none⟩),X],.buf X 5 r]):=by
 refine Con.intro (args:=[.pointer (some ⟨B,0,none⟩),strV s]) (n:=19) (val:=fun _ (_:Value)=>.tuple #[.int .i64 s.length,.nilIface]) (post:=fun r X=>[.box B 225 [.pointer (some ⟨B,0,none⟩),X],.buf X 5 r]) (m:=some r) (r:=r) Tryz.func179 rfl rfl rfl rfl ?_
 intro w S _
 refine TW.seq ?_
 refine TW.region ?_
 refine TO.y (Y.assign rfl) rfl rfl rfl ?_
 refine TO.y (Y.assign rfl) rfl rfl rfl ?_
 refine TO.nil ?_
 refine TE.next ?_
 refine TW.seq ?_
 refine TW.region ?_
 refine TO.y (Y.move rfl) rfl rfl rfl ?_
 refine TO.ef (Ef.call (rest:=[]) [0] (zgm B) kc201 rfl rfl trivial) rfl rfl rfl (fun _=>?_)
 refine TO.nil ?_
 refine TE.next ?_
 refine TW.seq ?_
 refine TW.region ?_
 refine TO.y (Y.move rfl) rfl rfl rfl ?_
 refine TO.y (Y.move rfl) rfl rfl rfl ?_
 refine TO.y (Y.nilCheck rfl) rfl rfl rfl ?_
 refine TO.y (Y.field_box zhj rfl rfl) rfl rfl rfl ?_
 refine TO.y (Y.load_box (v:=.slice none 0 0) 0 kk22 rfl rfl rfl) rfl rfl rfl ?_
 refine TO.y (Y.move rfl) rfl rfl rfl ?_
 refine TO.ef (Ef.bufNew hm ke22 ks9 kz5 rfl rfl) rfl rfl rfl (fun X=>?_)
 refine TO.y (Y.nilCheck rfl) rfl rfl rfl ?_
 refine TO.y (Y.field_box zhj rfl rfl) rfl rfl rfl ?_
 refine TO.ef0 (Ef.store_box (us:=[X]) (vs':=[.pointer (some ⟨B,0,none⟩),X]) (is':=[.buf X 5 r,.box B 225 [.pointer (some ⟨B,0,none⟩),X]]) 1 kk22 rfl rfl rfl (Cel.one (One.buf (i:=0) rfl)) rfl rfl rfl rfl) rfl rfl (fun _=>?_)
 refine TO.nil ?_
 refine TE.next ?_
 refine TW.seq ?_
 refine TW.region ?_
 refine TO.y (Y.move rfl) rfl rfl rfl ?_
 refine TO.y (Y.slen ks9 rfl) rfl rfl rfl ?_
 refine TO.y (Y.assign rfl) rfl rfl rfl ?_
 refine TO.y (Y.assign rfl) rfl rfl rfl ?_
 refine TO.nil ?_
 refine TE.next ?_
 refine TW.ret ?_
 exact TE.leaf fun _ _ hf_ hs_=>zS (rs:=[.tmp 4,.tmp 5]) (vs:=[.int .i64 s.length,.nilIface]) (.inl rfl) rfl ⟨rfl,rfl,trivial⟩ hf_ hs_ ⟨X,rfl,hs_.pulls [1,0] rfl⟩
theorem zdv (l s r:List UInt8) (B:Nat) (V:Value) (hm:app 1 l s=some r):Con Tryz.prog 179 [.pointer (some ⟨B,0,none⟩),strV s] [.box B 225 [.pointer (some ⟨B,0,none⟩),V],.buf V 5 l] [] (fun _:Value=>.tuple #[.int .i64 s.length,.nilIface]) (fun X=>[.box B 225 [.pointer (some ⟨B,0,none⟩),X],.buf X 5 r]):=by
 refine Con.intro (args:=[.pointer (some ⟨B,0,none⟩),strV s]) (n:=19) (val:=fun _ (_:Value)=>.tuple #[.int .i64 s.length,.nilIface]) (post:=fun r X=>[.box B 225 [.pointer (some ⟨B,0,none⟩),X],.buf X 5 r]) (m:=some r) (r:=r) Tryz.func179 rfl rfl rfl rfl ?_
 intro w S _
 refine TW.seq ?_
 refine TW.region ?_
 refine TO.y (Y.assign rfl) rfl rfl rfl ?_
 refine TO.y (Y.assign rfl) rfl rfl rfl ?_
 refine TO.nil ?_
 refine TE.next ?_
 refine TW.seq ?_
 refine TW.region ?_
 refine TO.y (Y.move rfl) rfl rfl rfl ?_
 refine TO.ef (Ef.call (rest:=[.buf V 5 l]) [0,0] (zgn B V) kc201 rfl rfl trivial) rfl rfl rfl (fun _=>?_)
 refine TO.nil ?_
 refine TE.next ?_
 refine TW.seq ?_
 refine TW.region ?_
 refine TO.y (Y.move rfl) rfl rfl rfl ?_
 refine TO.y (Y.move rfl) rfl rfl rfl ?_
 refine TO.y (Y.nilCheck rfl) rfl rfl rfl ?_
 refine TO.y (Y.field_box zhj rfl rfl) rfl rfl rfl ?_
 refine TO.y (Y.load_box (v:=V) 0 kk22 rfl rfl rfl) rfl rfl rfl ?_
 refine TO.y (Y.move rfl) rfl rfl rfl ?_
 refine TO.ef (Ef.bufAppend [1,0] hm ke22 ks9 kz5 rfl rfl rfl) rfl rfl rfl (fun X=>?_)
 refine TO.y (Y.nilCheck rfl) rfl rfl rfl ?_
 refine TO.y (Y.field_box zhj rfl rfl) rfl rfl rfl ?_
 refine TO.ef0 (Ef.store_box (us:=[X]) (vs':=[.pointer (some ⟨B,0,none⟩),X]) (is':=[.buf X 5 r,.box B 225 [.pointer (some ⟨B,0,none⟩),X]]) 1 kk22 rfl rfl rfl (Cel.one (One.buf (i:=0) rfl)) rfl rfl rfl rfl) rfl rfl (fun _=>?_)
 refine TO.nil ?_
 refine TE.next ?_
 refine TW.seq ?_
 refine TW.region ?_
 refine TO.y (Y.move rfl) rfl rfl rfl ?_
 refine TO.y (Y.slen ks9 rfl) rfl rfl rfl ?_
 refine TO.y (Y.assign rfl) rfl rfl rfl ?_
 refine TO.y (Y.assign rfl) rfl rfl rfl ?_
 refine TO.nil ?_
 refine TE.next ?_
 refine TW.ret ?_
 exact TE.leaf fun _ _ hf_ hs_=>zS (rs:=[.tmp 4,.tmp 5]) (vs:=[.int .i64 s.length,.nilIface]) (.inl rfl) rfl ⟨rfl,rfl,trivial⟩ hf_ hs_ ⟨X,rfl,hs_.pulls [1,0] rfl⟩
theorem zgR (l:List UInt8) (B:Nat) (V:Value) (r:List UInt8) (hm:strOf l=some r):Con Tryz.prog 182 [.pointer (some ⟨B,0,none⟩)] [.box B 225 [.pointer (some ⟨B,0,none⟩),V],.buf V 5 l] [] (fun _:Unit=>strV r) (fun _=>[.box B 225 [.pointer (some ⟨B,0,none⟩),V]]):=by
 obtain ⟨hl,hr_⟩:=zs1 hm
 subst hr_
 refine Con.intro (args:=[.pointer (some ⟨B,0,none⟩)]) (n:=14) (val:=fun _ (_:Unit)=>strV l) (post:=fun _ _=>[.box B 225 [.pointer (some ⟨B,0,none⟩),V]]) (m:=some ()) (r:=()) Tryz.func182 rfl rfl rfl rfl ?_
 intro w S _
 refine TW.fact (zq7 (i:=1) rfl hl) fun hpl=>?_
 obtain ⟨g,c,rfl,hc⟩:=hpl
 refine TW.seq ?_
 refine TW.region ?_
 refine TO.y (Y.assign rfl) rfl rfl rfl ?_
 refine TO.nil ?_
 refine TE.next ?_
 refine TW.seq ?_
 refine TW.draw (isH:=[.box B 225 [.pointer (some ⟨B,0,none⟩),.slice (some ⟨g,0,none⟩) l.length c]]) hMix ?_
 refine TA.y 0 [0] rfl (Y.move rfl) rfl rfl rfl (by kernel_rfl) rfl ?_
 refine TA.y 1 [0] rfl (Y.nilCheck rfl) rfl rfl rfl (by kernel_rfl) rfl ?_
 refine TA.y 2 [0] rfl (Y.field_box zhj rfl rfl) rfl rfl rfl (by kernel_rfl) rfl ?_
 refine TA.y 3 [0] rfl (Y.load_box (v:=.slice (some ⟨g,0,none⟩) l.length c) 0 kk22 rfl rfl rfl) rfl rfl rfl (by kernel_rfl) rfl ?_
 refine TA.y 4 [0] rfl (Y.sliceData hc rfl) rfl rfl rfl (by kernel_rfl) rfl ?_
 refine TA.y 5 [0] rfl (Y.move rfl) rfl rfl rfl (by kernel_rfl) rfl ?_
 refine TA.y 6 [0] rfl (Y.nilCheck rfl) rfl rfl rfl (by kernel_rfl) rfl ?_
 refine TA.y 7 [0] rfl (Y.field_box zhj rfl rfl) rfl rfl rfl (by kernel_rfl) rfl ?_
 refine TA.y 8 [0] rfl (Y.load_box (v:=.slice (some ⟨g,0,none⟩) l.length c) 0 kk22 rfl rfl rfl) rfl rfl rfl (by kernel_rfl) rfl ?_
 refine TA.y 9 [0] rfl (Y.lenV ke22 rfl) rfl rfl rfl (by kernel_rfl) rfl ?_
 refine TA.one 10 (by kernel_rfl) ?_
 refine TX.ef [0] rfl (Ef.takeStr [1,0] hl kp246 rfl rfl rfl rfl) rfl rfl rfl (fun _=>rfl) (fun _=>?_)
 refine TA.y 11 [0] rfl (Y.assign rfl) rfl rfl rfl (by kernel_rfl) rfl ?_
 refine TA.nil (by kernel_rfl) ?_
 refine TE.next ?_
 refine TW.ret ?_
 exact TE.leaf fun _ _ hf_ hs_=>zS (rs:=[.tmp 2]) (vs:=[strV l]) (.inl rfl) rfl ⟨rfl,trivial⟩ hf_ hs_ ⟨(),rfl,hs_.pulls [0] rfl⟩
noncomputable def zd0 (l:List Op):Option (List UInt8):=
 (zcx l).bind fun R1=>
 if !R1 then (some ([]))
 else ((zeM (l.length:Int)).bind fun R6=>
 (app 1 ([]:List UInt8) R6).bind fun R10=>
 bindC (loopO (fun (S12:Int × List UInt8)=>if decide (S12.1<(l.length:Int)) then ((idx l S12.1).bind fun E17=>
 (zh4 E17.Del).bind fun R20=>
 (zfd E17.Key).bind fun R23=>
 (cat R20 R23).bind fun E26=>
 (app 1 S12.2 E26).bind fun R29=>
 bindC (if !E17.Del then ((zfd E17.Val).bind fun R34=>
 (app 1 R29 R34).bind fun R38=>
 some (.go R38))
 else (some (.go R29)))
 (fun (T31:List UInt8)=>some (.go (IntKind.i64.wrap (S12.1+1),T31))))
 else (some (.done (.go S12.2))))
 ((0:Int),R10))
 (fun (T14:List UInt8)=>(strOf T14).bind fun R40=>
 some R40))
theorem zlo {l:List Op} {U0:Value} :Cn Tryz.prog 150 [U0] [] [(U0,lc l)] (zd0 l) (fun r (_:Unit)=>strV r) fun _ _=>[]:=by
 unfold zd0
 refine Ci Tryz.func150 r r ?_
 rintro w S ⟨Z0,-⟩
 refine Sr<|Qs 1 r<|Nx<|Sq<|Sr<|Qs 1 r<|Bi fun R1 H2=>Fo (Cl [] ze6 H2 r r1 ⟨(Bc Z0),⟨⟩⟩) fun _=>Qs 1 r<|Nx<|Wc r (fun H4=>Sr<|Qs 1 r<|Nx<|Wr<|Tr<|Re () []) fun H4=>Sn<|Sr<|Fo (Al kz225 r) fun B5=>Nx<|Sr<|Qs 1 r<|Yo (Ln ke27 (Bc Z0) r)<|Bi fun R6 H7=>Fo (Cl [] zg9 H7 r r1) fun _=>Bi fun R10 H11=>Fo (Cm [0] (zfU R6 R10 B5 H11) kc179 r r1) fun Y9=>Nx<|Sq<|Sr<|Qs 1 r<|Yo (Ln ke27 (Bc Z0) r)<|Qs 1 r<|Nx<|Jn Value [3] [] (fun _ _=>[]) (fun T X=>[.box B5 225 [pt B5,X],.buf X 5 T]) r2 r2 (?_) fun T14 X15=>?_
 ·refine Wb<|Lp Value [3,13,14] [] (fun T _=>[(15,iv T.1)]) (fun T X=>[.box B5 225 [pt B5,X],.buf X 5 T.2]) Y9 [0,0] r2 r2 fun S12 X13=>Sr<|Qs 1 r<|Nx<|Sq<|Wc r (fun H16=>?_) fun H16=>?_
  ·refine Sn<|Sq<|Wb<|Sr<|Bi fun E17 H18=>Yo (Ix ke27 (Bc Z0) H18 r)<|Yo (Le kk120 (Bc Z0) H18 r)<|Fo (Al kz120 r) fun B19=>Fu (Sb 0 kk120 r (Cp r) r)<|Nx<|Sq<|Dr [0] r hMix<|Ay 0 [0] r (Fb zff r)<|Ay 1 [0] r (Lb 0 kk4 r)<|Ay 3 [0] r (Fb zev r)<|Ay 4 [0] r (Lb 0 kk9 r)<|Ai fun R20 H21=>A1 2<|Xe [0] r (Cl [] zpc H21 r r1) fun _=>Ai fun R23 H24=>A1 5<|Xe [0] r (Cl [] zj5 H24 r r1) fun _=>Ai fun E26 H27=>Ay 6 [0] r (Y.cat H27 r r)<|Ai fun R29 H30=>A1 7<|Xe [2] r (Cm [1,1] (zdv S12.2 E26 R29 B5 X13 H30) kc179 r r1) fun Y28=>?_
   refine Az<|Ne<|Sr<|Yo (Fb zff r)<|Yo (Lb 2 kk4 r)<|Qs 1 r<|Nx<|Jn Value [3,13,14,15] [] (fun _ _=>[]) (fun T X=>[.box B5 225 [pt B5,X],.buf X 5 T]) r2 r2 (?_) fun T31 X32=>?_
   ·exact Wc r (fun H33=>Rg<|Yo (Fb zfg r)<|Yo (Lb 2 kk9 r)<|Bi fun R34 H35=>Fo (Cl [] zj5 H35 r r1) fun _=>Bi fun R38 H39=>Fo (Cm [0,0] (zdv R29 R34 R38 B5 Y28 H39) kc179 r r1) fun Y37=>Nl<|Jg Y37 [0,0]) fun H33=>Sk<|Jg Y28 [0,0]
   exact Bn<|Ne<|Rg<|Qs 2 r<|Nl<|Lg X32 [0,0]
  exact Wx<|Tx<|Ex<|Be<|Jg X13 [0,0]
 exact Ne<|Sr<|Bi fun R40 H41=>Fo (Cm [0,0] (zgR T14 B5 X15 R40 H41) kc182 r r1) fun _=>Qs 1 r<|Nx<|Wr<|Re () []
noncomputable def zc5 (key:List UInt8) (counter:Int) (nonce:List UInt8) (text:List UInt8):Option (List UInt8):=
 (zfc key counter nonce).bind fun R1=>
 if !R1 then (some ([]))
 else ((byteRoom text).bind fun E6=>
 (if decide (IntKind.i64.wrap (Int.tdiv (IntKind.i64.wrap ((text.length:Int)+63)) 64)>0) then (some (decide (IntKind.i64.wrap (IntKind.i64.wrap (counter+(IntKind.i64.wrap (Int.tdiv (IntKind.i64.wrap ((text.length:Int)+63)) 64))) - 1)>4294967295)))
 else (some false)).bind (fun (T8:Bool)=>
 if T8=true then (some ([]))
 else (bindC (loopO (fun (S12:Int × Int × List UInt8)=>if decide (S12.2.1<(S12.2.2.length:Int)) then ((zdx key S12.1 nonce).bind fun R17=>
 bindC (loopO (fun (S20:Int × List UInt8)=>(if decide (S20.1<64) then (some (decide (IntKind.i64.wrap (S12.2.1+S20.1)<(S20.2.length:Int))))
 else (some false)).bind (fun (T24:Bool)=>
 if T24=true then ((sidx R17 S20.1).bind fun E28=>
 (idx S20.2 (IntKind.i64.wrap (S12.2.1+S20.1))).bind fun E30=>
 some (.go (IntKind.i64.wrap (S20.1+1),(S20.2.set ((IntKind.i64.wrap (S12.2.1+S20.1)).toNat) (E30 ^^^ E28)))))
 else (some (.done (.go S20.2)))))
 ((0:Int),S12.2.2))
 (fun (T22:List UInt8)=>some (.go (IntKind.i64.wrap (S12.1+1),IntKind.i64.wrap (S12.2.1+64),T22))))
 else (some (.done (.go S12.2.2))))
 (counter,(0:Int),text))
 (fun (T14:List UInt8)=>some T14))))
theorem zhu {key:List UInt8} {counter:Int} {nonce:List UInt8} {text:List UInt8} :Cn Tryz.prog 148 [strV key,iv counter,strV nonce,strV text] [] [] (zc5 key counter nonce text) (fun r (_:Unit)=>strV r) fun _ _=>[]:=by
 unfold zc5
 refine Ci Tryz.func148 r r ?_
 rintro w S -
 refine Sr<|Qs 1 r<|Nx<|Sq<|Sr<|Qs 3 r<|Bi fun R1 H2=>Fo (Cl [] zj2 H2 r r1) fun _=>Qs 1 r<|Nx<|Wc r (fun H4=>Sr<|Qs 1 r<|Nx<|Wr<|Tr<|Re () []) fun H4=>Sn<|Sr<|Qs 1 r<|Bi fun E6 H7=>Fo (Ef.toBytes H7 ks9 ke22 ki5 r) fun V5=>Qs 1 r<|Nx<|Sq<|Sr<|Qs 1 r<|Yo (Ln ke22 (Can.frz 0 r) r)<|Qs 1 r<|Yo (Y.quo (by decide) r r)<|Qs 1 r<|Nx<|Sq<|Jv [0,1,2,9] (fun T=>[(33,.bool T)]) r1 (Rg<|Qs 3 r<|It (fun H10=>Qg 5 (zd H10) r r<|Yo (Pt H10 r)<|Nl<|Bg () [0]) fun H10=>Of 5 (zt H10) r r<|Yo (Pf H10 r)<|Nl<|Bg () [0]) fun T8=>Ne<|Wc r (fun H11=>Sr<|Qs 1 r<|Nx<|Wr<|Tr<|Re () []) fun H11=>?_
 refine Sn<|Sq<|Sr<|Qs 1 r<|Nx<|Jn Unit [9] [] (fun _ _=>[]) (fun T _=>[.frz V5 5 T]) r2 r2 (?_) fun T14 X15=>?_
 ·refine Wb<|Lp Unit [0,2,9] [] (fun T _=>[(1,iv T.1),(11,iv T.2.1)]) (fun T _=>[.frz V5 5 T.2.2]) () [0] r2 r2 fun S12 X13=>Sq<|Sr<|Qs 2 r<|Yo (Ln ke22 (Can.frz 0 r) r)<|Qs 1 r<|Nx<|Wc r (fun H16=>?_) fun H16=>?_
  ·refine Sn<|Sq<|Wb<|Sr<|Qs 3 r<|Bi fun R17 H18=>Fo (Cl [] zh0 H18 r r1) fun _=>Qs 1 r<|Nx<|Sr<|Qs 3 r<|Nx<|Sr<|Qs 1 r<|Nx<|Jn Unit [0,1,2,9,11] [] (fun _ _=>[]) (fun T _=>[.frz V5 5 T]) r2 r2 (?_) fun T22 X23=>?_
   ·refine Wb<|Lp Unit [0,1,2,9,11,12] [] (fun T _=>[(13,iv T.1)]) (fun T _=>[.frz V5 5 T.2]) () [0] r2 r2 fun S20 X21=>Sq<|Sq<|Jv [0,1,2,9,11,12,13] (fun T=>[(55,.bool T)]) r1 (Rg<|Qs 3 r<|It (fun H26=>Qg 4 (zd H26) r r<|Yg (gdA (zd H26)) (Ln ke22 (Can.frz 0 r) r)<|Qg 1 (zd H26) r r<|Yo (Pt H26 r)<|Nl<|Bg () [0]) fun H26=>Of 6 (zt H26) r r<|Yo (Pf H26 r)<|Nl<|Bg () [0]) fun T24=>Ne<|Wc r (fun H27=>?_) fun H27=>?_
    ·exact Sn<|Sq<|Wb<|Dr [] r hMix<|Aq [0,1,2,3,6,7] [] r<|Ai fun E28 H29=>Ay 8 [] r (Y.sidx H29 ks9 r r)<|Ai fun E30 H31=>A1 4<|Xy [] r (Ix ke22 (Can.frz 0 r) H31 r)<|A1 5<|Xy [] r (Le kk5 (Can.frz 0 r) H31 r)<|Ay 9 [] r (Y.xor8 r r)<|A1 10<|Xy [] r (Ix ke22 (Can.frz 0 r) H31 r)<|A1 11<|Xu [] r (Ef.store_frz (is':=[.frz V5 5 (S20.2.set ((IntKind.i64.wrap (S12.2.1+S20.1)).toNat) (E30 ^^^ E28))]) (E30 ^^^ E28) 0 kk5 r (zz H31).2.2 r r r r r)<|Az<|Bn<|Ne<|Rg<|Qs 3 r<|Nl<|Lg () [0]
    exact Wx<|Tx<|Ex<|Be<|Jg () [0]
   exact Bn<|Ne<|Rg<|Qs 3 r<|Nl<|Lg () [0]
  exact Wx<|Tx<|Ex<|Be<|Jg () [0]
 exact Ne<|Sr<|Qs 1 r<|Yo (Y.toStr ke22 ki5 ks9 (Can.frz 0 r) r)<|Qs 1 r<|Nx<|Wr<|Re () []
noncomputable def zdY (key:List UInt8) (boot:Int) (seq:Int) (l:List Op):Option (List UInt8):=
 (if !(decide ((key.length:Int)=32)) then (some true)
 else ((zd6 boot seq).bind fun R4=>
 if !R4 then (some true)
 else ((zcx l).bind fun R8=>
 some (!R8)))).bind (fun (T1:Bool)=>
 if T1=true then (some ([]))
 else ((zdz boot seq).bind fun R12=>
 (zd0 l).bind fun R15=>
 (zc5 key 0 R12 R15).bind fun R18=>
 some R18))
theorem zlm {key:List UInt8} {boot:Int} {seq:Int} {l:List Op} {U0:Value} :Cn Tryz.prog 102 [strV key,iv boot,iv seq,U0] [] [(U0,lc l)] (zdY key boot seq l) (fun r (_:Unit)=>strV r) fun _ _=>[]:=by
 unfold zdY
 refine Ci Tryz.func102 r r ?_
 rintro w S ⟨Z0,-⟩
 refine Sr<|Qs 1 r<|Nx<|Sq<|Sq<|Jv [0,1,2,3] (fun T=>[(22,.bool T)]) r1 (?_) fun T1=>?_
 ·exact Rg<|Qs 1 r<|Yo (Y.slen ks9 r)<|Qs 2 r<|It (fun H3=>Of 4 (zl H3) r r<|Yo (Pt H3 r)<|Qs 1 r<|Of 3 r r r<|Yo (Pt r r)<|Nl<|Bg () []) fun H3=>Qg 2 (za H3) r r<|Bi fun R4 H5=>Fg (gdA (za H3)) (Cl [] ziy H5 r r1) fun _=>Qg 1 (za H3) r r<|Yo (Pf H3 r)<|Qs 1 r<|It (fun H7=>Of 3 (zl H7) r r<|Yo (Pt H7 r)<|Nl<|Bg () []) fun H7=>Qg 1 (za H7) r r<|Bi fun R8 H9=>Fg (gdA (za H7)) (Cl [] ze6 H9 r r1 ⟨(Bc Z0),⟨⟩⟩) fun _=>Qg 1 (za H7) r r<|Yo (Pf H7 r)<|Nl<|Bg () []
 exact Ne<|Wc r (fun H11=>Sr<|Qs 1 r<|Nx<|Wr<|Tr<|Re () []) fun H11=>Sn<|Sr<|Qs 3 r<|Bi fun R12 H13=>Fo (Cl [] zh8 H13 r r1) fun _=>Qs 1 r<|Bi fun R15 H16=>Fo (Cl [] zlo H16 r r1 ⟨(Bc Z0),⟨⟩⟩) fun _=>Bi fun R18 H19=>Fo (Cl [] zhu H19 r r1) fun _=>Qs 1 r<|Nx<|Wr<|Re () []
noncomputable def zbT (e:STen):Option (Bool × STen):=
 (if decide ((e.Eng.Mem.length:Int)=0) then (some true)
 else (some (decide ((e.Eng.Tables.length:Int)≥6)))).bind (fun (T1:Bool)=>
 if T1=true then (some (false,e))
 else ((zV e.Eng.Tables 0 ([e.Eng.Mem])).bind fun R6=>
 some (true,(⟨e.Id,e.Epoch,e.Base,⟨[],R6,e.Eng.Seq,e.Eng.Snaps⟩⟩:STen))))
theorem zg4 {e:STen} {U0 U1 U2:Value} {U3:Nat} :Cn Tryz.prog 95 [.pointer (some ⟨U3,3,none⟩)] [.box U3 95 [iv e.Id,iv e.Epoch,iv e.Base,U0,U1,iv e.Eng.Seq,U2],.own U0 (lc e.Eng.Mem),.own U1 (lc e.Eng.Tables)] [] (zbT e) (fun r (_:Value × Value)=>.bool r.1) fun r X=>[.box U3 95 [iv r.2.Id,iv r.2.Epoch,iv r.2.Base,X.1,X.2,iv r.2.Eng.Seq,U2],.own X.1 (lc r.2.Eng.Mem),.own X.2 (lc r.2.Eng.Tables)]:=by
 unfold zbT
 refine Ci Tryz.func95 r r ?_
 rintro w S -
 refine Sr<|Qs 1 r<|Nx<|Sq<|Sq<|Jv [0] (fun T=>[(16,.bool T)]) r1 (?_) fun T1=>?_
 ·exact Rg<|Qs 2 r<|Yo (Fb zb6 r)<|Yo (Lb 0 kk90 r)<|Yo (Ln ke90 (Oc 1 r) r)<|Qs 2 r<|It (fun H3=>Of 6 (zl H3) r r<|Yo (Pt H3 r)<|Nl<|Bg () [0,0,0]) fun H3=>Qg 2 (za H3) r r<|Yg (gdA (za H3)) (Fb zbl r)<|Yg (gdA (za H3)) (Lb 0 kk91 r)<|Yg (gdA (za H3)) (Ln ke91 (Oc 2 r) r)<|Qg 1 (za H3) r r<|Yo (Pf H3 r)<|Nl<|Bg () [0,0,0]
 refine Ne<|Wc r (fun H4=>Sr<|Qs 1 r<|Nx<|Wr<|Tr<|Re (U0,U1) [0,0,0]) fun H4=>Sn<|Sq<|Wi fun R6 H7=>Jw Value [0] [] (fun _=>[]) (fun X=>[.box U3 95 [iv e.Id,iv e.Epoch,iv e.Base,U0,X,iv e.Eng.Seq,U2],.own X (lc R6)]) r1 r1 (?_) fun X10=>?_
 ·refine Dr [] r hMix<|Aq [0,1,2] [] r<|Ay 3 [] r (Fb zbl r)<|Aq [5,6] [] r<|Ay 7 [] r (Fb zb6 r)<|A2 4 8 (?_)<|?_
  ·exact Xy [] r (Lb 0 kk91 r)<|A1 8<|Xy [] r (Lb 0 kk90 r)<|A1 9<|Xe [] r (Bk [.raw U0] ke91 kz90 r (Qc (Co 1)<|Qz)) fun B11=>Ka (Ha [0,1] ([e.Eng.Mem]:List (List Ent)) r (Cf Cz))<|A1 10<|Xe [] r (Cl [2,0] zbG H7 r r1) fun Y12=>Aq [11] [] r<|Ay 12 [] r (Fb zbl r)<|A1 13<|Xu [] r (Sb 1 kk91 r (Co 0) r)<|Az<|Bg Y12 [1,0]
  refine Xy [] r (Lb 0 kk90 r)<|A2 4 9 (?_)<|?_
  ·exact Xy [] r (Lb 0 kk91 r)<|A1 9<|Xe [] r (Bk [.raw U0] ke91 kz90 r (Qc (Co 1)<|Qz)) fun B12=>Ka (Ha [0,1] ([e.Eng.Mem]:List (List Ent)) r (Cf Cz))<|A1 10<|Xe [] r (Cl [2,0] zbG H7 r r1) fun Y13=>Aq [11] [] r<|Ay 12 [] r (Fb zbl r)<|A1 13<|Xu [] r (Sb 1 kk91 r (Co 0) r)<|Az<|Bg Y13 [1,0]
  exact Xe [] r (Bk [.raw U0] ke91 kz90 r (Qc (Co 1)<|Qz)) fun B11=>Ka (Ha [0,1] ([e.Eng.Mem]:List (List Ent)) r (Cf Cz))<|A1 4<|Xy [] r (Lb 1 kk91 r)<|A1 10<|Xe [] r (Cl [2,0] zbG H7 r r1) fun Y12=>Aq [11] [] r<|Ay 12 [] r (Fb zbl r)<|A1 13<|Xu [] r (Sb 1 kk91 r (Co 0) r)<|Az<|Bg Y12 [1,0]
 exact Ne<|Sr<|Qs 2 r<|Yo (Fb zb6 r)<|Fu (Sb 0 kk90 r (Cp r) r)<|Nx<|Sr<|Qs 1 r<|Nx<|Wr<|Ni 4<|Re ((.slice none 0 0),X10) [1,0,0]
noncomputable def zbV (e:STen):Option (Bool × STen):=
 if decide ((e.Eng.Tables.length:Int)=0) then (some (false,e))
 else ((zb1 e.Eng.Tables).bind fun R2=>
 (zbQ R2 e.Eng.Snaps true).bind fun R5=>
 bindC (if decide ((R5.length:Int)>0) then (some (.go ([R5])))
 else (some (.go ([]:List (List Ent)))))
 (fun (T8:List (List Ent))=>some (true,(⟨e.Id,e.Epoch,e.Base,⟨e.Eng.Mem,T8,e.Eng.Seq,e.Eng.Snaps⟩⟩:STen))))
theorem zg6 {e:STen} {U0 U1 U2:Value} {U3:Nat} :Cn Tryz.prog 96 [.pointer (some ⟨U3,3,none⟩)] [.box U3 95 [iv e.Id,iv e.Epoch,iv e.Base,U0,U1,iv e.Eng.Seq,U2],.own U1 (lc e.Eng.Tables)] [(U2,lc e.Eng.Snaps)] (zbV e) (fun r (_:Value)=>.bool r.1) fun r X=>[.box U3 95 [iv r.2.Id,iv r.2.Epoch,iv r.2.Base,U0,X,iv r.2.Eng.Seq,U2],.own X (lc r.2.Eng.Tables)]:=by
 unfold zbV
 refine Ci Tryz.func96 r r ?_
 rintro w S ⟨Z0,-⟩
 refine Sr<|Qs 1 r<|Nx<|Sq<|Sr<|Qs 2 r<|Yo (Fb zbl r)<|Yo (Lb 0 kk91 r)<|Yo (Ln ke91 (Oc 1 r) r)<|Qs 1 r<|Nx<|Wc r (fun H1=>Sr<|Qs 1 r<|Nx<|Wr<|Tr<|Re U1 [0,0]) fun H1=>Sn<|Sq<|Dr [0,0] r hMix<|Aq [0,1] [0,0] r<|Ay 2 [0,0] r (Fb zbl r)<|Ay 3 [0,0] r (Lb 0 kk91 r)<|Aq [5,6] [0,0] r<|Ay 7 [0,0] r (Fb zfw r)<|Ay 8 [0,0] r (Lb 0 kk53 r)<|Ai fun R2 H3=>A1 4<|Xe [1,1] r (Cl [] zgN H3 r r1 ⟨(Oc 1 r),⟨⟩⟩) fun Y4=>Ai fun R5 H6=>A1 9<|Xe [2,2] r (Cl [] zhz H6 r r1 ⟨(Oc 0 r),(Bc Z0),⟨⟩⟩) fun Y7=>Aq [10] [2,2] r<|Az<|Ne<|Sr<|Qs 2 r<|Yo (Fb zbl r)<|Fu (Sb 2 kk91 r (Cp r) r)<|Nx<|Sq<|Sr<|Qs 1 r<|Yo (Ln ke90 (Oc 0 r) r)<|Qs 1 r<|Nx<|Jn Value [] [] (fun _ _=>[]) (fun T X=>[.box U3 95 [iv e.Id,iv e.Epoch,iv e.Base,U0,X,iv e.Eng.Seq,U2],.own X (lc T)]) r2 r2 (?_) fun T8 X9=>?_
 ·exact Wc r (fun H10=>Rg<|Qs 2 r<|Fo (Bk [.raw Y7] ke91 kz90 r (Qc (Co 0)<|Qz)) fun B11=>Kt (Ha [0,0] ([R5]:List (List Ent)) r (Cf Cz))<|Qs 1 r<|Yo (Fb zbl r)<|Fu (Sb 2 kk91 r (Cp r) r)<|Nl<|Jg (.slice (some ⟨B11,0,none⟩) 1 1) [2,0]) fun H10=>Sk<|Ni 1<|Jg (.slice none 0 0) [3,0]
 exact Ne<|Sr<|Qs 1 r<|Nx<|Wr<|Re X9 [0,0]
noncomputable def zbH (e:STen) (l:List Op):Option (Bool × STen):=
 bindC (loopO (fun (S1:Bool × Int × List Ent)=>if decide (S1.2.1<(l.length:Int)) then ((idx l S1.2.1).bind fun E6=>
 (piece l (IntKind.i64.wrap (S1.2.1+1)) (l.length:Int)).bind fun E9=>
 (zw E9 E6).bind fun R12=>
 (if !R12 then (some S1.1)
 else (some false)).bind (fun (T15:Bool)=>
 bindC (if T15=true then ((zfG S1.2.2 (⟨E6.Key,IntKind.i64.wrap (e.Eng.Seq+1),E6.Del,E6.Val⟩:Ent)).bind fun R21=>
 some (.go (R21.2,R21.1)))
 else (some (.go (S1.1,S1.2.2))))
 (fun (T18:Bool × List Ent)=>some (.go (T18.1,IntKind.i64.wrap (S1.2.1+1),T18.2)))))
 else (some (.done (.go (S1.1,S1.2.2)))))
 (true,(0:Int),e.Eng.Mem))
 (fun (T3:Bool × List Ent)=>(if T3.1=true then (if decide (IntKind.i64.wrap (e.Eng.Seq+1)≤1000000) then (if decide ((T3.2.length:Int)≤60) then ((zd9 e.Eng.Tables).bind fun R31=>
 some (decide (IntKind.i64.wrap (R31+(T3.2.length:Int))≤400)))
 else (some false))
 else (some false))
 else (some false)).bind (fun (T26:Bool)=>
 some (T26,(⟨e.Id,e.Epoch,e.Base,⟨T3.2,e.Eng.Tables,IntKind.i64.wrap (e.Eng.Seq+1),e.Eng.Snaps⟩⟩:STen))))
theorem zgL {e:STen} {l:List Op} {U0 U1 U2 U4:Value} {U3:Nat} :Cn Tryz.prog 101 [.pointer (some ⟨U3,3,none⟩),U4] [.box U3 95 [iv e.Id,iv e.Epoch,iv e.Base,U0,U1,iv e.Eng.Seq,U2],.own U0 (lc e.Eng.Mem)] [(U1,lc e.Eng.Tables),(U4,lc l)] (zbH e l) (fun r (_:Value)=>.bool r.1) fun r X=>[.box U3 95 [iv r.2.Id,iv r.2.Epoch,iv r.2.Base,X,U1,iv r.2.Eng.Seq,U2],.own X (lc r.2.Eng.Mem)]:=by
 unfold zbH
 refine Ci Tryz.func101 r r ?_
 rintro w S ⟨Z0,Z1,-⟩
 refine Sr<|Qs 1 r<|Nx<|Sr<|Qs 2 r<|Yo (Fb zcA r)<|Yo (Lb 0 kk3 r)<|Qs 2 r<|Yo (Fb zcA r)<|Fu (Sb 0 kk3 r (Cp r) r)<|Nx<|Sr<|Qs 1 r<|Nx<|Sq<|Sr<|Qs 1 r<|Yo (Ln ke27 (Bc Z1) r)<|Qs 1 r<|Nx<|Jn Value [0] [] (fun T _=>[(5,.bool T.1)]) (fun T X=>[.box U3 95 [iv e.Id,iv e.Epoch,iv e.Base,X,U1,iv (IntKind.i64.wrap (e.Eng.Seq+1)),U2],.own X (lc T.2)]) r2 r2 (?_) fun T3 X4=>?_
 ·refine Wb<|Lp Value [0,1,16,17] [] (fun T _=>[(5,.bool T.1),(18,iv T.2.1)]) (fun T X=>[.box U3 95 [iv e.Id,iv e.Epoch,iv e.Base,X,U1,iv (IntKind.i64.wrap (e.Eng.Seq+1)),U2],.own X (lc T.2.2)]) U0 [0,0] r2 r2 fun S1 X2=>Sr<|Qs 1 r<|Nx<|Sq<|Wc r (fun H5=>?_) fun H5=>?_
  ·refine Sn<|Sq<|Wb<|Sr<|Qs 1 r<|Bi fun E6 H7=>Yo (Ix ke27 (Bc Z1) H7 r)<|Yo (Le kk120 (Bc Z1) H7 r)<|Fo (Al kz120 r) fun B8=>Qs 1 r<|Fu (Sb 0 kk120 r (Cp r) r)<|Nx<|Sr<|Qs 3 r<|Bi fun E9 H10=>?_
   have Q11:=Base.sub (sz:=3) H10 r Z1
   refine Yo (Y.subs H10 ke27 (Bc Z1) r ⟨_,r⟩ r)<|Yo (Y.makeFunc r)<|Bi fun R12 H13=>Fo (Cl [0] zbP H13 r r1 ⟨(Bc Q11),⟨⟩⟩) fun _=>Qs 1 r<|Nx<|Sq<|Jv [0,1,5,7,16,17,18] (fun T=>[(33,.bool T)]) r1 (Rg<|Qs 3 r<|It (fun H17=>Qg 1 (zd H17) r r<|Yo (Pt H17 r)<|Nl<|Bg () [0,0,0]) fun H17=>Of 1 (zt H17) r r<|Yo (Pf H17 r)<|Nl<|Bg () [0,0,0]) fun T15=>Ne<|Jn Value [0,1,16,17,18] [] (fun T _=>[(5,.bool T.1)]) (fun T X=>[.box U3 95 [iv e.Id,iv e.Epoch,iv e.Base,X,U1,iv (IntKind.i64.wrap (e.Eng.Seq+1)),U2],.own X (lc T.2)]) r2 r2 (?_) fun T18 X19=>?_
   ·refine Wc r (fun H20=>?_) fun H20=>?_
    ·refine Wi fun R21 H22=>Jw Value [0,1,16,17,18] [] (fun _=>[(5,.bool R21.2)]) (fun X=>[.box U3 95 [iv e.Id,iv e.Epoch,iv e.Base,X,U1,iv (IntKind.i64.wrap (e.Eng.Seq+1)),U2],.own X (lc R21.1)]) r1 r1 (?_) fun X25=>?_
     ·refine Dr [0] r hMix<|Aq [0,1,2] [0] r<|Ay 3 [0] r (Fb zb6 r)<|Ay 5 [0] r (Fb zev r)<|Ay 6 [0] r (Lb 0 kk9 r)<|Aq [7,8] [0] r<|Ay 9 [0] r (Fb zcA r)<|Ay 11 [0] r (Fb zff r)<|Ay 12 [0] r (Lb 0 kk4 r)<|Ay 13 [0] r (Fb zfg r)<|Ay 14 [0] r (Lb 0 kk9 r)<|A2 4 10 (?_)<|?_
      ·exact Xy [0] r (Lb 1 kk90 r)<|A1 10<|Xy [0] r (Lb 1 kk3 r)<|Ay 15 [0] r (Bd kp189 kz189 (Pc r (Cp r)<|Pc r (Cp r)<|Pc r (Cp r)<|Pc r (Cp r)<|Pz) r)<|A1 16<|Xe [1] r (Cl [2] zha H22 r r1) fun Y26=>Aq [17,18,19,20] [1] r<|Ay 21 [1] r (Fb zb6 r)<|A1 22<|Xu [1] r (Sb 2 kk90 r (Co 0) r)<|Aq [23] [1] r<|Az<|Bg Y26 [2,0]
      exact Xy [0] r (Lb 1 kk3 r)<|Ay 15 [0] r (Bd kp189 kz189 (Pc r (Cp r)<|Pc r (Cp r)<|Pc r (Cp r)<|Pc r (Cp r)<|Pz) r)<|A1 4<|Xy [0] r (Lb 1 kk90 r)<|A1 16<|Xe [1] r (Cl [2] zha H22 r r1) fun Y26=>Aq [17,18,19,20] [1] r<|Ay 21 [1] r (Fb zb6 r)<|A1 22<|Xu [1] r (Sb 2 kk90 r (Co 0) r)<|Aq [23] [1] r<|Az<|Bg Y26 [2,0]
     exact Jg X25 [0,0]
    exact Sk<|Jg X2 [1,1]
   exact Bn<|Ne<|Rg<|Qs 2 r<|Nl<|Lg X19 [0,0]
  exact Wx<|Tx<|Ex<|Be<|Jg X2 [0,0]
 refine Ne<|Sq<|Jv [] (fun T=>[(4,.bool T)]) r1 (?_) fun T26=>?_
 ·refine Dr [0,0] r hMix<|Aq [0,1] [0,0] r<|Ia (fun H28=>?_) fun H28=>?_
  ·refine Ag 2 [0,0] (gdA (zd H28)) r (Y.move r)<|Ag 3 [0,0] (gdA (zd H28)) r (Y.nilCheck r)<|Ag 4 [0,0] (gdA (zd H28)) r (Fb zcA r)<|Ag 5 [0,0] (gdA (zd H28)) r (Lb 0 kk3 r)<|Ag 6 [0,0] (gdA (zd H28)) r (Y.leq r r)<|Ay 7 [0,0] r (Pt H28 r)<|Aq [8] [0,0] r<|Ia (fun H29=>?_) fun H29=>?_
   ·refine Ag 9 [0,0] (gdA (zd H29)) r (Y.move r)<|Ag 10 [0,0] (gdA (zd H29)) r (Y.nilCheck r)<|Ag 11 [0,0] (gdA (zd H29)) r (Fb zb6 r)<|Ag 12 [0,0] (gdA (zd H29)) r (Lb 0 kk90 r)<|Ag 13 [0,0] (gdA (zd H29)) r (Ln ke90 (Oc 1 r) r)<|Ag 14 [0,0] (gdA (zd H29)) r (Y.leq r r)<|Ay 15 [0,0] r (Pt H29 r)<|Aq [16] [0,0] r<|Ia (fun H30=>?_) fun H30=>?_
    ·refine Ag 17 [0,0] (gdA (zd H30)) r (Y.move r)<|Ag 18 [0,0] (gdA (zd H30)) r (Y.nilCheck r)<|Ag 19 [0,0] (gdA (zd H30)) r (Fb zbl r)<|Ag 20 [0,0] (gdA (zd H30)) r (Lb 0 kk91 r)<|Ag 22 [0,0] (gdA (zd H30)) r (Y.move r)<|Ag 23 [0,0] (gdA (zd H30)) r (Y.nilCheck r)<|Ag 24 [0,0] (gdA (zd H30)) r (Fb zb6 r)<|Ag 25 [0,0] (gdA (zd H30)) r (Lb 0 kk90 r)<|Ag 26 [0,0] (gdA (zd H30)) r (Ln ke90 (Oc 1 r) r)<|Ai fun R31 H32=>A1 21<|Xeg [0,0] (gdA (zd H30)) r (Cl [] ziC H32 r r1 ⟨(Bc Z0),⟨⟩⟩) fun _=>?_
     exact Ag 27 [0,0] (gdA (zd H30)) r (Y.add r r)<|Ag 28 [0,0] (gdA (zd H30)) r (Y.leq r r)<|Ay 29 [0,0] r (Pt H30 r)<|Aq [30] [0,0] r<|Az<|Bg () [0,0]
    exact Ax [17,18,19,20,21,22,23,24,25,26,27,28] [0,0] (zt H30) r r<|Ay 29 [0,0] r (Pf H30 r)<|Aq [30] [0,0] r<|Az<|Bg () [0,0]
   exact Ax [9,10,11,12,13,14] [0,0] (zt H29) r r<|Ay 15 [0,0] r (Pf H29 r)<|Aq [16] [0,0] r<|Ax [17,18,19,20,21,22,23,24,25,26,27,28] [0,0] r r r<|Ay 29 [0,0] r (Pf r r)<|Aq [30] [0,0] r<|Az<|Bg () [0,0]
  exact Ax [2,3,4,5,6] [0,0] (zt H28) r r<|Ay 7 [0,0] r (Pf H28 r)<|Aq [8] [0,0] r<|Ax [9,10,11,12,13,14] [0,0] r r r<|Ay 15 [0,0] r (Pf r r)<|Aq [16] [0,0] r<|Ax [17,18,19,20,21,22,23,24,25,26,27,28] [0,0] r r r<|Ay 29 [0,0] r (Pf r r)<|Aq [30] [0,0] r<|Az<|Bg () [0,0]
 exact Ne<|Wr<|Re X4 [0,0]
noncomputable def zhB (l:List Ent) (key:List UInt8) (seq:Int):Option (Ent × Bool):=
 bindC (loopO (fun (S2:Int)=>if decide (S2<(l.length:Int)) then ((idx l S2).bind fun E7=>
 (if decide (E7.Key=key) then (some (decide (E7.Seq≤seq)))
 else (some false)).bind (fun (T10:Bool)=>
 if T10=true then (some (.done (.done (E7,true))))
 else (some (.go (IntKind.i64.wrap (S2+1))))))
 else (some (.done (.go ()))))
 (0:Int))
 (fun (T4:Unit)=>some ((⟨[],0,false,[]⟩:Ent),false))
theorem zqo {l:List Ent} {key:List UInt8} {seq:Int} {U0:Value} :Cn Tryz.prog 151 [U0,strV key,iv seq] [] [(U0,lc l)] (zhB l key seq) (fun r (_:Unit)=>.tuple #[.agg #[strV r.1.Key,iv r.1.Seq,.bool r.1.Del,strV r.1.Val],.bool r.2]) fun _ _=>[]:=by
 unfold zhB
 refine Ci Tryz.func151 r r ?_
 rintro w S ⟨Z0,-⟩
 refine Sr<|Fo (Al kz189 r) fun B1=>Qs 1 r<|Nx<|Sq<|Sr<|Qs 1 r<|Yo (Ln ke90 (Bc Z0) r)<|Qs 1 r<|Nx<|Ju [6] (fun _=>[]) r1 (?_) fun T4=>?_
 ·refine Wb<|Lu [1,2,6,10,11] (fun T=>[(12,iv T)]) r1 fun S2=>Sr<|Qs 1 r<|Nx<|Sq<|Wc r (fun H6=>?_) fun H6=>?_
  ·refine Sn<|Sq<|Wb<|Sr<|Bi fun E7 H8=>Yo (Ix ke90 (Bc Z0) H8 r)<|Yo (Le kk189 (Bc Z0) H8 r)<|Fo (Al kz189 r) fun B9=>Fu (Sb 0 kk189 r (Cp r) r)<|Nx<|Sq<|Jv [1,2,6,9,10,11,12] (fun T=>[(25,.bool T)]) r1 (Rg<|Yo (Fb zdB r)<|Yo (Lb 0 kk9 r)<|Qs 3 r<|It (fun H12=>Yg (gdA (zd H12)) (Fb zfK r)<|Yg (gdA (zd H12)) (Lb 0 kk3 r)<|Qg 2 (zd H12) r r<|Yo (Pt H12 r)<|Nl<|Bg () [0,0]) fun H12=>Of 4 (zt H12) r r<|Yo (Pf H12 r)<|Nl<|Bg () [0,0]) fun T10=>Ne<|Wc r (fun H13=>Sr<|Yo (Lb 0 kk189 r)<|Fu (Sb 1 kk189 r (Cp r) r)<|Qs 1 r<|Nx<|Wr<|Br<|Tr<|Er<|Br<|Jd<|Tr<|Rf () [] (RV.cell 1 r r kk189 r (Rt r Rz))) fun H13=>?_
   exact Sk<|Bn<|Ne<|Rg<|Qs 2 r<|Nl<|Lg () [1]
  exact Wx<|Tx<|Ex<|Be<|Jg () [0]
 exact Ne<|Sr<|Yo (Bd kp189 kz189 (Pz) r)<|Fu (Sb 0 kk189 r (Cp r) r)<|Qs 1 r<|Nx<|Wr<|Rf () [] (RV.cell 0 r r kk189 r (Rt r Rz))
noncomputable def zeu (key:List UInt8) (from_:List UInt8) (to:List UInt8):Option Bool:=
 (if !(sLt key from_) then (if decide (to=([])) then (some true)
 else (some (sLt key to)))
 else (some false)).bind (fun (T1:Bool)=>
 some T1)
theorem zn2 {key:List UInt8} {from_:List UInt8} {to:List UInt8} :Cn Tryz.prog 105 [strV key,strV from_,strV to] [] [] (zeu key from_ to) (fun r (_:Unit)=>.bool r) fun _ _=>[]:=by
 unfold zeu
 refine Ci Tryz.func105 r r ?_
 rintro w S -
 refine Sr<|Qs 1 r<|Nx<|Sq<|Jv [] (fun T=>[(6,.bool T)]) r1 (?_) fun T1=>?_
 ·exact Rg<|Qs 4 r<|It (fun H3=>Qg 3 (zd H3) r r<|It (fun H4=>Of 3 (zl H4) r r<|Yg (gdA (zd H3)) (Pt H4 r)<|Yo (Pt H3 r)<|Qs 1 r<|Nl<|Bg () []) fun H4=>Qg 3 (za H4) r r<|Yg (gdA (zd H3)) (Pf H4 r)<|Yo (Pt H3 r)<|Qs 1 r<|Nl<|Bg () []) fun H3=>Of 3 (zt H3) r r<|Ou 3 r r<|Of 1 (zt H3) r r<|Yo (Pf H3 r)<|Qs 1 r<|Nl<|Bg () []
 exact Ne<|Wr<|Re () []
noncomputable def zeO (m:List KV) (from_:List UInt8) (to:List UInt8):Option (List KV):=
 bindC (loopO (fun (S1:Int × List KV)=>if decide (S1.1<(m.length:Int)) then ((idx m S1.1).bind fun E6=>
 (zeu E6.Key from_ to).bind fun R9=>
 bindC (if R9=true then ((app 32 S1.2 ([E6])).bind fun E17=>
 some (.go E17))
 else (some (.go S1.2)))
 (fun (T12:List KV)=>some (.go (IntKind.i64.wrap (S1.1+1),T12))))
 else (some (.done (.go S1.2))))
 ((0:Int),([]:List KV)))
 (fun (T3:List KV)=>some T3)
theorem zmK {m:List KV} {from_:List UInt8} {to:List UInt8} {U0:Value} :Cn Tryz.prog 57 [U0,strV from_,strV to] [] [(U0,lc m)] (zeO m from_ to) (fun _ (X:Value)=>X) fun r X=>[.own X (lc r)]:=by
 unfold zeO
 refine Ci Tryz.func57 r r ?_
 rintro w S ⟨Z0,-⟩
 refine Sr<|Qs 1 r<|Nx<|Sr<|Qs 1 r<|Nx<|Sq<|Sr<|Qs 1 r<|Yo (Ln ke58 (Bc Z0) r)<|Qs 1 r<|Nx<|Jn Value [] [] (fun _ X=>[(7,X)]) (fun T X=>[.own X (lc T)]) r2 r2 (?_) fun T3 X4=>?_
 ·refine Wb<|Nw 2<|Lp Value [1,2,10,11] [] (fun T X=>[(7,X),(12,iv T.1)]) (fun T X=>[.own X (lc T.2)]) (.slice none 0 0) [0] r2 r2 fun S1 X2=>Sr<|Qs 1 r<|Nx<|Sq<|Wc r (fun H5=>?_) fun H5=>?_
  ·refine Sn<|Sq<|Wb<|Sr<|Bi fun E6 H7=>Yo (Ix ke58 (Bc Z0) H7 r)<|Yo (Le kk78 (Bc Z0) H7 r)<|Fo (Al kz78 r) fun B8=>Fu (Sb 0 kk78 r (Cp r) r)<|Nx<|Sr<|Yo (Fb zow r)<|Yo (Lb 0 kk9 r)<|Qs 2 r<|Bi fun R9 H10=>Fo (Cl [] zn2 H10 r r1) fun _=>Nx<|Jn Value [1,2,10,11,12] [] (fun _ X=>[(7,X)]) (fun T X=>[.own X (lc T)]) r2 r2 (Wc r (fun H14=>Rg<|Qs 1 r<|Yo (Lb 0 kk78 r)<|Fo (Bs [E6] ke58 kz78) fun B15=>Bi fun E17 H18=>Fo (Ap [2] H18 ke58 kz78 r (Oc 0 r)) fun V16=>Qs 1 r<|Nl<|Jg V16 [0]) fun H14=>Sk<|Jg X2 [1]) fun T12 X13=>?_
   exact Bn<|Ne<|Rg<|Qs 2 r<|Nl<|Lg X13 [0]
  exact Wx<|Tx<|Ex<|Be<|Jg X2 [0]
 exact Ne<|Sr<|Qs 2 r<|Nx<|Wr<|Re X4 [0]
noncomputable def zbn (s:List Int) (v:Int):Option Int:=
 bindC (loopO (fun (S1:Int)=>if decide (S1<(s.length:Int)) then ((idx s S1).bind fun E6=>
 if decide (v=E6) then (some (.done (.done S1)))
 else (some (.go (IntKind.i64.wrap (S1+1)))))
 else (some (.done (.go ()))))
 (0:Int))
 (fun (T3:Unit)=>some (-1:Int))
theorem zgd {s:List Int} {v:Int} {U0:Value} :Cn Tryz.prog 61 [U0,iv v] [] [(U0,lc s)] (zbn s v) (fun r (_:Unit)=>iv r) fun _ _=>[]:=by
 unfold zbn
 refine Ci Tryz.func61 r r ?_
 rintro w S ⟨Z0,-⟩
 refine Sr<|Qs 1 r<|Nx<|Sq<|Sr<|Qs 1 r<|Yo (Ln ke53 (Bc Z0) r)<|Qs 1 r<|Nx<|Ju [] (fun _=>[]) r1 (?_) fun T3=>?_
 ·exact Wb<|Lu [0,1,7] (fun T=>[(8,iv T)]) r1 fun S1=>Sr<|Qs 1 r<|Nx<|Sq<|Wc r (fun H5=>Sn<|Sq<|Wb<|Sr<|Qs 2 r<|Nx<|Sr<|Qs 3 r<|Bi fun E6 H7=>Yo (Ix ke53 (Bc Z0) H7 r)<|Yo (Le kk3 (Bc Z0) H7 r)<|Qs 1 r<|Nx<|Wc r (fun H8=>Sr<|Qs 2 r<|Nx<|Wr<|Br<|Tr<|Er<|Br<|Jd<|Tr<|Re () []) fun H8=>Sk<|Bn<|Ne<|Rg<|Qs 2 r<|Nl<|Lg () []) fun H5=>Wx<|Tx<|Ex<|Be<|Jg () []
 exact Ne<|Sr<|Qs 1 r<|Nx<|Wr<|Re () []
noncomputable def zb9 (s:List Int) (v:Int):Option Bool:=
 (zbn s v).bind fun R1=>
 some (decide (R1≥0))
theorem zhN {s:List Int} {v:Int} {U0:Value} :Cn Tryz.prog 108 [U0,iv v] [] [(U0,lc s)] (zb9 s v) (fun r (_:Unit)=>.bool r) fun _ _=>[]:=by
 unfold zb9
 refine Ci Tryz.func108 r r ?_
 rintro w S ⟨Z0,-⟩
 exact Sr<|Qs 1 r<|Nx<|Sr<|Qs 2 r<|Bi fun R1 H2=>Fo (Cl [] zgd H2 r r1 ⟨(Bc Z0),⟨⟩⟩) fun _=>Qs 2 r<|Nx<|Wr<|Re () []
noncomputable def zcm (s:List Int) (i:Int) (j:Int):Option (List Int):=
 (piece s i j).bind fun E1=>
 if decide (i=j) then (some s)
 else ((piece s 0 i).bind fun E5=>
 (piece s j (s.length:Int)).bind fun E7=>
 some (E5++E7))
theorem ziN {s:List Int} {i:Int} {j:Int} {U0:Value} :Cn Tryz.prog 62 [U0,iv i,iv j] [.own U0 (lc s)] [] (zcm s i j) (fun _ (X:Value)=>X) fun r X=>[.own X (lc r)]:=by
 unfold zcm
 refine Ci Tryz.func62 r r ?_
 rintro w S -
 refine Sr<|Qs 1 r<|Nx<|Sr<|Qs 4 r<|Yo (Ln ke53 (Oc 0 r) r)<|Bi fun E1 H2=>TO.fact (Can.cap (Can.own 0 r)) fun H3=>Yo (Y.subs3 H2 ke53 (Oc 0 r) r r r r)<|Nx<|Sq<|Sr<|Qs 3 r<|Nx<|Wc r (fun H4=>Sr<|Qs 2 r<|Nx<|Wr<|Tr<|Re U0 [0]) fun H4=>Sn<|Sr<|Qs 1 r<|Yo (Ln ke53 (Oc 0 r) r)<|Qs 1 r<|Nx<|Sq<|Wi fun E5 H6=>Wi fun E7 H8=>Jw Unit [7] [] (fun _=>[(0,delV U0 (E5++E7).length)]) (fun _=>[.own (delV U0 (E5++E7).length) (lc (E5++E7))]) r1 r1 (?_) fun X10=>?_
 ·exact Dr [] r hMix<|Aq [0,1,3,4] [] r<|A2 2 5 (Xy [] r (Y.subs H6 ke53 (Oc 0 r) r r ⟨_,r⟩)<|A1 5<|Xy [] r (Y.subs H8 ke53 (Oc 0 r) r ⟨_,r⟩ r)<|A1 6<|Xe [] r (Ef.del (α:=Int) (is':=[]) [0] H2 H6 H8 ke53 r r r r) fun _=>Aq [7] [] r<|Az<|Bg () [0])<|Xy [] r (Y.subs H8 ke53 (Oc 0 r) r ⟨_,r⟩ r)<|A1 2<|Xy [] r (Y.subs H6 ke53 (Oc 0 r) r r ⟨_,r⟩)<|A1 6<|Xe [] r (Ef.del (α:=Int) (is':=[]) [0] H2 H6 H8 ke53 r r r r) fun _=>Aq [7] [] r<|Az<|Bg () [0]
 exact Ne<|Sr<|Qs 2 r<|Yo (Ln ke53 (Oc 0 r) r)<|Qs 1 r<|Yo (Y.tail (hi:=s.length) H3 (zgA H2 H6 H8) ke53 r r r)<|Fu (Ef.clearTail (k:=0) H3 (zgA H2 H6 H8) ke53 kz3 r r r r)<|Nx<|Sr<|Qs 2 r<|Nx<|Wr<|Re (delV U0 (E5++E7).length) [0]
noncomputable def zbE (el_:List STen) (e:Int):Option (List Ent):=
 (idx el_ e).bind fun E1=>
 (app 24 ([E1.Eng.Mem]) E1.Eng.Tables).bind fun E14=>
 (zb1 E14).bind fun R16=>
 some R16
theorem zfo {el_:List STen} {e:Int} {U0:Value} :Cn Tryz.prog 107 [elP U0 (e.toNat*7+3)] [] [(U0,lc el_)] (zbE el_ e) (fun _ (X:Value)=>X) fun r X=>[.own X (lc r)]:=by
 unfold zbE
 refine Ci Tryz.func107 r r ?_
 rintro w S ⟨Z0,-⟩
 refine Wi fun E1 H2=>Sr<|Qs 1 r<|Nx<|Sq<|Dr [] r hMix<|Aq [0] [] r<|Ay 1 [] r (Nc (Bc Z0) H2 r)<|Ay 2 [] r (Fe zb6 (Bc Z0) H2 r)<|?_
 have Q3:Base w S (elv w U0 (e.toNat*7+3)) (lc E1.Eng.Mem):=Base.el Z0 (zz H2).2.2 r r
 refine Ay 3 [] r (Lz kk90 Z0 H2 r)<|Aq [5] [] r<|Ay 6 [] r (Nc (Bc Z0) H2 r)<|Ay 7 [] r (Fe zbl (Bc Z0) H2 r)<|?_
 have Q7:Base w S (elv w U0 (e.toNat*7+4)) (lc E1.Eng.Tables):=Base.el Z0 (zz H2).2.2 r r
 refine Ay 8 [] r (Lz kk91 Z0 H2 r)<|A1 4<|Xe [] r (Bk [.raw (elv w U0 (e.toNat*7+3))] ke91 kz90 r (Qc (Cb Q3)<|Qz)) fun B9=>TA.conv (is':=[.own (.slice (some ⟨B9,0,none⟩) 1 1) (lc ([Sv.mk (elv w U0 (e.toNat*7+3)) (Base.oneCell Q3)]:List Sv))]) (fun _ h_=>h_)<|Ai fun E14 H15=>?_
 have ⟨W11,Q12,Q13⟩:=Base.rows (fun _=>r) Q7
 exact A1 9<|Xe [] r (Ap [0] (zsf H15 (Bases.one Q3).length Q12.length) ke91 kz90 r (Bc Q13)) fun V10=>Ai fun R16 H17=>A1 10<|Xe [] r (Cl [] zgN H17 r r1 ⟨(Can.rows (fun _=>rfl) 0 rfl (Bases.app H15 (Bases.one Q3) Q12)),⟨⟩⟩) fun Y18=>Aq [11] [] r<|Az<|Ne<|Wr<|Re Y18 [0]
noncomputable def zby (tl_:List STen) (t:Int):Option (List KV):=
 (idx tl_ t).bind fun E1=>
 (zbE tl_ t).bind fun R3=>
 (zeR R3 E1.Eng.Seq).bind fun R6=>
 some R6
theorem zd8 {tl_:List STen} {t:Int} {U0:Value} :Cn Tryz.prog 58 [elP U0 (t.toNat*7+0)] [] [(U0,lc tl_)] (zby tl_ t) (fun _ (X:Value)=>X) fun r X=>[.own X (lc r)]:=by
 unfold zby
 refine Ci Tryz.func58 r r ?_
 rintro w S ⟨Z0,-⟩
 exact Wi fun E1 H2=>Sr<|Qs 1 r<|Nx<|Sq<|Dr [] r hMix<|Aq [0] [] r<|Ay 1 [] r (Nc (Bc Z0) H2 r)<|Ay 2 [] r (Fe zbh (Bc Z0) H2 r)<|Aq [4] [] r<|Ay 5 [] r (Nc (Bc Z0) H2 r)<|Ay 6 [] r (Fe zbh (Bc Z0) H2 r)<|Ay 7 [] r (Fe zcA (Bc Z0) H2 r)<|Ay 8 [] r (Le kk3 (Bc Z0) H2 r)<|Ai fun R3 H4=>A1 3<|Xe [] r (Cl [] zfo H4 r r1 ⟨(Bc Z0),⟨⟩⟩) fun Y5=>Ai fun R6 H7=>A1 9<|Xe [] r (Cl [] zmP H7 r r1 ⟨(Oc 0 r),⟨⟩⟩) fun Y8=>Aq [10] [] r<|Az<|Ne<|Wr<|Re Y8 [0]
noncomputable def zbg (s:Store) (t:Int) (c:Call):Option (Reply × Store):=
 (idx s.Tens t).bind fun E1=>
 if decide ((s.Hist.length:Int)≥120) then ((zbq 4).bind fun R7=>
 some (R7,s))
 else ((zcx c.Ops).bind fun R10=>
 if !R10 then ((zbq 1).bind fun R14=>
 some (R14,s))
 else ((zby s.Tens t).bind fun R17=>
 (zeN R17 c.Ops).bind fun R20=>
 (zd3 R20).bind fun R23=>
 (zeQ s.Shares E1.Id).bind fun R26=>
 if decide (R23>R26) then ((zbq 3).bind fun R30=>
 some (R30,s))
 else ((zd4 E1.Eng).bind fun R34=>
 (zcd s E1.Id).bind fun R44=>
 bindC (if decide ((R44.length:Int)≥6) then ((zbT (⟨E1.Id,E1.Epoch,E1.Base,R34⟩:STen)).bind fun R50=>
 (zbV (⟨R50.2.Id,R50.2.Epoch,R50.2.Base,⟨R50.2.Eng.Mem,R50.2.Eng.Tables,R50.2.Eng.Seq,R34.Snaps⟩⟩:STen)).bind fun R53=>
 some (.go (R53.2.Id,R53.2.Epoch,R53.2.Eng.Seq,R53.2.Eng.Seq,R50.2.Eng.Mem,R53.2.Eng.Tables)))
 else (some (.go (E1.Id,E1.Epoch,E1.Base,R34.Seq,R34.Mem,R34.Tables))))
 (fun (T47:Int × Int × Int × Int × List Ent × List (List Ent))=>(zbH (⟨T47.1,T47.2.1,T47.2.2.1,⟨T47.2.2.2.2.1,T47.2.2.2.2.2,T47.2.2.2.1,R34.Snaps⟩⟩:STen) c.Ops).bind fun R56=>
 (ze9 s.Keys E1.Id).bind fun R59=>
 (zdY R59 s.Boot R56.2.Eng.Seq c.Ops).bind fun R62=>
 (if !R56.1 then (some true)
 else (some (decide (R62=([]))))).bind (fun (T65:Bool)=>
 if T65=true then ((zbq 4).bind fun R69=>
 some (R69,s))
 else (bindC (if decide ((R44.length:Int)≥6) then ((zbx s E1.Id).bind fun R75=>
 some (.go (R75.Secret,R75.Keys.Master,R75.Keys.Wiped,R75.Shares.Size,R75.Boot,R75.Rows)))
 else (some (.go (s.Secret,s.Keys.Master,s.Keys.Wiped,s.Shares.Size,s.Boot,s.Rows))))
 (fun (T72:List UInt8 × List UInt8 × Int × Int × Int × List LogRow)=>(app 48 T72.2.2.2.2.2 ([(⟨R56.2.Id,T72.2.2.2.2.1,R56.2.Eng.Seq,R62,false⟩:LogRow)])).bind fun E83=>
 (app 48 s.Hist ([(⟨R56.2.Id,T72.2.2.2.2.1,R56.2.Eng.Seq,R62,false⟩:LogRow)])).bind fun E91=>
 (idx (s.Tens.set t.toNat (⟨R56.2.Id,R56.2.Epoch,R56.2.Base,⟨R56.2.Eng.Mem,T47.2.2.2.2.2,R56.2.Eng.Seq,R34.Snaps⟩⟩:STen)) t).bind fun E96=>
 some ((⟨0,E96.Eng.Seq,[],[]⟩:Reply),(⟨T72.1,⟨T72.2.1,s.Keys.Slots,T72.2.2.1⟩,⟨T72.2.2.2.1,s.Shares.List⟩,s.Tens.set t.toNat (⟨R56.2.Id,R56.2.Epoch,R56.2.Base,⟨R56.2.Eng.Mem,T47.2.2.2.2.2,R56.2.Eng.Seq,R34.Snaps⟩⟩),E83,E91,T72.2.2.2.2.1⟩:Store)))))))))
theorem zf5 {s:Store} {t:Int} {c:Call} {U0 U1 U2 U3 U4 U6:Value} {U5:Nat} :Cn Tryz.prog 55 [pt U5,elP U2 (t.toNat*7+0),.agg #[iv c.Kind,strV c.Token,iv c.Tenant,iv c.N,strV c.Key,strV c.To,U6]] [.box U5 39 [strV s.Secret,strV s.Keys.Master,U0,iv s.Keys.Wiped,iv s.Shares.Size,U1,U2,U3,U4,iv s.Boot],.own U2 (lc s.Tens),.own U3 (lc s.Rows),.own U4 (lc s.Hist)] [(U0,lc s.Keys.Slots),(U1,lc s.Shares.List),(U6,lc c.Ops)] (zbg s t c) (fun r (X:Value × Value × Value)=>.agg #[iv r.1.Code,iv r.1.N,strV r.1.Text,X.1]) fun r X=>[.box U5 39 [strV r.2.Secret,strV r.2.Keys.Master,U0,iv r.2.Keys.Wiped,iv r.2.Shares.Size,U1,U2,X.2.1,X.2.2,iv r.2.Boot],.own U2 (lc r.2.Tens),.own X.2.1 (lc r.2.Rows),.own X.2.2 (lc r.2.Hist),.own X.1 (lc r.1.List)]:=by
 unfold zbg
 refine Ci Tryz.func55 r r ?_
 rintro w S ⟨Z0,Z1,Z2,-⟩
 refine Wi fun E1 H2=>TW.fact (zgc (Can.own 1 r) H2) fun H3=>Sr<|Fo (Bx r (Ca ⟨Op',Op',Op',Op',Op',Op',Ob Z2,⟨⟩⟩)) fun B4=>Fo (Al kz60 r) fun B5=>Nx<|Sq<|Sr<|Qs 2 r<|Yo (Fb zl2 r)<|Yo (Lb 2 kk37 r)<|Yo (Ln ke37 (Oc 5 r) r)<|Qs 1 r<|Nx<|Wc r (fun H6=>Sr<|Bi fun R7 H8=>Fo (Cl [] zbc H8 r r1) fun Y9=>Fu (Sb 1 kk60 r (Ca ⟨Op',Op',Op',Ow' 0,⟨⟩⟩) r)<|Nx<|Wr<|Tr<|Rf (Y9,U3,U4) [3,3,3,3,0] (RV.cell 1 r r kk60 r Rz)) fun H6=>Sn<|Sq<|Sr<|Yo (Fb zf9 r)<|Yo (Lb 1 kk27 r)<|Bi fun R10 H11=>Fo (Cl [] ze6 H11 r r1 ⟨(Bc Z2),⟨⟩⟩) fun _=>?_
 refine Qs 1 r<|Nx<|Wc r (fun H13=>Sr<|Bi fun R14 H15=>Fo (Cl [] zbc H15 r r1) fun Y16=>Fu (Sb 1 kk60 r (Ca ⟨Op',Op',Op',Ow' 0,⟨⟩⟩) r)<|Nx<|Wr<|Tr<|Rf (Y16,U3,U4) [3,3,3,3,0] (RV.cell 1 r r kk60 r Rz)) fun H13=>Sn<|Sq<|Sq<|Dr [0,0,0,0,0,0] r hMix<|Aq [0] [0,0,0,0,0,0] r<|Ay 2 [0,0,0,0,0,0] r (Fb zf9 r)<|Ay 3 [0,0,0,0,0,0] r (Lb 1 kk27 r)<|Aq [6,7] [0,0,0,0,0,0] r<|Ay 8 [0,0,0,0,0,0] r (Fb zhD r)<|Ay 9 [0,0,0,0,0,0] r (Lb 2 kk35 r)<|Aq [10] [0,0,0,0,0,0] r<|Ay 11 [0,0,0,0,0,0] r (Np H3 r)<|Ay 12 [0,0,0,0,0,0] r (Fp zeS H3 r)<|Ay 13 [0,0,0,0,0,0] r (Le kk3 (Oc 3 r) H2 r)<|Ai fun R17 H18=>?_
 refine A1 1<|Xe [1,1,1,1,1,1] r (Cl [] zd8 H18 r r1 ⟨(Oc 3 r),⟨⟩⟩) fun Y19=>Ai fun R20 H21=>A1 4<|Xe [2,2,2,2,2,2] r (Cl [] zmJ H21 r r1 ⟨(Oc 0 r),(Bc Z2),⟨⟩⟩) fun Y22=>Ai fun R23 H24=>A1 5<|Xe [2,2,2,2,2,2] r (Cl [] ziw H24 r r1 ⟨(Oc 0 r),⟨⟩⟩) fun _=>Ai fun R26 H27=>A1 14<|Xe [2,2,2,2,2,2] r (Cl [] zmO H27 r r1 ⟨(Bc Z1),⟨⟩⟩) fun _=>Aq [15] [2,2,2,2,2,2] r<|Az<|Ne<|Wc r (fun H29=>Sr<|Bi fun R30 H31=>Fo (Cl [] zbc H31 r r1) fun Y32=>Fu (Sb 3 kk60 r (Ca ⟨Op',Op',Op',Ow' 0,⟨⟩⟩) r)<|Nx<|Wr<|Tr<|Rf (Y32,U3,U4) [5,5,5,5,0] (RV.cell 3 r r kk60 r Rz)) fun H29=>?_
 refine Sn<|Sq<|Gw (X:=Value × Value × Value) (Ho 3 [5] H2 r r1) fun X33=>Wi fun R34 H35=>Jw (Nat × Value × Value × Value) [0,1,5,6] [8,7,6,6,6] (fun X=>[(7,pt X.1)]) (fun X=>[.box X.1 95 [iv E1.Id,iv E1.Epoch,iv E1.Base,X.2.1,X.2.2.1,iv R34.Seq,X.2.2.2],.own U2 (lc s.Tens),.own X.2.1 (lc R34.Mem),.own X.2.2.1 (lc R34.Tables),.own X.2.2.2 (lc R34.Snaps)]) r1 r1 (?_) fun X41=>?_
 ·refine Dr [0,0,0,0,0,0,0,0,0,0,0] r hMix<|Aq [0] [0,0,0,0,0,0,0,0,0,0,0] r<|Ay 1 [0,0,0,0,0,0,0,0,0,0,0] r (Np H3 r)<|Ay 2 [0,0,0,0,0,0,0,0,0,0,0] r (Fp zeS H3 r)<|Ay 3 [0,0,0,0,0,0,0,0,0,0,0] r (Lh 0 kk3 H2 r)<|Aq [4] [0,0,0,0,0,0,0,0,0,0,0] r<|Ay 5 [0,0,0,0,0,0,0,0,0,0,0] r (Np H3 r)<|Ay 6 [0,0,0,0,0,0,0,0,0,0,0] r (Fp ziG H3 r)<|Ay 7 [0,0,0,0,0,0,0,0,0,0,0] r (Lh 0 kk3 H2 r)<|Aq [8] [0,0,0,0,0,0,0,0,0,0,0] r<|Ay 9 [0,0,0,0,0,0,0,0,0,0,0] r (Np H3 r)<|Ay 10 [0,0,0,0,0,0,0,0,0,0,0] r (Fp zl5 H3 r)<|Ay 11 [0,0,0,0,0,0,0,0,0,0,0] r (Lh 0 kk3 H2 r)<|Aq [12] [0,0,0,0,0,0,0,0,0,0,0] r<|Ay 13 [0,0,0,0,0,0,0,0,0,0,0] r (Np H3 r)<|Ay 14 [0,0,0,0,0,0,0,0,0,0,0] r (Fp zbh H3 r)<|Ay 15 [0,0,0,0,0,0,0,0,0,0,0] r (Lh 0 kk93 H2 r)<|A2 16 18 (?_)<|?_
  ·refine Xe [3,3,3,3,3,3,3,3,3,3,3] r (Cl [] zfb H35 r r1 ⟨(Oc 1 r),(Oc 2 r),(Oc 3 r),⟨⟩⟩) fun Y42=>A2 17 18 (?_)<|?_
   ·exact Xy [3,3,3,3,3,3,3,3,3,3,3] r (Bd kp95 kz95 (Pc r (Cp r)<|Pc r (Cp r)<|Pc r (Cp r)<|Pc r (Ca ⟨Ow' 0,Ow' 1,Op',Ow' 2,⟨⟩⟩)<|Pz) r)<|A1 18<|Xe [4,4,4,4,4,4,4,4,4,4,4] r (Al kz95 r) fun B45=>A1 19<|Xu [4,4,4,4,4,4,4,4,4,4,4] r (Sb 0 kk95 r (Ca ⟨Op',Op',Op',Ow' 1,Ow' 2,Op',Ow' 3,⟨⟩⟩) r)<|Az<|Ke (Hs [4,4,4,4] H2 r (Ck (Ck (Ck (Cf (Cf (Ck (Cf Cz))))))))<|Bg (B45,Y42.1,Y42.2.1,Y42.2.2) [9,8,7,7,7,1,0,0,0,0]
   exact Xe [4,4,4,4,4,4,4,4,4,4,4] r (Al kz95 r) fun B44=>A1 17<|Xy [4,4,4,4,4,4,4,4,4,4,4] r (Bd kp95 kz95 (Pc r (Cp r)<|Pc r (Cp r)<|Pc r (Cp r)<|Pc r (Ca ⟨Ow' 1,Ow' 2,Op',Ow' 3,⟨⟩⟩)<|Pz) r)<|A1 19<|Xu [4,4,4,4,4,4,4,4,4,4,4] r (Sb 0 kk95 r (Ca ⟨Op',Op',Op',Ow' 1,Ow' 2,Op',Ow' 3,⟨⟩⟩) r)<|Az<|Ke (Hs [4,4,4,4] H2 r (Ck (Ck (Ck (Cf (Cf (Ck (Cf Cz))))))))<|Bg (B44,Y42.1,Y42.2.1,Y42.2.2) [9,8,7,7,7,1,0,0,0,0]
  exact Xe [1,1,1,1,1,1,1,1,1,1,1] r (Al kz95 r) fun B43=>A1 16<|Xe [4,4,4,4,4,4,4,4,4,4,4] r (Cl [] zfb H35 r r1 ⟨(Oc 2 r),(Oc 3 r),(Oc 4 r),⟨⟩⟩) fun Y44=>A1 17<|Xy [4,4,4,4,4,4,4,4,4,4,4] r (Bd kp95 kz95 (Pc r (Cp r)<|Pc r (Cp r)<|Pc r (Cp r)<|Pc r (Ca ⟨Ow' 0,Ow' 1,Op',Ow' 2,⟨⟩⟩)<|Pz) r)<|A1 19<|Xu [4,4,4,4,4,4,4,4,4,4,4] r (Sb 3 kk95 r (Ca ⟨Op',Op',Op',Ow' 0,Ow' 1,Op',Ow' 2,⟨⟩⟩) r)<|Az<|Ke (Hs [4,4,4,4] H2 r (Ck (Ck (Ck (Cf (Cf (Ck (Cf Cz))))))))<|Bg (B43,Y44.1,Y44.2.1,Y44.2.2) [9,8,7,7,7,4,0,0,0,0]
 refine Ne<|Sr<|Qs 2 r<|Yo (Np H3 r)<|Yo (Fp zeS H3 r)<|Yo (Le kk3 (Oc 6 r) H2 r)<|Bi fun R44 H45=>Fo (Cl [0] zdr H45 r r1 ⟨(Oc 2 r),⟨⟩⟩) fun Y46=>Yo (Ln ke37 (Oc 1 r) r)<|Qs 2 r<|Nx<|Sq<|Sr<|Qs 1 r<|Nx<|Jn (Value × Value) [0,1,5,6,7,8] [0,1,1,4,1,1,4] (fun _ _=>[]) (fun T X=>[.box X41.1 95 [iv T.1,iv T.2.1,iv T.2.2.1,X.1,X.2,iv T.2.2.2.1,X41.2.2.2],.own X.1 (lc T.2.2.2.2.1),.own X.2 (lc T.2.2.2.2.2)]) r2 r2 (?_) fun T47 X48=>?_
 ·refine Wc r (fun H49=>?_) fun H49=>?_
  ·exact Sr<|Yo (Fb zbh r)<|Bi fun R50 H51=>Fo (Cl [6,7,7] zg4 H51 r r1) fun Y52=>Nx<|Sr<|Yo (Fb zbh r)<|Bi fun R53 H54=>Fo (Cl [0,1] zg6 H54 r r1 ⟨(Oc 8 r),⟨⟩⟩) fun Y55=>Nx<|Rg<|Yo (Fb zbh r)<|Yo (Fb zcA r)<|Yo (Lb 0 kk3 r)<|Yo (Fb zl5 r)<|Fu (Sb 0 kk3 r (Cp r) r)<|Nl<|Jg (Y52.1,Y55) [3,4,4,6,4,4,4,0,1,0]
  exact Sk<|Jg (X41.2.1,X41.2.2.1) [0,1,1,4,1,1,4,1,1,1]
 refine Ne<|Sr<|Yo (Fb zbh r)<|Yo (Fb zf9 r)<|Yo (Lb 1 kk27 r)<|Bi fun R56 H57=>Fo (Cl [7,7] zgL H57 r r1 ⟨(Oc 7 r),(Bc Z2),⟨⟩⟩) fun Y58=>Qs 1 r<|Nx<|Sq<|Dr [0,0,0,0,0,0,0,0,0,0] r hMix<|Aq [0,1] [0,0,0,0,0,0,0,0,0,0] r<|Ay 2 [0,0,0,0,0,0,0,0,0,0] r (Fb zhC r)<|Ay 3 [0,0,0,0,0,0,0,0,0,0] r (Lb 2 kk32 r)<|Aq [4] [0,0,0,0,0,0,0,0,0,0] r<|Ay 5 [0,0,0,0,0,0,0,0,0,0] r (Np H3 r)<|Ay 6 [0,0,0,0,0,0,0,0,0,0] r (Fp zeS H3 r)<|Ay 7 [0,0,0,0,0,0,0,0,0,0] r (Le kk3 (Oc 5 r) H2 r)<|Aq [9,10] [0,0,0,0,0,0,0,0,0,0] r<|Ay 11 [0,0,0,0,0,0,0,0,0,0] r (Fb zgC r)<|Ay 12 [0,0,0,0,0,0,0,0,0,0] r (Lb 2 kk3 r)<|Ay 13 [0,0,0,0,0,0,0,0,0,0] r (Fb zbh r)<|Ay 14 [0,0,0,0,0,0,0,0,0,0] r (Fb zcA r)<|Ay 15 [0,0,0,0,0,0,0,0,0,0] r (Lb 0 kk3 r)<|Ay 16 [0,0,0,0,0,0,0,0,0,0] r (Fb zf9 r)<|Ay 17 [0,0,0,0,0,0,0,0,0,0] r (Lb 3 kk27 r)<|Ai fun R59 H60=>?_
 refine A1 8<|Xe [0,0,0,0,0,0,0,0,0,0] r (Cl [] zjW H60 r r1 ⟨(Bc Z0),⟨⟩⟩) fun _=>Ai fun R62 H63=>A1 18<|Xe [0,0,0,0,0,0,0,0,0,0] r (Cl [] zlm H63 r r1 ⟨(Bc Z2),⟨⟩⟩) fun _=>Aq [19] [0,0,0,0,0,0,0,0,0,0] r<|Az<|Ne<|Sq<|Sq<|Jb Unit [0,1,6,7,8,10] [2,3,0,2,2,2,0,2,1] (fun T _=>[(104,.bool T)]) (fun _ _=>[]) r2 r2 (Rg<|Qs 3 r<|It (fun H67=>Of 2 (zl H67) r r<|Yo (Pt H67 r)<|Nl<|Bg () [2,3,0,2,2,2,0,2,1]) fun H67=>Qg 2 (za H67) r r<|Yo (Pf H67 r)<|Nl<|Bg () [2,3,0,2,2,2,0,2,1]) fun T65 X66=>Ne<|Wc r (fun H68=>Sr<|Bi fun R69 H70=>Fo (Cl [] zbc H70 r r1) fun Y71=>Fu (Sb 2 kk60 r (Ca ⟨Op',Op',Op',Ow' 0,⟨⟩⟩) r)<|Nx<|Wr<|Tr<|Rf (Y71,U3,U4) [1,3,3,3,0] (RV.cell 2 r r kk60 r Rz)) fun H68=>?_
 refine Sn<|Sq<|Sr<|Qs 1 r<|Nx<|Jn Value [0,1,6,7,10] [1,1,1,2,2,2,2] (fun _ _=>[]) (fun T X=>[.box U5 39 [strV T.1,strV T.2.1,U0,iv T.2.2.1,iv T.2.2.2.1,U1,U2,X,U4,iv T.2.2.2.2.1],.own X (lc T.2.2.2.2.2)]) r2 r2 (Wc r (fun H74=>Rg<|Qs 2 r<|Yo (Np H3 r)<|Yo (Fp zeS H3 r)<|Yo (Le kk3 (Oc 3 r) H2 r)<|Bi fun R75 H76=>Fo (Cl [0,3] zd1 H76 r r1) fun Y77=>Nl<|Jg Y77 [2,2,2,2,2,2,2,0,0]) fun H74=>Sk<|Jg U3 [1,1,1,2,2,2,2,0,0]) fun T72 X73=>Ne<|Sr<|Qs 1 r<|Yo (Lb 1 kk95 r)<|Yo (Np H3 r)<|Gt (X:=Value × Value × Value) (Ho 3 [2] H2 r r1) fun X78=>?_
 refine Fu (Sh 0 [ic R56.2.Id,ic R56.2.Epoch,ic R56.2.Base,.raw Y58,.raw X48.2,ic R56.2.Eng.Seq,.raw X41.2.2.2] kk95 H2 r (Ca ⟨Op',Op',Op',Ow' 7,Ow' 8,Op',Ow' 9,⟨⟩⟩) r)<|Nx<|Sq<|Dr [0,0,0,0,0,0,0,0,0,0,0,0] r hMix<|Aq [0] [0,0,0,0,0,0,0,0,0,0,0,0] r<|Ay 1 [0,0,0,0,0,0,0,0,0,0,0,0] r (Np H3 r)<|Ay 2 [0,0,0,0,0,0,0,0,0,0,0,0] r (Fp zeS H3 r)<|Ay 3 [0,0,0,0,0,0,0,0,0,0,0,0] r (Lh 0 kk3 H2 r)<|Aq [4,5] [0,0,0,0,0,0,0,0,0,0,0,0] r<|Ay 6 [0,0,0,0,0,0,0,0,0,0,0,0] r (Fb zgC r)<|Ay 7 [0,0,0,0,0,0,0,0,0,0,0,0] r (Lb 10 kk3 r)<|Aq [8] [0,0,0,0,0,0,0,0,0,0,0,0] r<|Ay 9 [0,0,0,0,0,0,0,0,0,0,0,0] r (Np H3 r)<|Ay 10 [0,0,0,0,0,0,0,0,0,0,0,0] r (Fp zbh H3 r)<|Ay 11 [0,0,0,0,0,0,0,0,0,0,0,0] r (Fp zcA H3 r)<|Ay 12 [0,0,0,0,0,0,0,0,0,0,0,0] r (Lh 0 kk3 H2 r)<|Aq [13] [0,0,0,0,0,0,0,0,0,0,0,0] r<|Ay 14 [0,0,0,0,0,0,0,0,0,0,0,0] r (Bd kp106 kz106 (Pc r (Cp r)<|Pc r (Cp r)<|Pc r (Cp r)<|Pc r (Cp r)<|Pz) r)<|A1 15<|Xe [1,1,1,1,1,1,1,1,1,1,1,1] r (Al kz106 r) fun B79=>?_
 refine A1 16<|Xu [1,1,1,1,1,1,1,1,1,1,1,1] r (Sb 0 kk106 r (Cp r) r)<|Az<|Ne<|Sq<|Wi fun E83 H84=>Jw Value [0,1,6,11] [5,0,5] (fun _=>[]) (fun X=>[.box U5 39 [strV T72.1,strV T72.2.1,U0,iv T72.2.2.1,iv T72.2.2.2.1,U1,U2,X,U4,iv T72.2.2.2.2.1],.own U2 (lc (s.Tens.set t.toNat (⟨R56.2.Id,R56.2.Epoch,R56.2.Base,⟨R56.2.Eng.Mem,T47.2.2.2.2.2,R56.2.Eng.Seq,R34.Snaps⟩⟩:STen))),.own X (lc E83)]) r1 r1 (?_) fun X86=>?_
 ·refine Dr [0,0,0,0,0,0,0,0,0,0,0] r hMix<|Aq [0,1,2] [0,0,0,0,0,0,0,0,0,0,0] r<|Ay 3 [0,0,0,0,0,0,0,0,0,0,0] r (Fb zfv r)<|Ay 5 [0,0,0,0,0,0,0,0,0,0,0] r (Lb 0 kk106 r)<|A2 4 6 (?_)<|?_
  ·exact Xy [0,0,0,0,0,0,0,0,0,0,0] r (Lb 11 kk37 r)<|A1 6<|Xe [1,1,1,1,1,1,1,1,1,1,1] r (Bs [(⟨R56.2.Id,T72.2.2.2.2.1,R56.2.Eng.Seq,R62,false⟩:LogRow)] ke37 kz106) fun B88=>A1 7<|Xe [2,2,2,2,2,2,2,2,2,2,2] r (Ap [13] H84 ke37 kz106 r (Oc 0 r)) fun V89=>Aq [8] [2,2,2,2,2,2,2,2,2,2,2] r<|Ay 9 [2,2,2,2,2,2,2,2,2,2,2] r (Fb zfv r)<|A1 10<|Xu [2,2,2,2,2,2,2,2,2,2,2] r (Sb 13 kk37 r (Co 0) r)<|Az<|Ke (Hc [3,9,9,9] (⟨R56.2.Id,R56.2.Epoch,R56.2.Base,⟨R56.2.Eng.Mem,T47.2.2.2.2.2,R56.2.Eng.Seq,R34.Snaps⟩⟩:STen) H2 r (Ck (Ck (Ck (Cf (Cf (Ck (Cf Cz))))))))<|Bg V89 [7,3,7,7,0,0]
  exact Xe [1,1,1,1,1,1,1,1,1,1,1] r (Bs [(⟨R56.2.Id,T72.2.2.2.2.1,R56.2.Eng.Seq,R62,false⟩:LogRow)] ke37 kz106) fun B87=>A1 4<|Xy [1,1,1,1,1,1,1,1,1,1,1] r (Lb 12 kk37 r)<|A1 7<|Xe [2,2,2,2,2,2,2,2,2,2,2] r (Ap [13] H84 ke37 kz106 r (Oc 0 r)) fun V88=>Aq [8] [2,2,2,2,2,2,2,2,2,2,2] r<|Ay 9 [2,2,2,2,2,2,2,2,2,2,2] r (Fb zfv r)<|A1 10<|Xu [2,2,2,2,2,2,2,2,2,2,2] r (Sb 13 kk37 r (Co 0) r)<|Az<|Ke (Hc [3,9,9,9] (⟨R56.2.Id,R56.2.Epoch,R56.2.Base,⟨R56.2.Eng.Mem,T47.2.2.2.2.2,R56.2.Eng.Seq,R34.Snaps⟩⟩:STen) H2 r (Ck (Ck (Ck (Cf (Cf (Ck (Cf Cz))))))))<|Bg V88 [7,3,7,7,0,0]
 refine Ne<|Sq<|Wi fun E91 H92=>Jw Value [1,6] [0,3,3] (fun _=>[]) (fun X=>[.box U5 39 [strV T72.1,strV T72.2.1,U0,iv T72.2.2.1,iv T72.2.2.2.1,U1,U2,X86,X,iv T72.2.2.2.2.1],.own X (lc E91)]) r1 r1 (?_) fun X94=>?_
 ·refine Dr [0,0,2,2] r hMix<|Aq [0,1,2] [0,0,2,2] r<|Ay 3 [0,0,2,2] r (Fb zl2 r)<|Ay 5 [0,0,2,2] r (Lb 1 kk106 r)<|A2 4 6 (?_)<|?_
  ·exact Xy [0,0,2,2] r (Lb 3 kk37 r)<|A1 6<|Xe [1,1,3,3] r (Bs [(⟨R56.2.Id,T72.2.2.2.2.1,R56.2.Eng.Seq,R62,false⟩:LogRow)] ke37 kz106) fun B96=>A1 7<|Xe [2,2,3,3] r (Ap [3] H92 ke37 kz106 r (Oc 0 r)) fun V97=>Aq [8] [2,2,3,3] r<|Ay 9 [2,2,3,3] r (Fb zl2 r)<|A1 10<|Xu [2,2,3,3] r (Sb 4 kk37 r (Co 0) r)<|Az<|Bg V97 [2,4,4,3,0]
  exact Xe [1,1,3,3] r (Bs [(⟨R56.2.Id,T72.2.2.2.2.1,R56.2.Eng.Seq,R62,false⟩:LogRow)] ke37 kz106) fun B95=>A1 4<|Xy [1,1,3,3] r (Lb 4 kk37 r)<|A1 7<|Xe [2,2,3,3] r (Ap [3] H92 ke37 kz106 r (Oc 0 r)) fun V96=>Aq [8] [2,2,3,3] r<|Ay 9 [2,2,3,3] r (Fb zl2 r)<|A1 10<|Xu [2,2,3,3] r (Sb 4 kk37 r (Co 0) r)<|Az<|Bg V96 [2,4,4,3,0]
 exact Ne<|Sr<|Qs 1 r<|Bi fun E96 H97=>Yo (Np H3 r)<|Yo (Fp zbh H3 r)<|Yo (Fp zcA H3 r)<|Yo (Le kk3 (Oc 1 r) H97 r)<|Yo (Bd kp60 kz60 (Pc r (Cp r)<|Pz) r)<|Fu (Sb 0 kk60 r (Cp r) r)<|Nx<|Wr<|Ni 2<|Rf ((.slice none 0 0),X86,X94) [4,2,2,2,0] (RV.cell 1 r r kk60 r Rz)
noncomputable def zbW (el_:List STen) (e:Int) (key:List UInt8) (seq:Int):Option (List UInt8 × Bool):=
 (idx el_ e).bind fun E1=>
 (zbE el_ e).bind fun R3=>
 (zhB R3 key seq).bind fun R6=>
 (if !R6.2 then (some true)
 else (some R6.1.Del)).bind (fun (T10:Bool)=>
 if T10=true then (some ([],false))
 else (some (R6.1.Val,true)))
theorem zg7 {el_:List STen} {e:Int} {key:List UInt8} {seq:Int} {U0:Value} :Cn Tryz.prog 104 [elP U0 (e.toNat*7+3),strV key,iv seq] [] [(U0,lc el_)] (zbW el_ e key seq) (fun r (_:Unit)=>.tuple #[strV r.1,.bool r.2]) fun _ _=>[]:=by
 unfold zbW
 refine Ci Tryz.func104 r r ?_
 rintro w S ⟨Z0,-⟩
 refine Wi fun E1 H2=>Sr<|Qs 2 r<|Nx<|Sr<|Qs 1 r<|Bi fun R3 H4=>Fo (Cl [] zfo H4 r r1 ⟨(Bc Z0),⟨⟩⟩) fun Y5=>Qs 2 r<|Bi fun R6 H7=>Fo (Cl [] zqo H7 r r1 ⟨(Oc 0 r),⟨⟩⟩) fun _=>Qs 3 r<|Fo (Al kz189 r) fun B9=>Fu (Sb 0 kk189 r (Cp r) r)<|Qs 1 r<|Nx<|Sq<|Sq<|Jb Unit [8] [0] (fun T _=>[(23,.bool T)]) (fun _ _=>[]) r2 r2 (Rg<|Qs 3 r<|It (fun H12=>Of 2 (zl H12) r r<|Yo (Pt H12 r)<|Nl<|Bg () [0]) fun H12=>Yg (gdA (za H12)) (Fb zmR r)<|Yg (gdA (za H12)) (Lb 0 kk4 r)<|Yo (Pf H12 r)<|Nl<|Bg () [0]) fun T10 X11=>?_
 exact Ne<|Wc r (fun H13=>Sr<|Qs 2 r<|Nx<|Wr<|Tr<|Re () []) fun H13=>Sn<|Sr<|Yo (Fb zpQ r)<|Yo (Lb 0 kk9 r)<|Qs 2 r<|Nx<|Wr<|Re () []
noncomputable def zbf (tl_:List STen) (t:Int) (key:List UInt8) (seq:Int):Option Reply:=
 (idx tl_ t).bind fun E1=>
 (zbW tl_ t key seq).bind fun R4=>
 if !R4.2 then ((zbq 5).bind fun R8=>
 some R8)
 else (some (⟨0,0,R4.1,[]⟩:Reply))
theorem zep {tl_:List STen} {t:Int} {key:List UInt8} {seq:Int} {U0:Value} :Cn Tryz.prog 56 [elP U0 (t.toNat*7+0),strV key,iv seq] [] [(U0,lc tl_)] (zbf tl_ t key seq) (fun r (X:Value)=>.agg #[iv r.Code,iv r.N,strV r.Text,X]) fun r X=>[.own X (lc r.List)]:=by
 unfold zbf
 refine Ci Tryz.func56 r r ?_
 rintro w S ⟨Z0,-⟩
 exact Wi fun E1 H2=>Sr<|Fo (Al kz60 r) fun B3=>Nx<|Sr<|Qs 1 r<|Yo (Nc (Bc Z0) H2 r)<|Yo (Fe zbh (Bc Z0) H2 r)<|Qs 2 r<|Bi fun R4 H5=>Fo (Cl [] zg7 H5 r r1 ⟨(Bc Z0),⟨⟩⟩) fun _=>Qs 5 r<|Nx<|Sq<|Sr<|Qs 2 r<|Nx<|Wc r (fun H7=>Sr<|Bi fun R8 H9=>Fo (Cl [] zbc H9 r r1) fun Y10=>Fu (Sb 1 kk60 r (Ca ⟨Op',Op',Op',Ow' 0,⟨⟩⟩) r)<|Nx<|Wr<|Tr<|Rf Y10 [0] (RV.cell 1 r r kk60 r Rz)) fun H7=>Sn<|Sr<|Qs 1 r<|Yo (Bd kp60 kz60 (Pc r (Cp r)<|Pz) r)<|Fu (Sb 0 kk60 r (Cp r) r)<|Nx<|Wr<|Ni 2<|Rf (.slice none 0 0) [0] (RV.cell 1 r r kk60 r Rz)
end Go.Proofs.YtfgjhefhlabpkaaGreat
