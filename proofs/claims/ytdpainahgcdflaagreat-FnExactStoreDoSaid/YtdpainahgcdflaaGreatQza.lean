/-
  The plain laws: what the pure functions come to, and the statements. Conditions: none.
-/
import Derived.Test.YtdpainahgcdflaaGreatQ7
import Derived.Test.YtdpainahgcdflaaGreatSx
set_option linter.unusedVariables false
set_option linter.unusedSimpArgs false
set_option linter.defProp false
set_option maxRecDepth 100000
set_option maxHeartbeats 4000000
section
open List renaming mem_cons->An
open Go.Proofs.Tryz renaming prog->Pg
namespace Go.Proofs.YtdpainahgcdflaaGreat
open Go Sl
open Go.ChangeShapes Go.WideShapes Go.ChangeAt Go.RowKit
open Go.ChangeMaps (open_string shut_string)
def own:ownKnob Pg.godebug=none:=by kernel_rfl
def laidOut:laidOutB Pg=true:=by kernel_rfl
set_option maxRecDepth 100000 in
def zlM (D: ∀(aS:Af) (aC:As),Dec.ok aS->Dec.ok aC->zcz aS aC=some true) (os:Os) (G:os.Started) (H:Type) (enc:TypeId × Value->H):
    ReturnsInHanded {} Tryz.checked os 3 .any (Rows.fnExactStoreDoSpec.pre6 enc Pg Tryz.f3 Rows.fnExactStoreDoRow.domain false) (Rows.fnExactStoreDoSpec.post enc Pg Tryz.f3 false true false false):=by
 refine returnsInHanded_of_change (C:=Tryz.checked) own G (by kernel_rfl) Tryz.func3
  (ChangeSpec.witness6 (enc:=enc) (C:=Tryz.checked) false ⟨#[],#[.agg #[strV ([]),strV ([]),.slice none 0 0,.int .i64 (0:Int),.int .i64 (0:Int),.slice none 0 0,.slice none 0 0,.slice none 0 0,.slice none 0 0,.int .i64 (0:Int)],.agg #[.int .i64 (0:Int),strV ([]),.int .i64 (0:Int),.int .i64 (0:Int),strV ([]),strV ([]),.slice none 0 0]],[]⟩ 20 (by kernel_rfl) (by kernel_rfl) (by kernel_rfl) (by kernel_rfl)) ?_
 intro W base args ds gs before F hW hcnd _;have E: ∀(j:Nat) t v,Tryz.f3.params[j]? =some t->args[j]? =some v->Value.okWide Pg W .any base t v:=F;have hW':=hW;obtain ⟨p,q,hA0,hV,rfl,hfz,hnd⟩:=hW;have hA:DataW.TrodAll enc Pg W 0 (λ_=>true) true Tryz.f3.params.toList args.toList ds p:=hA0;rw[Tryz.params3]at hA E;obtain ⟨v0,vs0,d0,ds0,p0,q0,hargs,rfl,rfl,h0,r0⟩:=trodAll_cons hA;obtain ⟨v1,vs1,d1,ds1,p1,q1,rfl,rfl,rfl,h1,r1⟩:=trodAll_cons r0;obtain ⟨rfl,rfl,rfl⟩:=trodAll_nil r1;obtain rfl:args= #[v0,v1]:=by cases args;simp_all
 obtain ⟨rfl,rfl⟩:=trodVars_none hV;have k0:=h0;have lt0: ∀x∈p0,x.block<W.heap.size:=by obtain ⟨m,hm⟩:=k0;exact DataW.trod_lt m _ _ _ hm
 have ow0:=E 0 31 v0 rfl rfl;obtain ⟨a,S0,A,f0⟩:=zuf 20 hs31 h0;obtain ⟨x0,rfl,w0⟩:=Dec.dec (α:=Af) _ f0;obtain ⟨V0_0,y0_0,z0_0,V,_,A⟩:=Rds.cons_inv A;obtain ⟨V0_1,y0_1,z0_1,Z,_,A⟩:=Rds.cons_inv A;obtain ⟨J,y0_2,z0_2,b0_2,_,A⟩:=Rds.cons_inv A;obtain ⟨V0_3,y0_3,z0_3,b0_3,_,A⟩:=Rds.cons_inv A;obtain ⟨V0_4,y0_4,z0_4,b0_4,_,A⟩:=Rds.cons_inv A;obtain ⟨M,y0_5,z0_5,b0_5,_,A⟩:=Rds.cons_inv A;obtain ⟨N,y0_6,z0_6,b0_6,_,A⟩:=Rds.cons_inv A;obtain ⟨O,y0_7,z0_7,b0_7,_,A⟩:=Rds.cons_inv A;obtain ⟨T,y0_8,z0_8,b0_8,_,A⟩:=Rds.cons_inv A;obtain ⟨V0_9,y0_9,z0_9,b0_9,_,A⟩:=Rds.cons_inv A;obtain rfl:=Rds.nil_inv A;subst z0_9;subst z0_8;subst z0_7;subst z0_6;subst z0_5;subst z0_4;subst z0_3;subst z0_2;subst z0_1;obtain rfl:=zsP hu31 ow0 z0_0;obtain rfl:=Base.val V rfl;obtain rfl:=Base.val Z rfl;obtain rfl:=Base.val b0_3 rfl;obtain rfl:=Base.val b0_4 rfl;obtain rfl:=Base.val b0_9 rfl;have k1:=h1;have lt1: ∀x∈p1,x.block<W.heap.size:=by obtain ⟨m,hm⟩:=k1;exact DataW.trod_lt m _ _ _ hm
 have ow1:=E 1 34 v1 rfl rfl;obtain ⟨b,c,B,f1⟩:=zuf 20 hs34 h1;obtain ⟨x1,rfl,w1⟩:=Dec.dec (α:=As) _ f1;obtain ⟨V1_0,y1_0,z1_0,b1_0,_,B⟩:=Rds.cons_inv B;obtain ⟨V1_1,y1_1,z1_1,b1_1,_,B⟩:=Rds.cons_inv B;obtain ⟨V1_2,y1_2,z1_2,b1_2,_,B⟩:=Rds.cons_inv B;obtain ⟨V1_3,y1_3,z1_3,b1_3,_,B⟩:=Rds.cons_inv B;obtain ⟨V1_4,y1_4,z1_4,b1_4,_,B⟩:=Rds.cons_inv B;obtain ⟨V1_5,y1_5,z1_5,b1_5,_,B⟩:=Rds.cons_inv B;obtain ⟨U,y1_6,z1_6,b1_6,_,B⟩:=Rds.cons_inv B;obtain rfl:=Rds.nil_inv B;subst z1_6;subst z1_5;subst z1_4;subst z1_3;subst z1_2;subst z1_1;obtain rfl:=zsP hu34 ow1 z1_0;obtain rfl:=Base.val b1_0 rfl;obtain rfl:=Base.val b1_1 rfl;obtain rfl:=Base.val b1_2 rfl;obtain rfl:=Base.val b1_3 rfl;obtain rfl:=Base.val b1_4 rfl;obtain rfl:=Base.val b1_5 rfl;clear hA0 F;have hb_:=Con.below (W:=W) ((zl3 (U0:=J) (U1:=M) (U2:=N) (U3:=O) (U4:=T) (U5:=U)).2 true (D x0 x1 w0 w1)) (by
  intro p D;rcases An.1 D with rfl | D
  ·exact b0_2
  rcases An.1 D with rfl | D
  ·exact b0_5
  rcases An.1 D with rfl | D
  ·exact b0_6
  rcases An.1 D with rfl | D
  ·exact b0_7
  rcases An.1 D with rfl | D
  ·exact b0_8
  rcases An.1 D with rfl | D
  ·exact b1_6
  cases D)
 refine hb_.mono λe W' ⟨he,I⟩=>?_;subst he;exact ⟨_,rfl,_,_,_,[],_,[],hW',trodAll_mk1 (shut_bool kb4 _),(trodAll_cons_mk (Below.trod laidOut (by kernel_rfl) (of_decide_eq_true (by kernel_rfl)) k0 I lt0) (trodAll_cons_mk (Below.trod laidOut (by kernel_rfl) (of_decide_eq_true (by kernel_rfl)) k1 I lt1) trodAll_mk0)),rfl,I.frame _,λh=>by cases h⟩
def tt_ {a b:Bool} (h:a=true) (k:b=true):(a&&b)=true:=by subst h;exact k
noncomputable abbrev jP:Program:=Tryz.pinned.checked.prog
abbrev jc:OpenClaim:=Rows.fnExactStoreDoRow
abbrev js:ChangeSpec:=Rows.fnExactStoreDoSpec
noncomputable abbrev jf:Func:=Tryz.f3
def j1:(jc.wf (OpenSpec.ofChange js)&&laidOutB jP&&mapsRowed jP&&jf.params.all (jP.readableRec ·)&&namedTie jP jc.named js.vars&&(jc.stops == [])&&(jP.stops == [])&&(jc.knobs == [])&&(jP.stopKnobs == []))=true:=by kernel_rfl
def j2:(jc.inPlace == jP.inPlace 3)=true:=by kernel_rfl
def j3:(jc.unfollowed == jP.unfollowed 3)=true:=by kernel_rfl
def j4:(jc.recurses == jP.recurses 3)=true:=by kernel_rfl
def j5:(jc.named == jP.varsNamed 3)=true:=by kernel_rfl
def j6 (x:Bool) (h:x=true):(x&&(jc.maps == (jf.params.toList++js.plain.varTypes jP).any (jP.mapsRec ·))&&(jc.ifaces == (jf.params.toList++js.plain.varTypes jP).any (jP.ifacesRec ·))&&(jc.mapsOut == jP.mapsAmong jf.resultTypes.toList)&&(jc.loops == (jf.params.toList++js.plain.varTypes jP).any (jP.loopsFrom ·))&&(jc.wideKeys == (jf.params.toList++js.plain.varTypes jP++jf.resultTypes.toList).any (jP.wideKeysFrom ·))&&js.vars.all (jP.varReadable ·)&&jf.resultTypes.all (λt=>jP.readableRec t&&decide (t<jP.types.size))&&(jc.ifacesOut == jf.resultTypes.toList.any (jP.ifacesRec ·))&&(jc.loopsOut == jf.resultTypes.toList.any (jP.loopsFrom ·))&&(jc.plainKeys == jP.plainKeys))=true:=by subst h;kernel_rfl
def j7 (x:Bool) (h:x=true):(x&&jc.shortTexts.isNone&&jP.stopsHeard&&jP.mayEnter&&(jc.lifted == jP.liftsFinal)&&(jP.make == some jc.make)&&(jc.kinds == (if jc.domain.isEmpty then [] else jf.params.toList.map λt=>match jP.underlying t with | some (.int k)=>some k | _=>none))&&(jc.pinned == jc.pinnedBy)&&(jc.veiled == (jf.params.toList++js.plain.varTypes jP++jf.resultTypes.toList).any (jP.veiledRec ·))&&jc.veiledFits jP jf.params.toList (jf.params.toList++js.plain.varTypes jP++jf.resultTypes.toList))=true:=by subst h;kernel_rfl
def j8:joinedFacts jP 3 jf js jc=true:=j7 _ (j6 _ (tt_ (tt_ (tt_ (tt_ j1 j2) j3) j4) j5))
def j9:jP.funcNamed jc.func=some 3:=by kernel_rfl
def znp (D: ∀(B:Af) (A:As),Dec.ok B->Dec.ok A->zcz B A=some true):Rows.FnExactStoreDoSaid:=
 OpenClaim.holds_of_wide 3 Tryz.f3 rfl rfl rfl rfl rfl rfl rfl ⟨rfl,rfl,rfl,rfl,rfl⟩ rfl rfl rfl rfl rfl j9 Tryz.func3 j8
  (of_decide_eq_true (by kernel_rfl)) (by unfold Func.isWrapper;first | (rw[if_pos (by decide +kernel)];kernel_rfl) | (rw[if_neg (by decide +kernel)];exact ⟨rfl,rfl⟩))
  (λos h H enc _=>zlM D os h H enc)
end Go.Proofs.YtdpainahgcdflaaGreat
end
section
open Decidable renaming decide->Dc
open Option renaming bind_some->An,bind_eq_some_iff->Cx,bind_assoc->Et
open Bool renaming false_eq_true->Ba,not_true->Bf,and_eq_true->Bl,not_false->Bt,true_and->Cq,or_eq_true->Df,false_and->Ed,and_true->Ej,not_eq_true->Ev,and_false->Ff,false_or->Fh,or_false->Fi
open Int renaming toNat_natCast->Bh,tmod->Ct,tdiv->Dy,le_refl->Ec
open BitVec renaming ofInt->Bm,ofInt_natCast->Eh,toNat_ofNat->En
open List renaming drop_eq_getElem_cons->Bo,getElem_of_mem->Bp,all_eq_true->By,getElem?_eq_getElem->Cj,getElem_mem->Cr,take_of_length_le->Cu,range->Cv,take_append_drop->Cy,length->Da,filter_eq_self->Dd,pairwise_iff_getElem->De,mem_append->Dg,getElem_take->Dh,take_add_one->Di,length_cons->Dj,replicate->Dm,getElem_drop->Dp,any_cons->Dq,drop_length->Ds,getElem_map->Dx,pairwise_append->Ee,all_cons->Ei,length_append->Em,append_assoc->Eu,length_take->Ew,any_append->Ey,length_set->Fc,mem_cons->Fj,any_nil->Fk
open Nat renaming le_trans->Bw,le_refl->Bz,and_two_pow_sub_one_eq_mod->Cg,or_lt_two_pow->Db,div_le_self->Dk,mod_lt->Dl,xor_lt_two_pow->Dn,lt_of_le_of_lt->Do,mod_eq_of_lt->Du,ble_eq_true_of_le->Ea,zero_le->Eb,pow_le_pow_right->Eg,ble->Ek,mul_le_mul_left->El,pow_succ->Eo,lt_trichotomy->Ep,and_le_left->Ez,min_eq_left->Fa
noncomputable section
open Go.IntKind renaming i64->I6
namespace Go.Proofs.YtdpainahgcdflaaGreat
open Go Sl
variable {α ρ β:Type} {a n b x:Nat} {l:List Ac} {e:Aa} {body:Int->Option (Ctl Int (Ctl Unit Bool))} {f:α->Option β}
theorem z6 (n a b:Int):zF n a b=some (Dc (a<=n/\n<=b)):=by unfold zF;grind
theorem zbm (n a b:Int):zy n a b=some (Dc (a<=n/\n<=b)):=by unfold zy;grind
theorem zzg (q:Int):zhm q=zfJ q:=by
 unfold zhm zfJ;rw[z6,zbm];simp only[An];by_cases h:0<=q/\q<=1000
 ·simp only[h,decide_true,Bf,Ba,if_false,and_self];rw[za (n:=q+50) (by omega) (by omega),za (n:=q+50 - 1) (by omega) (by omega),za (n:=q+49) (by omega) (by omega),show q+50 - 1=q+49 by omega]
 ·grind
def needV (q:Int):Int:=if 0<=q/\q<=1000 then 2+2*((q+49) / 50) else 0
def zi5 (q:Int):0<=needV q/\needV q<=42:=by unfold needV;split<;>omega
theorem zom (q:Int):zfJ q=some (needV q):=by
 unfold zfJ needV;rw[zbm];simp only[An];by_cases h:0<=q/\q<=1000
 ·have a:I6.wrap (q+49)=q+49:=za (by omega) (by omega);have b:Dy (q+49) 50=(q+49) / 50:=Int.tdiv_eq_ediv_of_nonneg (by omega);have c:I6.wrap ((q+49) / 50)=(q+49) / 50:=za (by omega) (by omega);have d:I6.wrap (2*((q+49) / 50))=2*((q+49) / 50):=za (by omega) (by omega);have e:I6.wrap (2+2*((q+49) / 50))=2+2*((q+49) / 50):=za (by omega) (by omega);simp_all
 ·grind
def zuy (q:Int):zhm q=some (needV q):=by rw[zzg,zom]
def zpe (n:Int):zbK n=some (Dc (1<=n/\n<=99)):=by unfold zbK;rw[z6];rfl
def zxc (l:List Am) (h:l.length<=1048576):0<=(l.map λx=>needV x.Q).sum/\(l.map λx=>needV x.Q).sum<=42*l.length:=by
 clear h;induction l with
 | nil=>simp
 | cons x l ih=>have:=zi5 x.Q;simp only[List.map_cons,List.sum_cons,Dj];omega
def zmj (s:Ad) (h:s.m.length<=1048576):zjc s=some ((s.m.map λx=>needV x.Q).sum+if s.m.length>0 then 4 else 0):=by
 unfold zjc;rw[zvj (ρ:=Int) s.m (λx=>zfJ x.Q) (λx=>needV x.Q) (λx _=>zom _) (λx _=>by have:=zi5 x.Q;omega) h 0 (by omega) (by omega)];have:=zxc s.m h;simp only[zd,Int.zero_add];by_cases a:(s.m.length:Int)>0
 ·rw[if_pos (by simp_all),za (by omega) (by omega),if_pos (by omega)];rfl
 ·simp_all
def zr4 (s:Ad) (h:s.m.length<=1048576):ziY s=some (4+(s.m.map λx=>needV x.Q).sum):=by unfold ziY;rw[zvj (ρ:=Int) s.m (λx=>zhm x.Q) (λx=>needV x.Q) (λx _=>zuy _) (λx _=>by have:=zi5 x.Q;omega) h 4 (by omega) (by omega)];rfl
theorem zbE (s:Ad) (h:s.m.length<=1048576):zcO s=zbM s:=by
 unfold zbM zcO;simp only[zbm,z6,zpe,An,zmj s h,zr4 s h,ge_iff_le];by_cases a:0<=s.G/\s.G<=1000
 ·by_cases b:(s.m.length:Int)>4
  ·grind
  ·simp only[a,b,and_self,decide_true,decide_false,Bf,Ba,if_false,An];congr 1;funext _;by_cases c:s.m.length=0
   ·simp_all
   ·grind
 ·grind
theorem ztX (m:Nat): ∀s:List UInt8,s.length+m<=9223372036854775806->∃r:List UInt8,loopO (ρ:=Ctl (List UInt8) (List UInt8)) (λ(h:Int × List UInt8)=>if (Dc (h.1>(0:Int)))=true then ((cat ([toU8 (I6.wrap ((48:Int)+(Ct h.1 (10:Int))))]) h.2).bind λA=>
 some (.go (I6.wrap (Dy h.1 (10:Int)),A)))
 else (some (.done (.go h.2)))) ((m:Int),s)=some (.go r)/\r.length<=s.length+m:=by
 induction m using Nat.strongRecOn with
 | _ m ih=>
   intro s hs;rw[zz];by_cases b:m=0
   ·simp_all
   ·simp only;rw[if_pos (by grind),zcv (by grind)];have a:Dy (m:Int) 10=((m / 10:Nat):Int):=rfl;rw[a,za (n:=((m / 10:Nat):Int)) (by omega) (by omega)];simp only[An];obtain ⟨r,c,hl⟩:=ih (m / 10) (by omega) ([toU8 (I6.wrap ((48:Int)+(Ct (m:Int) (10:Int))))]++s) (by grind);grind
theorem ztY (k:Int) (h:k<=9223372036854775800): ∃t,zK k=some t:=by
 unfold zK;by_cases b:k<=0
 ·simp_all
 ·rw[if_neg (by simp_all)];obtain ⟨r,a,hl⟩:=ztX k.toNat [] (by grind);rw[show ((k.toNat:Nat):Int)=k by omega]at a;refine ⟨[109]++r,?_⟩;rw[a];simp only[zd];rw[zcv (by grind)];rfl
def markT (k:Int):List UInt8:=(zK k).getD []
def zbs (k:Int) (h:k<=9223372036854775800):zK k=some (markT k):=by obtain ⟨t,a⟩:=ztY k h;unfold markT;rw[a];rfl
def zbO (x:Ao):Nat:=x.g.length+0
def zxh (x:Ao) (left:Int) (a:0<=left) (b:left<=1048576) (h:Dec.ok x):zek x left=some (szV left (zbO x)):=by
 unfold zek;show _=some (szV left (x.g.length+0));refine zeZ a b (h.2) λd c=>?_;simp only[c];have A:0<=left - (x.g.length:Int):=by omega
 have B:left - (x.g.length:Int)<=1048576:=by omega
 exact zfO A
def eq_KeySlot (a b:Ao):zeh a b=some (Dc (a=b)):=by have c:(a=b)↔(a.r=b.r/\a.g=b.g/\True):=⟨λe=>by subst e;simp,λh=>by cases a;cases b;simp_all⟩;rw[decide_eq_decide.2 c];unfold zeh;refine eq_step λ_=>?_;refine eq_step λ_=>?_;exact eq_end
def zvU (a:List Ao) (left:Int) (b:0<=left) (c:left<=1048576) (h:okl a):zfn a left=some (szV left (wS zbO a)):=by unfold zfn;exact zmp a zek zbO (λx d left b c=>zxh x left b c (h.2 x d)) h.1 left b c
def to_KeySlotS (a:List Ao) (h:a.length<=1048576):zfo a=some a:=by unfold zfo;rw[zeJ (by omega) (by omega)];simp only[An];rw[to_loop a _ ziL (λx _=>rfl) (by omega)];rfl
def eq_KeySlotS (a b:List Ao) (h:a.length<=4611686018427387904):zhY a b=some (Dc (a=b)):=
 zgA a b zeh (λx y _ _=>eq_KeySlot x y) h
def zm (_:Ao):Nat:=2
def zeK (q:Int) (_:Ao):Ao:=(⟨q,markT (q+1)⟩:Ao)
def ztZ (a:List Ao) (k:Int) (c:1<=k) (d:k+((a.map zm).sum:Nat)<=4611686018427387904) (h:a.length<=4611686018427387904):zd8 a k=some (k+((a.map zm).sum:Nat),mkL zeK zm k a):=by
 unfold zd8;rw[zcV zeK zm a k c d h ?hb ?hd]
 case hb=>
  intro q i l x hi j m e hl f
  have b:((zm x:Nat):Int)=2:=rfl
  rw[b]at e
  have A:I6.wrap ((i:Int)+1)=(i:Int)+1:=za (by omega) (by omega)
  have w0:I6.wrap (q+1)=q+1:=za (by omega) (by omega)
  have g:I6.wrap (q+1+1)=q+1+1:=za (by omega) (by omega)
  simp only[hi,An,A,w0,g,zbs (q+1) (by omega)]
  rw[if_pos (by simpa[hl] using f),Bh,b]
  first | done | rfl | (congr 3<;>omega)
 case hd=>intro q l hl;simp
 rfl
def ztE (a:List Ao) (k:Int) (c:1<=k) (d:k+((a.map zm).sum:Nat)<=4611686018427387904) (h:a.length<=4611686018427387904):zd7 (mkL zeK zm k a) k=some (k+((a.map zm).sum:Nat)):=by
 unfold zd7;rw[zbR,zdC zeK zm a k (Ctl.go (k+((a.map zm).sum:Nat))) c d ?hb ?hd]
 case hb=>
  intro q i x hi j l e f
  have b:((zm x:Nat):Int)=2:=rfl
  rw[b]at e
  have A:I6.wrap ((i:Int)+1)=(i:Int)+1:=za (by omega) (by omega)
  have w0:I6.wrap (q+1)=q+1:=za (by omega) (by omega)
  have g:I6.wrap (q+1+1)=q+1+1:=za (by omega) (by omega)
  simp only[hi,An,A,w0,g,zeK,zbs (q+1) (by omega)]
  rw[if_pos (by simpa using f),b]
  simp
  try omega
 case hd=>simp
 rfl
def zX (x:Ar):Nat:=x.K.length+(wS zbO x.x+0)
def zye (x:Ar) (left:Int) (a:0<=left) (b:left<=1048576) (h:Dec.ok x):zgR x left=some (szV left (zX x)):=by
 unfold zgR;show _=some (szV left (x.K.length+(wS zbO x.x+0)));refine zeZ a b (h.1) λd c=>?_;simp only[c];have A:0<=left - (x.K.length:Int):=by omega
 have D:left - (x.K.length:Int)<=1048576:=by omega
 rw[zvU x.x _ A D (h.2.1)];refine zdy A λe=>?_;have B:0<=left - (x.K.length:Int) - ((wS zbO x.x:Nat):Int):=by omega
 have E:left - (x.K.length:Int) - ((wS zbO x.x:Nat):Int)<=1048576:=by omega
 exact zfO B
def zjT (x:Ar):Prop:=x.x.length<=4611686018427387904
def to_KeyDev (x:Ar) (h:zX x<=1048576):zgV x=some x:=by unfold zgV;have a:x.K.length+(wS zbO x.x+0)<=1048576:=h;simp only[to_KeySlotS x.x (zbJ (w:=zbO) (l:=x.x) (by omega)),An]
def ztA (x:Ar) (h:zX x<=1048576):zjT x:=by have a:x.K.length+(wS zbO x.x+0)<=1048576:=h;exact Bw (zbJ (w:=zbO) (n:=1048576) (by omega)) (by decide)
def eq_KeyDev (a b:Ar) (h:zjT a):zgM a b=some (Dc (a=b)):=by have c:(a=b)↔(a.K=b.K/\a.x=b.x/\a.H=b.H/\True):=⟨λe=>by subst e;simp,λh=>by cases a;cases b;simp_all⟩;rw[decide_eq_decide.2 c];unfold zgM;refine eq_step λ_=>?_;rw[eq_KeySlotS a.x b.x h];refine eq_call λ_=>?_;refine eq_step λ_=>?_;exact eq_end
def eq_Share (a b:Am):zfD a b=some (Dc (a=b)):=by have c:(a=b)↔(a.r=b.r/\a.Q=b.Q/\True):=⟨λe=>by subst e;simp,λh=>by cases a;cases b;simp_all⟩;rw[decide_eq_decide.2 c];unfold zfD;refine eq_step λ_=>?_;refine eq_step λ_=>?_;exact eq_end
def zyg (a:List Am) (left:Int) (b:0<=left) (c:left<=1048576) (h:okl a):zgS a left=some (szV left a.length):=by unfold zgS;exact zyi b c h.1
def to_ShareS (a:List Am) (h:a.length<=1048576):zgW a=some a:=by unfold zgW;rw[zeJ (by omega) (by omega)];simp only[An];rw[to_loop a _ zkL (λx _=>rfl) (by omega)];rfl
def eq_ShareS (a b:List Am) (h:a.length<=4611686018427387904):zjA a b=some (Dc (a=b)):=
 zgA a b zfD (λx y _ _=>eq_Share x y) h
def zx (_:Am):Nat:=2
def zhf (q:Int) (_:Am):Am:=(⟨q,q+1⟩:Am)
def zvL (a:List Am) (k:Int) (c:1<=k) (d:k+((a.map zx).sum:Nat)<=4611686018427387904) (h:a.length<=4611686018427387904):zfm a k=some (k+((a.map zx).sum:Nat),mkL zhf zx k a):=by
 unfold zfm;rw[zcV zhf zx a k c d h ?hb ?hd]
 case hb=>
  intro q i l x hi j m e hl f
  have b:((zx x:Nat):Int)=2:=rfl
  rw[b]at e
  have A:I6.wrap ((i:Int)+1)=(i:Int)+1:=za (by omega) (by omega)
  have w0:I6.wrap (q+1)=q+1:=za (by omega) (by omega)
  have g:I6.wrap (q+1+1)=q+1+1:=za (by omega) (by omega)
  simp only[hi,An,A,w0,g]
  rw[if_pos (by simpa[hl] using f),Bh,b]
  first | done | rfl | (congr 3<;>omega)
 case hd=>intro q l hl;simp
 rfl
def zvB (a:List Am) (k:Int) (c:1<=k) (d:k+((a.map zx).sum:Nat)<=4611686018427387904) (h:a.length<=4611686018427387904):zfl (mkL zhf zx k a) k=some (k+((a.map zx).sum:Nat)):=by
 unfold zfl;rw[zbR,zdC zhf zx a k (Ctl.go (k+((a.map zx).sum:Nat))) c d ?hb ?hd]
 case hb=>
  intro q i x hi j l e f
  have b:((zx x:Nat):Int)=2:=rfl
  rw[b]at e
  have A:I6.wrap ((i:Int)+1)=(i:Int)+1:=za (by omega) (by omega)
  have w0:I6.wrap (q+1)=q+1:=za (by omega) (by omega)
  have g:I6.wrap (q+1+1)=q+1+1:=za (by omega) (by omega)
  simp only[hi,An,A,w0,g,zhf]
  rw[if_pos (by simpa using f),b]
  simp
  try omega
 case hd=>simp
 rfl
def zbh (x:Ad):Nat:=x.m.length+0
def zyh (x:Ad) (left:Int) (a:0<=left) (b:left<=1048576) (h:Dec.ok x):zgT x left=some (szV left (zbh x)):=by
 unfold zgT;show _=some (szV left (x.m.length+0));rw[zyg x.m _ a b (h.2)];refine zdy a λc=>?_;have A:0<=left - (x.m.length:Int):=by omega
 have B:left - (x.m.length:Int)<=1048576:=by omega
 exact zfO A
def zjU (x:Ad):Prop:=x.m.length<=4611686018427387904
def to_Shares (x:Ad) (h:zbh x<=1048576):zgX x=some x:=by unfold zgX;have a:x.m.length+0<=1048576:=h;simp only[to_ShareS x.m (by omega),An]
def ztB (x:Ad) (h:zbh x<=1048576):zjU x:=by have a:x.m.length+0<=1048576:=h;exact (show x.m.length<=4611686018427387904 by omega)
def eq_Shares (a b:Ad) (h:zjU a):zgN a b=some (Dc (a=b)):=by have c:(a=b)↔(a.G=b.G/\a.m=b.m/\True):=⟨λe=>by subst e;simp,λh=>by cases a;cases b;simp_all⟩;rw[decide_eq_decide.2 c];unfold zgN;refine eq_step λ_=>?_;rw[eq_ShareS a.m b.m h];refine eq_call λ_=>?_;exact eq_end
def zL (x:Ac):Nat:=x.g.length+(x.F.length+0)
def zz9 (x:Ac) (left:Int) (a:0<=left) (b:left<=1048576) (h:Dec.ok x):zh6 x left=some (szV left (zL x)):=by
 unfold zh6;show _=some (szV left (x.g.length+(x.F.length+0)));refine zeZ a b (h.1) λe c=>?_;simp only[c];have A:0<=left - (x.g.length:Int):=by omega
 have D:left - (x.g.length:Int)<=1048576:=by omega
 refine zeZ A D (h.2.2.2) λf d=>?_;simp only[d];have B:0<=left - (x.g.length:Int) - (x.F.length:Int):=by omega
 have E:left - (x.g.length:Int) - (x.F.length:Int)<=1048576:=by omega
 exact zfO B
def eq_Ent (a b:Ac):zhX a b=some (Dc (a=b)):=by have c:(a=b)↔(a.g=b.g/\a.b=b.b/\a.M=b.M/\a.F=b.F/\True):=⟨λe=>by subst e;simp,λh=>by cases a;cases b;simp_all⟩;rw[decide_eq_decide.2 c];unfold zhX;refine eq_step λ_=>?_;refine eq_step λ_=>?_;refine eq_step λ_=>?_;refine eq_step λ_=>?_;exact eq_end
def zwu (a:List Ac) (left:Int) (b:0<=left) (c:left<=1048576) (h:okl a):ze3 a left=some (szV left (wS zL a)):=by unfold ze3;exact zmp a zh6 zL (λx d left b c=>zz9 x left b c (h.2 x d)) h.1 left b c
def to_EntS (a:List Ac) (h:a.length<=1048576):ze4 a=some a:=by unfold ze4;rw[zeJ (by omega) (by omega)];simp only[An];rw[to_loop a _ zmJ (λx _=>rfl) (by omega)];rfl
def eq_EntS (a b:List Ac) (h:a.length<=4611686018427387904):zgD a b=some (Dc (a=b)):=
 zgA a b zhX (λx y _ _=>eq_Ent x y) h
def zj (_:Ac):Nat:=4
def zfE (q:Int) (_:Ac):Ac:=(⟨markT (q),q+1,Dc (Ct (q+1+1) 3=0),markT (q+1+1+1)⟩:Ac)
def zs5 (a:List Ac) (k:Int) (c:1<=k) (d:k+((a.map zj).sum:Nat)<=4611686018427387904) (h:a.length<=4611686018427387904):zeV a k=some (k+((a.map zj).sum:Nat),mkL zfE zj k a):=by
 unfold zeV;rw[zcV zfE zj a k c d h ?hb ?hd]
 case hb=>
  intro q i l x hi n o e hl f
  have b:((zj x:Nat):Int)=4:=rfl
  rw[b]at e
  have A:I6.wrap ((i:Int)+1)=(i:Int)+1:=za (by omega) (by omega)
  have w0:I6.wrap (q+1)=q+1:=za (by omega) (by omega)
  have g:I6.wrap (q+1+1)=q+1+1:=za (by omega) (by omega)
  have j:I6.wrap (q+1+1+1)=q+1+1+1:=za (by omega) (by omega)
  have m:I6.wrap (q+1+1+1+1)=q+1+1+1+1:=za (by omega) (by omega)
  simp only[hi,An,A,w0,g,j,m,zbs (q) (by omega),zbs (q+1+1+1) (by omega)]
  rw[if_pos (by simpa[hl] using f),Bh,b]
  first | done | rfl | (congr 3<;>omega)
 case hd=>intro q l hl;simp
 rfl
def zsY (a:List Ac) (k:Int) (c:1<=k) (d:k+((a.map zj).sum:Nat)<=4611686018427387904) (h:a.length<=4611686018427387904):zeU (mkL zfE zj k a) k=some (k+((a.map zj).sum:Nat)):=by
 unfold zeU;rw[zbR,zdC zfE zj a k (Ctl.go (k+((a.map zj).sum:Nat))) c d ?hb ?hd]
 case hb=>
  intro q i x hi m n e f
  have b:((zj x:Nat):Int)=4:=rfl
  rw[b]at e
  have A:I6.wrap ((i:Int)+1)=(i:Int)+1:=za (by omega) (by omega)
  have w0:I6.wrap (q+1)=q+1:=za (by omega) (by omega)
  have g:I6.wrap (q+1+1)=q+1+1:=za (by omega) (by omega)
  have j:I6.wrap (q+1+1+1)=q+1+1+1:=za (by omega) (by omega)
  have l:I6.wrap (q+1+1+1+1)=q+1+1+1+1:=za (by omega) (by omega)
  simp only[hi,An,A,w0,g,j,l,zfE,zbs (q) (by omega),zbs (q+1+1+1) (by omega)]
  rw[if_pos (by simpa using f),b]
  simp
  try omega
 case hd=>simp
 rfl
def zy7 (a:List (List Ac)) (left:Int) (b:0<=left) (c:left<=1048576) (h:okl a):zh7 a left=some (szV left (wS (λl=>wS zL l) a)):=by unfold zh7;exact zmp a ze3 (λl=>wS zL l) (λx d left b c=>zwu x left b c (h.2 x d)) h.1 left b c
def to_EntSS (a:List (List Ac)) (h:wS (λl=>wS zL l) a<=1048576):zia a=some a:=by have hl:=zbJ h;unfold zia;rw[zeJ (by omega) (by omega)];simp only[An];rw[to_loop a _ ze4 (λx b=>(to_EntS x (zbJ (zrB h b)))) (by omega)];rfl
def eq_EntSS (a b:List (List Ac)) (h:a.length<=4611686018427387904/\∀y∈a,y.length<=4611686018427387904):zkD a b=some (Dc (a=b)):=
 zgA a b zgD (λx y c _=>eq_EntS x y (h.2 x c)) h.1
def zwW (a:List (List Ac)) (k:Int) (b:1<=k) (c:k+((a.map (λl=>(l.map zj).sum)).sum:Nat)<=4611686018427387904) (h:a.length<=4611686018427387904/\∀y∈a,y.length<=4611686018427387904):zf9 a k=some (k+((a.map (λl=>(l.map zj).sum)).sum:Nat),mkL (λq l=>mkL zfE zj q l) (λl=>(l.map zj).sum) k a):=by
 unfold zf9;rw[zcV (λq l=>mkL zfE zj q l) (λl=>(l.map zj).sum) a k b c h.1 ?hb ?hd]
 case hb=>
  intro q i l x hi d e f hl g
  have j:=h.1
  have A:I6.wrap ((i:Int)+1)=(i:Int)+1:=za (by omega) (by omega)
  simp only[hi,An,A,zs5 x q e f (h.2 x d)]
  rw[if_pos (by simpa[hl] using g),Bh]
 case hd=>intro q l hl;simp
 rfl
def zwH (a:List (List Ac)) (k:Int) (b:1<=k) (c:k+((a.map (λl=>(l.map zj).sum)).sum:Nat)<=4611686018427387904) (h:a.length<=4611686018427387904/\∀y∈a,y.length<=4611686018427387904):zf5 (mkL (λq l=>mkL zfE zj q l) (λl=>(l.map zj).sum) k a) k=some (k+((a.map (λl=>(l.map zj).sum)).sum:Nat)):=by
 unfold zf5;rw[zbR,zdC (λq l=>mkL zfE zj q l) (λl=>(l.map zj).sum) a k (Ctl.go (k+((a.map (λl=>(l.map zj).sum)).sum:Nat))) b c ?hb ?hd]
 case hb=>
  intro q i x hi d e f g
  have j:=h.1
  have A:I6.wrap ((i:Int)+1)=(i:Int)+1:=za (by omega) (by omega)
  simp only[hi,An,A,zsY x q e f (h.2 x d)]
  rw[if_pos (by simpa using g),if_neg (by simp;omega)]
 case hd=>simp
 rfl
def zzR (a:List Int) (left:Int) (b:0<=left) (c:left<=1048576) (h:okl a):zi2 a left=some (szV left a.length):=by unfold zi2;exact zyi b c h.1
def to_IntS (a:List Int) (h:a.length<=1048576):zi4 a=some a:=by have:=λz=>to_loop a z (λx=>some x) (λ_ _=>rfl) (by omega);simp only[An]at this;unfold zi4;rw[zeJ (by omega) (by omega)];simp only[An];rw[this];rfl
def eq_IntS (a b:List Int) (h:a.length<=4611686018427387904):zlH a b=some (Dc (a=b)):=by have:=zgA a b (λx y=>some (Dc (x=y))) (λ_ _ _ _=>rfl) h;simp only[An]at this;exact this
def zxV (a:List Int) (k:Int) (c:1<=k) (d:k+((a.map (λ_=>1)).sum:Nat)<=4611686018427387904) (h:a.length<=4611686018427387904):zgQ a k=some (k+((a.map (λ_=>1)).sum:Nat),mkL (λq _=>q) (λ_=>1) k a):=by
 unfold zgQ;rw[zcV (λq _=>q) (λ_=>1) a k c d h ?hb ?hd]
 case hb=>
  intro q i l x hi g j e hl f
  have b:(((λ_=>1) x:Nat):Int)=1:=rfl
  rw[b]at e
  have A:I6.wrap ((i:Int)+1)=(i:Int)+1:=za (by omega) (by omega)
  have w0:I6.wrap (q+1)=q+1:=za (by omega) (by omega)
  simp only[hi,An,A,w0]
  rw[if_pos (by simpa[hl] using f),Bh,b]
  first | done | rfl | (congr 3<;>omega)
 case hd=>intro q l hl;simp
 rfl
def zxH (a:List Int) (k:Int) (c:1<=k) (d:k+((a.map (λ_=>1)).sum:Nat)<=4611686018427387904) (h:a.length<=4611686018427387904):zgO (mkL (λq _=>q) (λ_=>1) k a) k=some (k+((a.map (λ_=>1)).sum:Nat)):=by
 unfold zgO;rw[zbR,zdC (λq _=>q) (λ_=>1) a k (Ctl.go (k+((a.map (λ_=>1)).sum:Nat))) c d ?hb ?hd]
 case hb=>
  intro q i x hi g j e f
  have b:(((λ_=>1) x:Nat):Int)=1:=rfl
  rw[b]at e
  have A:I6.wrap ((i:Int)+1)=(i:Int)+1:=za (by omega) (by omega)
  have w0:I6.wrap (q+1)=q+1:=za (by omega) (by omega)
  simp only[hi,An,A,w0]
  rw[if_pos (by simpa using f),b]
  simp
  try omega
 case hd=>simp
 rfl
def zdz (x:Aa):Nat:=wS zL x.s+(wS (λl=>wS zL l) x.q+(x.t.length+0))
def zz8 (x:Aa) (left:Int) (a:0<=left) (b:left<=1048576) (h:Dec.ok x):zj8 x left=some (szV left (zdz x)):=by
 unfold zj8;show _=some (szV left (wS zL x.s+(wS (λl=>wS zL l) x.q+(x.t.length+0))));rw[zwu x.s _ a b (h.1)];refine zdy a λc=>?_;have A:0<=left - ((wS zL x.s:Nat):Int):=by omega
 have E:left - ((wS zL x.s:Nat):Int)<=1048576:=by omega
 rw[zy7 x.q _ A E (h.2.1)];refine zdy A λd=>?_;have B:0<=left - ((wS zL x.s:Nat):Int) - ((wS (λl=>wS zL l) x.q:Nat):Int):=by omega
 have F:left - ((wS zL x.s:Nat):Int) - ((wS (λl=>wS zL l) x.q:Nat):Int)<=1048576:=by omega
 rw[zzR x.t _ B F (h.2.2.2)];refine zdy B λe=>?_;have D:0<=left - ((wS zL x.s:Nat):Int) - ((wS (λl=>wS zL l) x.q:Nat):Int) - (x.t.length:Int):=by omega
 have G:left - ((wS zL x.s:Nat):Int) - ((wS (λl=>wS zL l) x.q:Nat):Int) - (x.t.length:Int)<=1048576:=by omega
 exact zfO D
def zrJ (x:Aa):Prop:=x.s.length<=4611686018427387904/\(x.q.length<=4611686018427387904/\∀y∈x.q,y.length<=4611686018427387904)/\x.t.length<=4611686018427387904
def to_Eng (x:Aa) (h:zdz x<=1048576):zka x=some x:=by unfold zka;have a:wS zL x.s+(wS (λl=>wS zL l) x.q+(x.t.length+0))<=1048576:=h;simp only[to_EntS x.s (zbJ (w:=zL) (l:=x.s) (by omega)),to_EntSS x.q (by omega),to_IntS x.t (by omega),An]
def zwz (x:Aa) (h:zdz x<=1048576):zrJ x:=by have b:wS zL x.s+(wS (λl=>wS zL l) x.q+(x.t.length+0))<=1048576:=h;exact ⟨Bw (zbJ (w:=zL) (n:=1048576) (by omega)) (by decide),⟨Bw (zbJ (w:=(λl=>wS zL l)) (l:=x.q) (n:=1048576) (by omega)) (by decide),λy a=>Bw (zbJ (zrB (w:=(λl=>wS zL l)) (l:=x.q) (n:=1048576) (by omega) a)) (by decide)⟩,(show x.t.length<=4611686018427387904 by omega)⟩
def eq_Eng (a b:Aa) (h:zrJ a):zj7 a b=some (Dc (a=b)):=by have c:(a=b)↔(a.s=b.s/\a.q=b.q/\a.b=b.b/\a.t=b.t/\True):=⟨λe=>by subst e;simp,λh=>by cases a;cases b;simp_all⟩;rw[decide_eq_decide.2 c];unfold zj7;rw[eq_EntS a.s b.s h.1];refine eq_call λ_=>?_;rw[eq_EntSS a.q b.q h.2.1];refine eq_call λ_=>?_;refine eq_step λ_=>?_;rw[eq_IntS a.t b.t h.2.2];refine eq_call λ_=>?_;exact eq_end
def zbg (x:Ae):Nat:=zdz x.c+0
def zzS (x:Ae) (left:Int) (a:0<=left) (b:left<=1048576) (h:Dec.ok x):zgF x left=some (szV left (zbg x)):=by
 unfold zgF;show _=some (szV left (zdz x.c+0));rw[zz8 x.c _ a b (⟨h.2.2.2.1,h.2.2.2.2.1,h.2.2.2.2.2.1,h.2.2.2.2.2.2⟩)];refine zdy a λd=>?_;have A:0<=left - ((zdz x.c:Nat):Int):=by omega
 have B:left - ((zdz x.c:Nat):Int)<=1048576:=by omega
 exact zfO A
def ziD (x:Ae):Prop:=zrJ x.c
def to_STen (x:Ae) (h:zbg x<=1048576):zgG x=some x:=by unfold zgG;have a:zdz x.c+0<=1048576:=h;simp only[to_Eng x.c (by omega),An]
def zvu (x:Ae) (h:zbg x<=1048576):ziD x:=by have a:zdz x.c+0<=1048576:=h;exact zwz x.c (by omega)
def eq_STen (a b:Ae) (h:ziD a):zgE a b=some (Dc (a=b)):=by have d:(a=b)↔(a.p=b.p/\a.I=b.I/\a.E=b.E/\a.c=b.c/\True):=⟨λe=>by subst e;simp,λh=>by cases a;cases b;simp_all⟩;rw[decide_eq_decide.2 d];unfold zgE;refine eq_step λ_=>?_;refine eq_step λ_=>?_;refine eq_step λ_=>?_;rw[eq_Eng a.c b.c h];refine eq_call λ_=>?_;exact eq_end
def zD (x:Ah):Nat:=x.L.length+0
def zyf (x:Ah) (left:Int) (a:0<=left) (b:left<=1048576) (h:Dec.ok x):zeW x left=some (szV left (zD x)):=by
 unfold zeW;show _=some (szV left (x.L.length+0));refine zeZ a b (h.2.2.2.1) λd c=>?_;simp only[c];have A:0<=left - (x.L.length:Int):=by omega
 have B:left - (x.L.length:Int)<=1048576:=by omega
 exact zfO A
def eq_LogRow (a b:Ah):zeT a b=some (Dc (a=b)):=by have c:(a=b)↔(a.r=b.r/\a.A=b.A/\a.b=b.b/\a.L=b.L/\a.T=b.T/\True):=⟨λe=>by subst e;simp,λh=>by cases a;cases b;simp_all⟩;rw[decide_eq_decide.2 c];unfold zeT;refine eq_step λ_=>?_;refine eq_step λ_=>?_;refine eq_step λ_=>?_;refine eq_step λ_=>?_;refine eq_step λ_=>?_;exact eq_end
def zy8 (a:List Ae) (left:Int) (b:0<=left) (c:left<=1048576) (h:okl a):zh8 a left=some (szV left (wS zbg a)):=by unfold zh8;exact zmp a zgF zbg (λx d left b c=>zzS x left b c (h.2 x d)) h.1 left b c
def to_STenS (a:List Ae) (h:wS zbg a<=1048576):zib a=some a:=by have hl:=zbJ h;unfold zib;rw[zeJ (by omega) (by omega)];simp only[An];rw[to_loop a _ zgG (λx b=>(to_STen x (zrB h b))) (by omega)];rfl
def eq_STenS (a b:List Ae) (h:a.length<=4611686018427387904/\∀y∈a,ziD y):zkF a b=some (Dc (a=b)):=
 zgA a b zgE (λx y c _=>eq_STen x y (h.2 x c)) h.1
def zJ (x:Ae):Nat:=4+(x.c.s.map zj).sum+(x.c.q.map (λl=>(l.map zj).sum)).sum+(x.c.t.map (λ_=>1)).sum
def ziM (q:Int) (x:Ae):Ae:={p:=q,I:=q+1,E:=q+1+1,c:={s:=mkL zfE zj (q+1+1+1) x.c.s,q:=mkL (λq l=>mkL zfE zj q l) (λl=>(l.map zj).sum) (q+1+1+1+(((x.c.s.map zj).sum:Nat):Int)) x.c.q,b:=q+1+1+1+(((x.c.s.map zj).sum:Nat):Int)+(((x.c.q.map (λl=>(l.map zj).sum)).sum:Nat):Int),t:=mkL (λq _=>q) (λ_=>1) (q+1+1+1+(((x.c.s.map zj).sum:Nat):Int)+(((x.c.q.map (λl=>(l.map zj).sum)).sum:Nat):Int)+1) x.c.t:Aa} :Ae}
def zwY (a:List Ae) (k:Int) (e:1<=k) (f:k+((a.map zJ).sum:Nat)<=4611686018427387904) (h:a.length<=4611686018427387904/\∀y∈a,ziD y):zgb a k=some (k+((a.map zJ).sum:Nat),mkL ziM zJ k a):=by
 unfold zgb;rw[zcV ziM zJ a k e f h.1 ?hb ?hd]
 case hb=>
  intro q i l x hi b p g hl j
  have u:=h.1
  have d:((zJ x:Nat):Int)=4+(((x.c.s.map zj).sum:Nat):Int)+(((x.c.q.map (λl=>(l.map zj).sum)).sum:Nat):Int)+(((x.c.t.map (λ_=>1)).sum:Nat):Int):=by show (((4+(x.c.s.map zj).sum+(x.c.q.map (λl=>(l.map zj).sum)).sum+(x.c.t.map (λ_=>1)).sum:Nat)):Int)=_;omega
  rw[d]at g
  have A:I6.wrap ((i:Int)+1)=(i:Int)+1:=za (by omega) (by omega)
  have w0:I6.wrap (q+1)=q+1:=za (by omega) (by omega)
  have m:I6.wrap (q+1+1)=q+1+1:=za (by omega) (by omega)
  have n:I6.wrap (q+1+1+1)=q+1+1+1:=za (by omega) (by omega)
  have o:I6.wrap (q+1+1+1+(((x.c.s.map zj).sum:Nat):Int)+(((x.c.q.map (λl=>(l.map zj).sum)).sum:Nat):Int)+1)=q+1+1+1+(((x.c.s.map zj).sum:Nat):Int)+(((x.c.q.map (λl=>(l.map zj).sum)).sum:Nat):Int)+1:=za (by omega) (by omega)
  simp only[hi,An,A,w0,m,n,o,zs5 x.c.s (q+1+1+1) (by omega) (by omega) ((h.2 x b).1),zwW x.c.q (q+1+1+1+(((x.c.s.map zj).sum:Nat):Int)) (by omega) (by omega) ((h.2 x b).2.1),zxV x.c.t (q+1+1+1+(((x.c.s.map zj).sum:Nat):Int)+(((x.c.q.map (λl=>(l.map zj).sum)).sum:Nat):Int)+1) (by omega) (by omega) ((h.2 x b).2.2)]
  rw[if_pos (by simpa[hl] using j),Bh,d]
  first | done | rfl | (congr 3<;>omega)
 case hd=>intro q l hl;simp
 rfl
def zwJ (a:List Ae) (k:Int) (e:1<=k) (f:k+((a.map zJ).sum:Nat)<=4611686018427387904) (h:a.length<=4611686018427387904/\∀y∈a,ziD y):zf7 (mkL ziM zJ k a) k=some (k+((a.map zJ).sum:Nat)):=by
 unfold zf7;rw[zbR,zdC ziM zJ a k (Ctl.go (k+((a.map zJ).sum:Nat))) e f ?hb ?hd]
 case hb=>
  intro q i x hi b p g j
  have u:=h.1
  have d:((zJ x:Nat):Int)=4+(((x.c.s.map zj).sum:Nat):Int)+(((x.c.q.map (λl=>(l.map zj).sum)).sum:Nat):Int)+(((x.c.t.map (λ_=>1)).sum:Nat):Int):=by show (((4+(x.c.s.map zj).sum+(x.c.q.map (λl=>(l.map zj).sum)).sum+(x.c.t.map (λ_=>1)).sum:Nat)):Int)=_;omega
  rw[d]at g
  have A:I6.wrap ((i:Int)+1)=(i:Int)+1:=za (by omega) (by omega)
  have w0:I6.wrap (q+1)=q+1:=za (by omega) (by omega)
  have m:I6.wrap (q+1+1)=q+1+1:=za (by omega) (by omega)
  have n:I6.wrap (q+1+1+1)=q+1+1+1:=za (by omega) (by omega)
  have o:I6.wrap (q+1+1+1+(((x.c.s.map zj).sum:Nat):Int)+(((x.c.q.map (λl=>(l.map zj).sum)).sum:Nat):Int)+1)=q+1+1+1+(((x.c.s.map zj).sum:Nat):Int)+(((x.c.q.map (λl=>(l.map zj).sum)).sum:Nat):Int)+1:=za (by omega) (by omega)
  simp only[hi,An,A,w0,m,n,o,ziM,zsY x.c.s (q+1+1+1) (by omega) (by omega) ((h.2 x b).1),zwH x.c.q (q+1+1+1+(((x.c.s.map zj).sum:Nat):Int)) (by omega) (by omega) ((h.2 x b).2.1),zxH x.c.t (q+1+1+1+(((x.c.s.map zj).sum:Nat):Int)+(((x.c.q.map (λl=>(l.map zj).sum)).sum:Nat):Int)+1) (by omega) (by omega) ((h.2 x b).2.2)]
  rw[if_pos (by simpa using j),d]
  simp only[decide_true,Bf,Ba,if_false]
  rw[if_neg (by simp;omega)]
  try simp only[decide_true,Bf,Ba,if_false]
  rw[if_neg (by simp;omega)]
  try simp only[decide_true,Bf,Ba,if_false]
  rw[if_neg (by simp;omega)]
  try simp only[decide_true,Bf,Ba,if_false]
  first | done | rfl | (congr 3<;>omega)
 case hd=>simp
 rfl
def zrz (a:List Ah) (left:Int) (b:0<=left) (c:left<=1048576) (h:okl a):zel a left=some (szV left (wS zD a)):=by unfold zel;exact zmp a zeW zD (λx d left b c=>zyf x left b c (h.2 x d)) h.1 left b c
def to_LogRowS (a:List Ah) (h:a.length<=1048576):zem a=some a:=by unfold zem;rw[zeJ (by omega) (by omega)];simp only[An];rw[to_loop a _ zjB (λx _=>rfl) (by omega)];rfl
def eq_LogRowS (a b:List Ah) (h:a.length<=4611686018427387904):zf3 a b=some (Dc (a=b)):=
 zgA a b zeT (λx y _ _=>eq_LogRow x y) h
def zo (_:Ah):Nat:=5
def zdI (q:Int) (_:Ah):Ah:=(⟨q,q+1,q+1+1,markT (q+1+1+1),Dc (Ct (q+1+1+1+1) 3=0)⟩:Ah)
def zn9 (a:List Ah) (k:Int) (c:1<=k) (d:k+((a.map zo).sum:Nat)<=4611686018427387904) (h:a.length<=4611686018427387904):zdf a k=some (k+((a.map zo).sum:Nat),mkL zdI zo k a):=by
 unfold zdf;rw[zcV zdI zo a k c d h ?hb ?hd]
 case hb=>
  intro q i l x hi o p e hl f
  have b:((zo x:Nat):Int)=5:=rfl
  rw[b]at e
  have A:I6.wrap ((i:Int)+1)=(i:Int)+1:=za (by omega) (by omega)
  have w0:I6.wrap (q+1)=q+1:=za (by omega) (by omega)
  have g:I6.wrap (q+1+1)=q+1+1:=za (by omega) (by omega)
  have j:I6.wrap (q+1+1+1)=q+1+1+1:=za (by omega) (by omega)
  have m:I6.wrap (q+1+1+1+1)=q+1+1+1+1:=za (by omega) (by omega)
  have n:I6.wrap (q+1+1+1+1+1)=q+1+1+1+1+1:=za (by omega) (by omega)
  simp only[hi,An,A,w0,g,j,m,n,zbs (q+1+1+1) (by omega)]
  rw[if_pos (by simpa[hl] using f),Bh,b]
  first | done | rfl | (congr 3<;>omega)
 case hd=>intro q l hl;simp
 rfl
def znN (a:List Ah) (k:Int) (c:1<=k) (d:k+((a.map zo).sum:Nat)<=4611686018427387904) (h:a.length<=4611686018427387904):zde (mkL zdI zo k a) k=some (k+((a.map zo).sum:Nat)):=by
 unfold zde;rw[zbR,zdC zdI zo a k (Ctl.go (k+((a.map zo).sum:Nat))) c d ?hb ?hd]
 case hb=>
  intro q i x hi n o e f
  have b:((zo x:Nat):Int)=5:=rfl
  rw[b]at e
  have A:I6.wrap ((i:Int)+1)=(i:Int)+1:=za (by omega) (by omega)
  have w0:I6.wrap (q+1)=q+1:=za (by omega) (by omega)
  have g:I6.wrap (q+1+1)=q+1+1:=za (by omega) (by omega)
  have j:I6.wrap (q+1+1+1)=q+1+1+1:=za (by omega) (by omega)
  have l:I6.wrap (q+1+1+1+1)=q+1+1+1+1:=za (by omega) (by omega)
  have m:I6.wrap (q+1+1+1+1+1)=q+1+1+1+1+1:=za (by omega) (by omega)
  simp only[hi,An,A,w0,g,j,l,m,zdI,zbs (q+1+1+1) (by omega)]
  rw[if_pos (by simpa using f),b]
  simp
  try omega
 case hd=>simp
 rfl
def zdT (x:Af):Nat:=x.C.length+(zX x.j+(zbh x.u+(wS zbg x.a+(wS zD x.B+(wS zD x.J+0)))))
def zy9 (x:Af) (left:Int) (b:0<=left) (c:left<=1048576) (h:Dec.ok x):zh9 x left=some (szV left (zdT x)):=by
 unfold zh9;show _=some (szV left (x.C.length+(zX x.j+(zbh x.u+(wS zbg x.a+(wS zD x.B+(wS zD x.J+0)))))));refine zeZ b c (h.1) λe d=>?_;simp only[d];have A:0<=left - (x.C.length:Int):=by omega
 have M:left - (x.C.length:Int)<=1048576:=by omega
 rw[zye x.j _ A M (⟨h.2.1,h.2.2.1,h.2.2.2.1⟩)];refine zdy A λf=>?_;have D:0<=left - (x.C.length:Int) - ((zX x.j:Nat):Int):=by omega
 have N:left - (x.C.length:Int) - ((zX x.j:Nat):Int)<=1048576:=by omega
 rw[zyh x.u _ D N (⟨h.2.2.2.2.1,h.2.2.2.2.2.1⟩)];refine zdy D λg=>?_;have E:0<=left - (x.C.length:Int) - ((zX x.j:Nat):Int) - ((zbh x.u:Nat):Int):=by omega
 have O:left - (x.C.length:Int) - ((zX x.j:Nat):Int) - ((zbh x.u:Nat):Int)<=1048576:=by omega
 rw[zy8 x.a _ E O (h.2.2.2.2.2.2.1)];refine zdy E λi=>?_;have F:0<=left - (x.C.length:Int) - ((zX x.j:Nat):Int) - ((zbh x.u:Nat):Int) - ((wS zbg x.a:Nat):Int):=by omega
 have T:left - (x.C.length:Int) - ((zX x.j:Nat):Int) - ((zbh x.u:Nat):Int) - ((wS zbg x.a:Nat):Int)<=1048576:=by omega
 rw[zrz x.B _ F T (h.2.2.2.2.2.2.2.1)];refine zdy F λk=>?_;have G:0<=left - (x.C.length:Int) - ((zX x.j:Nat):Int) - ((zbh x.u:Nat):Int) - ((wS zbg x.a:Nat):Int) - ((wS zD x.B:Nat):Int):=by omega
 have U:left - (x.C.length:Int) - ((zX x.j:Nat):Int) - ((zbh x.u:Nat):Int) - ((wS zbg x.a:Nat):Int) - ((wS zD x.B:Nat):Int)<=1048576:=by omega
 rw[zrz x.J _ G U (h.2.2.2.2.2.2.2.2.1)];refine zdy G λl=>?_;have I:0<=left - (x.C.length:Int) - ((zX x.j:Nat):Int) - ((zbh x.u:Nat):Int) - ((wS zbg x.a:Nat):Int) - ((wS zD x.B:Nat):Int) - ((wS zD x.J:Nat):Int):=by omega
 have V:left - (x.C.length:Int) - ((zX x.j:Nat):Int) - ((zbh x.u:Nat):Int) - ((wS zbg x.a:Nat):Int) - ((wS zD x.B:Nat):Int) - ((wS zD x.J:Nat):Int)<=1048576:=by omega
 exact zfO I
def zjf (x:Af):Prop:=zjT x.j/\zjU x.u/\(x.a.length<=4611686018427387904/\∀y∈x.a,ziD y)/\x.B.length<=4611686018427387904/\x.J.length<=4611686018427387904
def to_Store (x:Af) (h:zdT x<=1048576):zic x=some x:=by unfold zic;have b:x.C.length+(zX x.j+(zbh x.u+(wS zbg x.a+(wS zD x.B+(wS zD x.J+0)))))<=1048576:=h;simp only[to_KeyDev x.j (by omega),to_Shares x.u (by omega),to_STenS x.a (by omega),to_LogRowS x.B (zbJ (w:=zD) (l:=x.B) (by omega)),to_LogRowS x.J (zbJ (w:=zD) (l:=x.J) (by omega)),An]
def zuh (x:Af) (h:zdT x<=1048576):zjf x:=by have c:x.C.length+(zX x.j+(zbh x.u+(wS zbg x.a+(wS zD x.B+(wS zD x.J+0)))))<=1048576:=h;exact ⟨ztA x.j (by omega),ztB x.u (by omega),⟨Bw (zbJ (w:=zbg) (l:=x.a) (n:=1048576) (by omega)) (by decide),λy b=>zvu y (zrB (w:=zbg) (l:=x.a) (n:=1048576) (by omega) b)⟩,Bw (zbJ (w:=zD) (n:=1048576) (by omega)) (by decide),Bw (zbJ (w:=zD) (n:=1048576) (by omega)) (by decide)⟩
def eq_Store (a b:Af) (h:zjf a):zdd a b=some (Dc (a=b)):=by have c:(a=b)↔(a.C=b.C/\a.j=b.j/\a.u=b.u/\a.a=b.a/\a.B=b.B/\a.J=b.J/\a.A=b.A/\True):=⟨λe=>by subst e;simp,λh=>by cases a;cases b;simp_all⟩;rw[decide_eq_decide.2 c];unfold zdd;refine eq_step λ_=>?_;rw[eq_KeyDev a.j b.j h.1];refine eq_call λ_=>?_;rw[eq_Shares a.u b.u h.2.1];refine eq_call λ_=>?_;rw[eq_STenS a.a b.a h.2.2.1];refine eq_call λ_=>?_;rw[eq_LogRowS a.B b.B h.2.2.2.1];refine eq_call λ_=>?_;rw[eq_LogRowS a.J b.J h.2.2.2.2];refine eq_call λ_=>?_;refine eq_step λ_=>?_;exact eq_end
def zbv (x:Af):Nat:=((x.j.x.map zm).sum:Nat)+((x.u.m.map zx).sum:Nat)+((x.a.map zJ).sum:Nat)+((x.B.map zo).sum:Nat)+((x.J.map zo).sum:Nat)
def zqZ (x:Af) (k:Int) (c:1<=k) (b:k+zbv x<=4611686018427387904) (h:zjf x):zej x k=some (k+zbv x,mkL zeK zm (k) x.j.x,mkL zhf zx (k+(((x.j.x.map zm).sum:Nat):Int)) x.u.m,mkL ziM zJ (k+(((x.j.x.map zm).sum:Nat):Int)+(((x.u.m.map zx).sum:Nat):Int)) x.a,mkL zdI zo (k+(((x.j.x.map zm).sum:Nat):Int)+(((x.u.m.map zx).sum:Nat):Int)+(((x.a.map zJ).sum:Nat):Int)) x.B,mkL zdI zo (k+(((x.j.x.map zm).sum:Nat):Int)+(((x.u.m.map zx).sum:Nat):Int)+(((x.a.map zJ).sum:Nat):Int)+(((x.B.map zo).sum:Nat):Int)) x.J):=by
 have d:k+((((x.j.x.map zm).sum:Nat)+((x.u.m.map zx).sum:Nat)+((x.a.map zJ).sum:Nat)+((x.B.map zo).sum:Nat)+((x.J.map zo).sum:Nat):Nat):Int)<=4611686018427387904:=b;have e:k+((zbv x:Nat):Int)=k+(((x.j.x.map zm).sum:Nat):Int)+(((x.u.m.map zx).sum:Nat):Int)+(((x.a.map zJ).sum:Nat):Int)+(((x.B.map zo).sum:Nat):Int)+(((x.J.map zo).sum:Nat):Int):=by unfold zbv;omega
 rw[e];unfold zej;simp only[zh3,zh5];simp only[ztZ x.j.x (k) (by omega) (by omega) h.1,An];simp only[zvL x.u.m (k+(((x.j.x.map zm).sum:Nat):Int)) (by omega) (by omega) h.2.1,An];simp only[zwY x.a (k+(((x.j.x.map zm).sum:Nat):Int)+(((x.u.m.map zx).sum:Nat):Int)) (by omega) (by omega) h.2.2.1,An];simp only[zn9 x.B (k+(((x.j.x.map zm).sum:Nat):Int)+(((x.u.m.map zx).sum:Nat):Int)+(((x.a.map zJ).sum:Nat):Int)) (by omega) (by omega) h.2.2.2.1,An];simp only[zn9 x.J (k+(((x.j.x.map zm).sum:Nat):Int)+(((x.u.m.map zx).sum:Nat):Int)+(((x.a.map zJ).sum:Nat):Int)+(((x.B.map zo).sum:Nat):Int)) (by omega) (by omega) h.2.2.2.2,An]
def zwK (x:Af) (k:Int) (c:1<=k) (b:k+zbv x<=4611686018427387904) (h:zjf x):zf8 (⟨x.C,⟨x.j.K,mkL zeK zm (k) x.j.x,x.j.H⟩,⟨x.u.G,mkL zhf zx (k+(((x.j.x.map zm).sum:Nat):Int)) x.u.m⟩,mkL ziM zJ (k+(((x.j.x.map zm).sum:Nat):Int)+(((x.u.m.map zx).sum:Nat):Int)) x.a,mkL zdI zo (k+(((x.j.x.map zm).sum:Nat):Int)+(((x.u.m.map zx).sum:Nat):Int)+(((x.a.map zJ).sum:Nat):Int)) x.B,mkL zdI zo (k+(((x.j.x.map zm).sum:Nat):Int)+(((x.u.m.map zx).sum:Nat):Int)+(((x.a.map zJ).sum:Nat):Int)+(((x.B.map zo).sum:Nat):Int)) x.J,x.A⟩:Af) k=some (k+zbv x):=by
 have d:k+((((x.j.x.map zm).sum:Nat)+((x.u.m.map zx).sum:Nat)+((x.a.map zJ).sum:Nat)+((x.B.map zo).sum:Nat)+((x.J.map zo).sum:Nat):Nat):Int)<=4611686018427387904:=b;have e:k+((zbv x:Nat):Int)=k+(((x.j.x.map zm).sum:Nat):Int)+(((x.u.m.map zx).sum:Nat):Int)+(((x.a.map zJ).sum:Nat):Int)+(((x.B.map zo).sum:Nat):Int)+(((x.J.map zo).sum:Nat):Int):=by unfold zbv;omega
 rw[e];unfold zf8;simp only[zh0,zh1];simp only[ztE x.j.x (k) (by omega) (by omega) h.1,An];repeat (rw[if_neg (by simp;omega)];try simp only[An])
 simp only[zvB x.u.m (k+(((x.j.x.map zm).sum:Nat):Int)) (by omega) (by omega) h.2.1,An];repeat (rw[if_neg (by simp;omega)];try simp only[An])
 simp only[zwJ x.a (k+(((x.j.x.map zm).sum:Nat):Int)+(((x.u.m.map zx).sum:Nat):Int)) (by omega) (by omega) h.2.2.1,An];repeat (rw[if_neg (by simp;omega)];try simp only[An])
 simp only[znN x.B (k+(((x.j.x.map zm).sum:Nat):Int)+(((x.u.m.map zx).sum:Nat):Int)+(((x.a.map zJ).sum:Nat):Int)) (by omega) (by omega) h.2.2.2.1,An];repeat (rw[if_neg (by simp;omega)];try simp only[An])
 simp only[znN x.J (k+(((x.j.x.map zm).sum:Nat):Int)+(((x.u.m.map zx).sum:Nat):Int)+(((x.a.map zJ).sum:Nat):Int)+(((x.B.map zo).sum:Nat):Int)) (by omega) (by omega) h.2.2.2.2,An];repeat (rw[if_neg (by simp;omega)];try simp only[An])
def zev (x:Op):Nat:=x.g.length+(x.F.length+0)
def sz_Op (x:Op) (left:Int) (a:0<=left) (b:left<=1048576) (h:Dec.ok x):zjo x left=some (szV left (zev x)):=by
 unfold zjo;show _=some (szV left (x.g.length+(x.F.length+0)));refine zeZ a b (h.1) λe c=>?_;simp only[c];have A:0<=left - (x.g.length:Int):=by omega
 have D:left - (x.g.length:Int)<=1048576:=by omega
 refine zeZ A D (h.2.2) λf d=>?_;simp only[d];have B:0<=left - (x.g.length:Int) - (x.F.length:Int):=by omega
 have E:left - (x.g.length:Int) - (x.F.length:Int)<=1048576:=by omega
 exact zfO B
def eq_Op (a b:Op):zjl a b=some (Dc (a=b)):=by have c:(a=b)↔(a.g=b.g/\a.M=b.M/\a.F=b.F/\True):=⟨λe=>by subst e;simp,λh=>by cases a;cases b;simp_all⟩;rw[decide_eq_decide.2 c];unfold zjl;refine eq_step λ_=>?_;refine eq_step λ_=>?_;refine eq_step λ_=>?_;exact eq_end
def zAa (a:List Op) (left:Int) (b:0<=left) (c:left<=1048576) (h:okl a):zj9 a left=some (szV left (wS zev a)):=by unfold zj9;exact zmp a zjo zev (λx d left b c=>sz_Op x left b c (h.2 x d)) h.1 left b c
def to_OpS (a:List Op) (h:a.length<=1048576):zkb a=some a:=by unfold zkb;rw[zeJ (by omega) (by omega)];simp only[An];rw[to_loop a _ zn7 (λx _=>rfl) (by omega)];rfl
def eq_OpS (a b:List Op) (h:a.length<=4611686018427387904):zmI a b=some (Dc (a=b)):=
 zgA a b zjl (λx y _ _=>eq_Op x y) h
def zgz (_:Op):Nat:=3
def mk_Op (q:Int) (_:Op):Op:=(⟨markT (q),Dc (Ct (q+1) 3=0),markT (q+1+1)⟩:Op)
def zyN (a:List Op) (k:Int) (c:1<=k) (d:k+((a.map zgz).sum:Nat)<=4611686018427387904) (h:a.length<=4611686018427387904):zh4 a k=some (k+((a.map zgz).sum:Nat),mkL mk_Op zgz k a):=by
 unfold zh4;rw[zcV mk_Op zgz a k c d h ?hb ?hd]
 case hb=>
  intro q i l x hi m n e hl f
  have b:((zgz x:Nat):Int)=3:=rfl
  rw[b]at e
  have A:I6.wrap ((i:Int)+1)=(i:Int)+1:=za (by omega) (by omega)
  have w0:I6.wrap (q+1)=q+1:=za (by omega) (by omega)
  have g:I6.wrap (q+1+1)=q+1+1:=za (by omega) (by omega)
  have j:I6.wrap (q+1+1+1)=q+1+1+1:=za (by omega) (by omega)
  simp only[hi,An,A,w0,g,j,zbs (q) (by omega),zbs (q+1+1) (by omega)]
  rw[if_pos (by simpa[hl] using f),Bh,b]
  first | done | rfl | (congr 3<;>omega)
 case hd=>intro q l hl;simp
 rfl
def zk3 (x:As):Nat:=x.P.length+(x.g.length+(x.R.length+(wS zev x.O+0)))
def zzQ (x:As) (left:Int) (a:0<=left) (b:left<=1048576) (h:Dec.ok x):zi1 x left=some (szV left (zk3 x)):=by
 unfold zi1;show _=some (szV left (x.P.length+(x.g.length+(x.R.length+(wS zev x.O+0)))));refine zeZ a b (h.2.1) λf c=>?_;simp only[c];have B:0<=left - (x.P.length:Int):=by omega
 have F:left - (x.P.length:Int)<=1048576:=by omega
 refine zeZ B F (h.2.2.2.2.1) λi d=>?_;simp only[d];have D:0<=left - (x.P.length:Int) - (x.g.length:Int):=by omega
 have G:left - (x.P.length:Int) - (x.g.length:Int)<=1048576:=by omega
 refine zeZ D G (h.2.2.2.2.2.1) λj e=>?_;simp only[e];have A:0<=left - (x.P.length:Int) - (x.g.length:Int) - (x.R.length:Int):=by omega
 have I:left - (x.P.length:Int) - (x.g.length:Int) - (x.R.length:Int)<=1048576:=by omega
 rw[zAa x.O _ A I (h.2.2.2.2.2.2)];refine zdy A λk=>?_;have E:0<=left - (x.P.length:Int) - (x.g.length:Int) - (x.R.length:Int) - ((wS zev x.O:Nat):Int):=by omega
 have J:left - (x.P.length:Int) - (x.g.length:Int) - (x.R.length:Int) - ((wS zev x.O:Nat):Int)<=1048576:=by omega
 exact zfO E
def zpw (x:As):Prop:=x.O.length<=4611686018427387904
def to_Call (x:As) (h:zk3 x<=1048576):zi3 x=some x:=by unfold zi3;have a:x.P.length+(x.g.length+(x.R.length+(wS zev x.O+0)))<=1048576:=h;simp only[to_OpS x.O (zbJ (w:=zev) (l:=x.O) (by omega)),An]
def zvt (x:As) (h:zk3 x<=1048576):zpw x:=by have a:x.P.length+(x.g.length+(x.R.length+(wS zev x.O+0)))<=1048576:=h;exact Bw (zbJ (w:=zev) (n:=1048576) (by omega)) (by decide)
def eq_Call (a b:As) (h:zpw a):zi0 a b=some (Dc (a=b)):=by have c:(a=b)↔(a.D=b.D/\a.P=b.P/\a.r=b.r/\a.N=b.N/\a.g=b.g/\a.R=b.R/\a.O=b.O/\True):=⟨λe=>by subst e;simp,λh=>by cases a;cases b;simp_all⟩;rw[decide_eq_decide.2 c];unfold zi0;refine eq_step λ_=>?_;refine eq_step λ_=>?_;refine eq_step λ_=>?_;refine eq_step λ_=>?_;refine eq_step λ_=>?_;refine eq_step λ_=>?_;rw[eq_OpS a.O b.O h];refine eq_call λ_=>?_;exact eq_end
def zjg (x:As):Nat:=((x.O.map zgz).sum:Nat)
def zxU (x:As) (k:Int) (b:1<=k) (a:k+zjg x<=4611686018427387904) (h:zpw x):zgP x k=some (k+zjg x,mkL mk_Op zgz (k) x.O):=by
 have c:k+((((x.O.map zgz).sum:Nat):Nat):Int)<=4611686018427387904:=a;have e:k+((zjg x:Nat):Int)=k+(((x.O.map zgz).sum:Nat):Int):=by unfold zjg;omega
 rw[e];unfold zgP;simp only[zyN x.O (k) (by omega) (by omega) h,An]
def eq_KV (a b:KV):zjk a b=some (Dc (a=b)):=by have c:(a=b)↔(a.g=b.g/\a.F=b.F/\True):=⟨λe=>by subst e;simp,λh=>by cases a;cases b;simp_all⟩;rw[decide_eq_decide.2 c];unfold zjk;refine eq_step λ_=>?_;refine eq_step λ_=>?_;exact eq_end
def eq_KVS (a b:List KV) (h:a.length<=4611686018427387904):zmH a b=some (Dc (a=b)):=
 zgA a b zjk (λx y _ _=>eq_KV x y) h
def zce (_:KV):Nat:=2
def mk_KV (q:Int) (_:KV):KV:=(⟨markT (q),markT (q+1)⟩:KV)
def zyM (a:List KV) (k:Int) (c:1<=k) (d:k+((a.map zce).sum:Nat)<=4611686018427387904) (h:a.length<=4611686018427387904):zh2 a k=some (k+((a.map zce).sum:Nat),mkL mk_KV zce k a):=by
 unfold zh2;rw[zcV mk_KV zce a k c d h ?hb ?hd]
 case hb=>
  intro q i l x hi j m e hl f
  have b:((zce x:Nat):Int)=2:=rfl
  rw[b]at e
  have A:I6.wrap ((i:Int)+1)=(i:Int)+1:=za (by omega) (by omega)
  have w0:I6.wrap (q+1)=q+1:=za (by omega) (by omega)
  have g:I6.wrap (q+1+1)=q+1+1:=za (by omega) (by omega)
  simp only[hi,An,A,w0,g,zbs (q) (by omega),zbs (q+1) (by omega)]
  rw[if_pos (by simpa[hl] using f),Bh,b]
  first | done | rfl | (congr 3<;>omega)
 case hd=>intro q l hl;simp
 rfl
def zyK (a:List KV) (k:Int) (c:1<=k) (d:k+((a.map zce).sum:Nat)<=4611686018427387904) (h:a.length<=4611686018427387904):zhZ (mkL mk_KV zce k a) k=some (k+((a.map zce).sum:Nat)):=by
 unfold zhZ;rw[zbR,zdC mk_KV zce a k (Ctl.go (k+((a.map zce).sum:Nat))) c d ?hb ?hd]
 case hb=>
  intro q i x hi j l e f
  have b:((zce x:Nat):Int)=2:=rfl
  rw[b]at e
  have A:I6.wrap ((i:Int)+1)=(i:Int)+1:=za (by omega) (by omega)
  have w0:I6.wrap (q+1)=q+1:=za (by omega) (by omega)
  have g:I6.wrap (q+1+1)=q+1+1:=za (by omega) (by omega)
  simp only[hi,An,A,w0,g,mk_KV,zbs (q) (by omega),zbs (q+1) (by omega)]
  rw[if_pos (by simpa using f),b]
  simp
  try omega
 case hd=>simp
 rfl
def zje (x:At):Prop:=x.m.length<=4611686018427387904
def eq_Reply (a b:At) (h:zje a):zei a b=some (Dc (a=b)):=by have c:(a=b)↔(a.S=b.S/\a.N=b.N/\a.L=b.L/\a.m=b.m/\True):=⟨λe=>by subst e;simp,λh=>by cases a;cases b;simp_all⟩;rw[decide_eq_decide.2 c];unfold zei;refine eq_step λ_=>?_;refine eq_step λ_=>?_;refine eq_step λ_=>?_;rw[eq_KVS a.m b.m h];refine eq_call λ_=>?_;exact eq_end
def zcT (x:At):Nat:=((x.m.map zce).sum:Nat)
def zwX (x:At) (k:Int) (b:1<=k) (a:k+zcT x<=4611686018427387904) (h:zje x):zga x k=some (k+zcT x,mkL mk_KV zce (k) x.m):=by
 have c:k+((((x.m.map zce).sum:Nat):Nat):Int)<=4611686018427387904:=a;have e:k+((zcT x:Nat):Int)=k+(((x.m.map zce).sum:Nat):Int):=by unfold zcT;omega
 rw[e];unfold zga;simp only[zyM x.m (k) (by omega) (by omega) h,An]
def zwI (x:At) (k:Int) (b:1<=k) (a:k+zcT x<=4611686018427387904) (h:zje x):zf6 (⟨x.S,x.N,x.L,mkL mk_KV zce (k) x.m⟩:At) k=some (k+zcT x):=by
 have c:k+((((x.m.map zce).sum:Nat):Nat):Int)<=4611686018427387904:=a;have e:k+((zcT x:Nat):Int)=k+(((x.m.map zce).sum:Nat):Int):=by unfold zcT;omega
 rw[e];unfold zf6;simp only[zyK x.m (k) (by omega) (by omega) h,An];repeat (rw[if_neg (by simp;omega)];try simp only[An])
theorem zjs: ∀a b:List UInt8,(sLt b a||decide (b=a))= !sLt a b
 | [],[]=>rfl
 | [],b::y=>by rfl
 | a::x,[]=>by rfl
 | a::x,b::y=>by have ih:=zjs x y;simp only[sLt]at ih;simp only[sLt,Op.bytesLess];grind
theorem ziC (pass:Nat->Bool) (n:Nat) (h: ∀k,k<n->body (k:Int)=some (if pass k=true then .go ((k:Int)+1) else .done (.done false))) (a:body (n:Int)=some (.done (.go ()))):
 loopO body 0=some (if (Cv n).all pass=true then .go () else .done false):=by
 have key: ∀d k,k+d=n->loopO body (k:Int)=some (if ((Cv n).drop k).all pass=true then .go () else .done false):=by
  intro d;induction d with
  | zero=>
    intro k b;obtain rfl:k=n:=by omega
    rw[zz,a,List.drop_of_length_le (by simp)];rfl
  | succ d ih=>
    intro k b;have c:(Cv n).drop k=k::(Cv n).drop (k+1):=by rw[Bo (by grind)];simp
    rw[zz,h k (by omega),c,Ei];grind
 have:=key n 0 (by omega);trivial
theorem zv4 (x y:Int):zd0 x y=some (if x<y then -1 else if x>y then 1 else 0):=by unfold zd0 zfe;grind
theorem zv5 (x y:List UInt8):zd1 x y=some (if sLt x y=true then -1 else if (!(sLt x y||decide (x=y)))=true then 1 else 0):=by unfold zd1 zff;grind
theorem zcZ: ∀{a b c:List UInt8},sLt a b=true->sLt b c=true->sLt a c=true
 | [],[],_,h,_=>by trivial
 | [],_::_,[],_,h=>by trivial
 | [],_::_,_::_,_,_=>rfl
 | _::_,[],_,h,_=>by trivial
 | _::_,_::_,[],_,h=>by trivial
 | x::a,y::b,z::c,d,e=>by
   simp only[sLt,Op.bytesLess,Df,decide_eq_true_eq,Bl,beq_iff_eq]at d e |-
   rcases d with d | ⟨rfl,d⟩
   ·grind
   ·rcases e with e | ⟨rfl,e⟩
    ·simp_all
    ·exact .inr ⟨rfl,zcZ d e⟩
def zb0 (a:List UInt8):sLt a a=false:=by have:=zjs a a;simp_all
def entV (e:Ac):Bool:=Dc (1<=(e.g.length:Int)/\(e.g.length:Int)<=10)&&(Dc (0<=e.b/\e.b<=1000000)&&(Dc ((e.F.length:Int)<=16)&&(!e.M||decide (e.F= []))))
def entLt (a b:Ac):Bool:=sLt a.g b.g||(Dc (a.g=b.g)&&Dc (a.b>b.b))
def entP (l:List Ac) (k:Nat):Bool:=match l[k]? with
 | some e=>entV e&&(match k with | 0=>true | j+1=>match l[j]? with | some d=>entLt d e | none=>true)
 | none=>true
theorem zfQ (l:List Ac) (k:Nat) (h:k<l.length):entP l k=(entV l[k]&&(if a:0<k then entLt (l[k - 1]'(by omega)) l[k] else true)):=by unfold entP;grind
def entsV (l:List Ac):Bool:=(Cv l.length).all (entP l)
theorem zua (e:Ac):zkh e=some (entV e):=by unfold zkh zfM entV;simp only[zbm,An];grind
theorem zyD (e:Ac):zj6 e=some (entV e):=by unfold zj6 zf0 zbp zf1 entV;simp only[z6,An];grind
theorem zdP (a b:Ac):zdm a b=some (entLt a b):=by unfold zdm entLt;grind
def zum (x y:Int):zhA [x,y]=some (if x≠0 then x else y):=by
 unfold zhA;by_cases a:x=0
 ·by_cases b:y=0
  ·rw[zl (λk=>(k:Int)) 2 (r:=Ctl.go ()) ?h0]
   case h0=>rfl
   ·simp_all
   ·intro k c;have:k=0\/k=1:=by omega
    rcases this with rfl | rfl
    ·simp[idx,a];rfl
    ·simp[idx,b];rfl
   ·rfl
  ·rw[zz];simp only[idx,a];simp;rw[zz];have:I6.wrap 1=1:=by decide
   simp_all
 ·rw[zz];simp[idx,a]
theorem zrO (a b:Ac): ∃r,zq a b=some r/\Dc (r>=0)= !entLt a b:=by unfold zq entLt;rw[zv5,zv4];simp only[An,zum];grind
def znD (pass:Nat->Bool) (n:Nat) (h: ∀k,k<n->body (k:Int)=some (if pass k=true then .go ((k:Int)+1) else .done (.done false))) (a:body (n:Int)=some (.done (.go ()))):
    bindC (loopO body 0) (λ(_:Unit)=>some true)=some ((Cv n).all pass):=by rw[ziC pass n h a];cases (Cv n).all pass<;>rfl
theorem zgp (l:List Ac) (h:l.length<=1048576):zc1 l=some (entsV l):=by
 unfold zc1 entsV;refine znD (entP l) l.length ?_ (by simp);intro k a;simp only[zb l k a,An,zua];rw[if_pos (by simp_all),za (n:=(k:Int)+1) (by omega) (by omega),zfQ l k a];cases d:entV l[k] with
 | false=>simp
 | true=>
   by_cases b:0<k
   ·have c:I6.wrap ((k:Int) - 1)=((k - 1:Nat):Int):=by rw[za (by omega) (by omega)];omega
    rw[dif_pos b,if_neg (by simp),if_pos (by simp_all)];simp only[c,zb l (k - 1) (by omega),An,zdP];grind
   ·simp_all
theorem zlg (l:List Ac) (h:l.length<=1048576):zfz l=some (entsV l):=by
 unfold zfz entsV;refine znD (entP l) l.length ?_ (by simp);intro k a;simp only[zb l k a,An,zyD];rw[if_pos (by simp_all),za (n:=(k:Int)+1) (by omega) (by omega),zfQ l k a];cases g:entV l[k] with
 | false=>simp
 | true=>
   by_cases b:0<k
   ·have d:I6.wrap ((k:Int) - 1)=((k - 1:Nat):Int):=by rw[za (by omega) (by omega)];omega
    obtain ⟨c,e,f⟩:=zrO (l[k - 1]'(by omega)) l[k];rw[dif_pos b,if_neg (by simp),if_pos (by simp_all)];simp only[d,zb l (k - 1) (by omega),An,e,f];grind
   ·simp_all
theorem zhk (a:entsV l=true): ∀(j:Nat) (d:j<l.length) (i:Nat) (hi:i<j),sLt (l[i]'(by omega)).g l[j].g=true\/((l[i]'(by omega)).g=l[j].g/\(l[i]'(by omega)).b>l[j].b):=by
 intro j;induction j with
 | zero=>intro _ i hi;omega
 | succ j ih=>
   intro d i hi;have c:entLt (l[j]'(by omega)) l[j+1]=true:=by unfold entsV at a;rw[By]at a;have:=a (j+1) (by simp_all);rw[zfQ l (j+1) d,dif_pos (by omega),Bl]at this;simp_all
   unfold entLt at c;simp only[Df,Bl,decide_eq_true_eq]at c;by_cases e:i=j
   ·simp_all
   ·rcases ih (by omega) i (by omega) with f | ⟨f,k⟩
    ·rcases c with h | ⟨h,_⟩
     ·exact .inl (zcZ f h)
     ·simp_all
    ·grind
def visE (l:List Ac) (seq:Int) (k:Nat):Bool:=match l[k]? with
 | some e=>decide (e.b<=seq)&&(l.take k).all λd=>!(Dc (d.g=e.g)&&Dc (d.b<=seq))
 | none=>false
def zgs (l:List Ac) (seq:Int) (k:Nat) (h:k<l.length):visE l seq k=(Dc (l[k].b<=seq)&&(l.take k).all λd=>!(Dc (d.g=l[k].g)&&Dc (d.b<=seq))):=by unfold visE;rw[Cj h]
def visL (l:List Ac) (seq:Int):Nat->List KV
 | 0=>[]
 | k+1=>visL l seq k++(match l[k]? with | some e=>if visE l seq k=true/\e.M=false then [⟨e.g,e.F⟩] else [] | none=>[])
def zlB (l:List Ac) (seq:Int) (k:Nat) (h:k<l.length):visL l seq (k+1)=visL l seq k++if visE l seq k=true/\l[k].M=false then [⟨l[k].g,l[k].F⟩] else []:=by show visL l seq k++(match l[k]? with | some e=>_ | none=>_)=_;simp_all
theorem zqj (l:List Ac) (seq:Int): ∀k,k<=l.length->(visL l seq k).length<=k:=by
 intro k;induction k with
 | zero=>intro _;simp[visL]
 | succ k ih=>intro h;have:=ih (by omega);rw[zlB l seq k (by omega),Em];grind
theorem zjG (l:List Ac) (key:List UInt8) (seq:Int) (h:l.length<=1048576):
 zdQ l key seq=some (match l.find? (λd=>decide (d.g=key)&&Dc (d.b<=seq)) with | some d=>(d,true) | none=>(⟨[],0,false,[]⟩,false)):=by
 unfold zdQ;rw[zb3 (λk s=>s=(k:Int)/\l.find? (λd=>decide (d.g=key)&&Dc (d.b<=seq))=(l.drop k).find? (λd=>decide (d.g=key)&&Dc (d.b<=seq))) l.length
  (match l.find? (λd=>decide (d.g=key)&&Dc (d.b<=seq)) with | some d=>Ctl.done (d,true) | none=>Ctl.go ()) ?h0 ?h1 ?h2]
 ·cases l.find? (λd=>decide (d.g=key)&&Dc (d.b<=seq))<;>rfl
 case h0=>exact ⟨rfl,rfl⟩
 ·rintro k s a ⟨rfl,c⟩;rw[c,Bo a];simp only[zb l k a,An];rw[if_pos (by simp_all),za (n:=(k:Int)+1) (by omega) (by omega)];grind
 ·grind
theorem ztx {seq:Int} {k:Nat} (a:k<l.length) (c:visE l seq k=true):l.find? (λd=>decide (d.g=l[k].g)&&Dc (d.b<=seq))=some l[k]:=by
 rw[zgs l seq k a,Bl,By]at c;have hs:l=l.take k++l[k]::l.drop (k+1):=by simp
 grind
theorem zvq {seq:Int} {k:Nat} (m:entsV l=true) (h:k<l.length) (n:visE l seq k=false):
 ∀d,l.find? (λd=>decide (d.g=l[k].g)&&Dc (d.b<=seq))=some d->¬d.b=l[k].b:=by
 intro d o p;have a:=List.find?_some o;simp only[Bl,decide_eq_true_eq]at a;rw[zgs l seq k h,decide_eq_true (by omega),Cq]at n;have q: ∃e∈l.take k,e.g=l[k].g/\e.b<=seq:=by simp_all
 obtain ⟨e,v,w⟩:=q;have s: ∃f,(l.take k).find? (λd=>decide (d.g=l[k].g)&&Dc (d.b<=seq))=some f:=by
  cases j:(l.take k).find? (λd=>decide (d.g=l[k].g)&&Dc (d.b<=seq)) with
  | some f=>exact ⟨f,rfl⟩
  | none=>grind
 obtain ⟨f,j⟩:=s;have t:f=d:=by have hs:l=l.take k++l.drop k:=(Cy k l).symm;grind
 subst t;obtain ⟨i,hi,rfl⟩:=Bp (List.mem_of_find?_eq_some j);have u:i<k:=by grind
 simp only[Dh]at p a;rcases zhk m k h i u with c | ⟨_,c⟩
 ·rw[a.1,zb0]at c;cases c
 ·omega
theorem zub (l:List Ac) (seq:Int) (e:entsV l=true) (h:l.length<=1048576):zki l seq=some (visL l seq l.length):=by
 unfold zki;rw[zl (λk=>((k:Int),visL l seq k)) l.length (r:=Ctl.go (visL l seq l.length)) ?h0]
 case h0=>rfl
 ·rfl
 ·intro k a;have f:=zqj l seq k (by omega);simp only[zb l k a,An,zjG _ _ _ h,zlB l seq k a];rw[if_pos (by simp_all),za (n:=(k:Int)+1) (by omega) (by omega)];cases c:visE l seq k with
  | true=>
    rw[ztx a c];cases i:l[k].M with
    | true=>simp
    | false=>simp only[Bt,if_true,An,decide_true,and_self];rw[zg (by grind) (by grind)];rfl
  | false=>
    have j:=zvq e a c;cases m:l.find? (λd=>decide (d.g=l[k].g)&&Dc (d.b<=seq)) with
    | none=>simp
    | some d=>simp_all
 ·simp
def lastS (l:List Ac) (seq:Int):Nat->List UInt8 × Bool
 | 0=>([],false)
 | k+1=>match l[k]? with | some e=>if visE l seq k=true then (e.g,true) else lastS l seq k | none=>lastS l seq k
def zmG (l:List Ac) (seq:Int) (k:Nat) (h:k<l.length):lastS l seq (k+1)=if visE l seq k=true then (l[k].g,true) else lastS l seq k:=by show (match l[k]? with | some e=>_ | none=>_)=_;simp_all
theorem zwT (l:List Ac) (seq:Int): ∀k,k<=l.length->(lastS l seq k).2=true/\(∃i,∃h:i<l.length,i<k/\visE l seq i=true/\l[i].g=(lastS l seq k).1/\∀j,i<j->j<k->visE l seq j=false)\/(lastS l seq k).2=false/\∀j,j<k->visE l seq j=false:=by
 intro k;induction k with
 | zero=>intro _;exact .inr ⟨rfl,λj a=>by omega⟩
 | succ k ih=>intro b;rw[zmG l seq k (by omega)];grind
theorem zrA (l:List Ac) (seq:Int): ∀(n j:Nat) (d:j<=n) (a:j<l.length),l[j].b<=seq->∃i,∃h:i<l.length,i<=j/\visE l seq i=true/\l[i].g=l[j].g:=by
 intro n;induction n with
 | zero=>
   intro j d a hs;obtain rfl:j=0:=by omega
   exact ⟨0,a,Bz _,by rw[zgs l seq 0 a];simp_all,rfl⟩
 | succ n ih=>
   intro j d a hs;cases c:visE l seq j with
   | true=>exact ⟨j,a,Bz _,c,rfl⟩
   | false=>rw[zgs l seq j a,decide_eq_true hs,Cq,<-Ev,By]at c;simp only[Classical.not_forall]at c;obtain ⟨e,f,k⟩:=c;obtain ⟨i,hi,rfl⟩:=Bp f;grind
theorem zu9 {seq:Int} {k:Nat} (m:entsV l=true) (n:k<l.length) (hs:l[k].b<=seq):visE l seq k= !((lastS l seq k).2&&Dc (l[k].g=(lastS l seq k).1)):=by
 rw[zgs l seq k n,decide_eq_true hs,Cq];rcases zwT l seq k (by omega) with ⟨c,i,hi,o,u,v,E⟩ | ⟨c,o⟩
 ·rw[c,Cq];by_cases f:l[k].g=(lastS l seq k).1
  ·rw[decide_eq_true f];show _=false;rw[<-Ev,By];intro w;have x:l[i]∈l.take k:=by
    have:(l.take k)[i]'(by grind)=l[i]:=by simp
    grind
   have:=w _ x;rw[zgs l seq i hi,Bl]at u;simp_all
  ·rw[decide_eq_false f,Bt,By];intro d h;obtain ⟨j,y,rfl⟩:=Bp h;have z:j<k:=by grind
   simp only[Dh];cases a:(Dc ((l[j]'(by omega)).g=l[k].g)&&Dc ((l[j]'(by omega)).b<=seq)) with
   | false=>rfl
   | true=>
     exfalso;simp only[Bl,decide_eq_true_eq]at a;obtain ⟨q,A,B,C,p⟩:=zrA l seq j j (Bz _) (by omega) a.2;have F:q<=i:=by grind
     have D:l[q].g=l[k].g:=p.trans a.1;refine f ?_;rw[<-v];by_cases e:q=i
     ·simp_all
     ·rcases zhk m i hi q (by omega) with s | ⟨s,_⟩
      ·rcases zhk m k n i o with t | ⟨t,_⟩
       ·have:=zcZ s t;rw[D,zb0]at this;cases this
       ·simp_all
      ·simp_all
 ·rw[c,Ed,Bt,By];intro d h;obtain ⟨j,y,rfl⟩:=Bp h;have z:j<k:=by grind
  simp only[Dh];cases a:(Dc ((l[j]'(by omega)).g=l[k].g)&&Dc ((l[j]'(by omega)).b<=seq)) with
  | false=>rfl
  | true=>exfalso;simp only[Bl,decide_eq_true_eq]at a;obtain ⟨q,A,B,C,p⟩:=zrA l seq j j (Bz _) (by omega) a.2;grind
theorem zqH (l:List Ac) (seq:Int) (e:entsV l=true) (h:l.length<=1048576):zhV l seq=some (visL l seq l.length):=by
 unfold zhV;rw[zl (λk=>((lastS l seq k).1,(lastS l seq k).2,(k:Int),visL l seq k)) l.length (r:=Ctl.go (visL l seq l.length)) ?h0]
 case h0=>rfl
 ·rfl
 ·intro k c;have i:=zqj l seq k (by omega);simp only[zb l k c,An,zlB l seq k c,zmG l seq k c];rw[if_pos (by simp_all),za (n:=(k:Int)+1) (by omega) (by omega)];by_cases hs:l[k].b<=seq
  ·have a:=zu9 e c hs;generalize lastS l seq k=ls at a |-
   obtain ⟨last,A⟩:=ls;simp only at a |-
   rw[decide_eq_false (by omega)];simp only[Ba,if_false];cases A with
   | false=>
     rw[Ed,Bt]at a;rw[a];cases f:l[k].M with
     | true=>simp
     | false=>simp only[Ba,if_false,if_true,An,Bt,and_self];rw[zg (by grind) (by grind)];rfl
   | true=>
     rw[Cq]at a;by_cases d:l[k].g=last
     ·simp_all
     ·rw[decide_eq_false d]at a;rw[a,decide_eq_false d];cases f:l[k].M with
      | true=>simp
      | false=>simp only[Ba,if_false,if_true,An,Bt,and_self];rw[zg (by grind) (by grind)];rfl
  ·have j:visE l seq k=false:=by rw[zgs l seq k c,decide_eq_false hs,Ed]
   simp_all
 ·simp
def rangeV (l:List Ac):Int × Int:=l.foldl (λs e=>(goMin s.1 e.b,goMax s.2 e.b)) (1000001,-1)
def zph (l:List Ac) (k:Nat) (h:k<l.length):rangeV (l.take (k+1))=(goMin (rangeV (l.take k)).1 l[k].b,goMax (rangeV (l.take k)).2 l[k].b):=by unfold rangeV;rw[show l.take (k+1)=l.take k++ [l[k]] by simp,List.foldl_append];rfl
def zkC (l:List Ac) (h:l.length<=1048576):zeS l=some (rangeV l):=by
 unfold zeS;rw[zl (λk=>((rangeV (l.take k)).1,(rangeV (l.take k)).2,(k:Int))) l.length (r:=Ctl.go (rangeV l)) ?h0]
 case h0=>rfl
 ·rfl
 ·intro k a;simp only[zb l k a,An,zph l k a];rw[if_pos (by simp_all),za (n:=(k:Int)+1) (by omega) (by omega)];rfl
 ·simp
def zjR (l:List Ac) (h:l.length<=1048576):zc7 l=some (rangeV l):=by
 unfold zc7;rw[zl (λk=>((rangeV (l.take k)).1,(rangeV (l.take k)).2,(k:Int))) l.length (r:=Ctl.go (rangeV l)) ?h0]
 case h0=>rfl
 ·rfl
 ·intro k a;simp only[zb l k a,An,zph l k a];rw[if_pos (by simp_all),za (n:=(k:Int)+1) (by omega) (by omega)];unfold goMin goMax;by_cases c:l[k].b<(rangeV (l.take k)).1<;>by_cases d:l[k].b>(rangeV (l.take k)).2<;>simp[c,d]
 ·simp
def memV (l:List Ac):Bool:=Dc (l.length<=60)&&entsV l
theorem zt4 (l:List Ac) (h:l.length<=1048576):zke l=some (memV l):=by unfold zke memV;simp only[zgp l h,An];grind
theorem ztH (l:List Ac) (h:l.length<=1048576):zj3 l=some (memV l):=by unfold zj3 memV;simp only[zlg l h,An];grind
def tabsV (seq:Int):Int->List (List Ac)->Bool
 | _,[]=>true
 | low,t::r=>(Dc (t≠[])&&(entsV t&&(Dc ((rangeV t).2<low)&&Dc ((rangeV t).2<=seq))))&&tabsV seq (rangeV t).1 r
def snapP (seq:Int) (l:List Int) (k:Nat):Bool:=match l[k]? with
 | some s=>decide (0<=s/\s<=seq)&&(match k with | 0=>true | j+1=>match l[j]? with | some d=>decide (d<s) | none=>true)
 | none=>true
theorem zkR (seq:Int) (l:List Int) (k:Nat) (h:k<l.length):snapP seq l k=(Dc (0<=l[k]/\l[k]<=seq)&&(if a:0<k then Dc (l[k - 1]'(by omega)<l[k]) else true)):=by unfold snapP;grind
def snapsV (seq:Int) (l:List Int):Bool:=(Cv l.length).all (snapP seq l)
def totalV (l:List (List Ac)):Nat:=(l.map Da).sum
def engV (e:Aa):Bool:=(Dc (0<=e.b/\e.b<=1000000)&&(Dc (e.t.length<=4)&&(Dc (e.q.length<=6)&&(Dc (totalV e.q+e.s.length<=400)&&(memV e.s&&(Dc ((rangeV e.s).2<=e.b)&&tabsV e.b (rangeV e.s).1 e.q))))))&&snapsV e.b e.t
def zkk (l:List (List Ac)) (k:Nat) (h:k<l.length):totalV (l.take (k+1))=totalV (l.take k)+l[k].length:=by unfold totalV;rw[show l.take (k+1)=l.take k++ [l[k]] by simp,List.map_append,List.sum_append];rfl
theorem zm3 (l:List (List Ac)) (k:Nat):totalV (l.take k)<=totalV l:=by
 unfold totalV;conv=>rhs;rw[<-Cy k l]
 grind
def zhU (l:List (List Ac)) (h:l.length<=1048576) (c:totalV l<=1048576):zeg l=some (totalV l:Int):=by
 unfold zeg;rw[zl (λk=>((totalV (l.take k):Int),(k:Int))) l.length (r:=Ctl.go (totalV l:Int)) ?h0]
 case h0=>rfl
 ·rfl
 ·intro k a;have b:=zkk l k a;have d:=zm3 l (k+1);simp only[zb l k a,An,b];rw[if_pos (by simp_all),za (n:=(k:Int)+1) (by omega) (by omega),za (by omega) (by omega)];rfl
 ·simp
theorem zpM (e:Aa) (h1:e.s.length<=1048576) (h2:e.q.length<=1048576) (d:totalV e.q<=1048576):
 zgL e=some (Dc (e.q.length<=6)&&(Dc (totalV e.q+e.s.length<=400)&&(memV e.s&&(Dc ((rangeV e.s).2<=e.b)&&tabsV e.b (rangeV e.s).1 e.q)))):=by
 have g: ∀t∈e.q,t.length<=1048576:=λt h=>Bw (ze8 Da h) d;unfold zgL;rw[zhU _ h2 d];simp only[ztH _ h1,zkC _ h1,An];by_cases j:e.q.length<=6
 ·rw[decide_eq_true j,decide_eq_false (by omega),za (by omega) (by omega)];by_cases l:totalV e.q+e.s.length<=400
  ·rw[decide_eq_true l,decide_eq_false (by omega)];cases p:memV e.s with
   | false=>simp
   | true=>
     by_cases m:(rangeV e.s).2<=e.b
     ·rw[decide_eq_true m,decide_eq_false (by omega)];simp only[Ba,if_false,An,Bf,Cq];rw[zb3 (λk s=>s.2=(k:Int)/\tabsV e.b (rangeV e.s).1 e.q=tabsV e.b s.1 (e.q.drop k)) e.q.length (bif tabsV e.b (rangeV e.s).1 e.q then Ctl.go () else Ctl.done false) ?h0 ?h1 ?h2]
      case h0=>exact ⟨rfl,rfl⟩
      ·cases tabsV e.b (rangeV e.s).1 e.q<;>rfl
      ·rintro k ⟨A,i⟩ a ⟨rfl,c⟩;have o:e.q.drop k=e.q[k]::e.q.drop (k+1):=Bo a;have f:=g _ (Cr a);rw[c,o];simp only[tabsV,zb e.q k a,An,zkC _ f,zlg _ f];rw[if_pos (by grind),za (n:=(k:Int)+1) (by omega) (by omega)];by_cases u:e.q[k]= []
       ·simp_all
       ·have v: ¬((e.q[k].length:Nat):Int)=0:=by simp;omega
        grind
      ·rintro ⟨A,i⟩ ⟨rfl,c⟩;rw[c,Ds];simp[tabsV]
     ·grind
  ·grind
 ·grind
theorem zm9 (e:Aa) (c:e.s.length<=1048576) (d:e.q.length<=1048576) (f:totalV e.q<=1048576) (m:e.t.length<=1048576):zhD e=some (engV e):=by
 unfold zhD zbp engV;simp only[zpM e c d f,z6,An];by_cases g:0<=e.b/\e.b<=1000000
 ·rw[decide_eq_true g];by_cases h:e.t.length<=4
  ·rw[decide_eq_true h,decide_eq_false (by omega)];simp only[Bf,Ba,if_false,An,Cq];generalize (Dc (e.q.length<=6)&&(Dc (totalV e.q+e.s.length<=400)&&(memV e.s&&(Dc ((rangeV e.s).2<=e.b)&&tabsV e.b (rangeV e.s).1 e.q))))=q;cases q with
   | false=>rfl
   | true=>
     simp only[Bf,Ba,if_false,Cq];unfold snapsV;refine znD (snapP e.b e.t) e.t.length ?_ (by simp);intro k a;simp only[zb e.t k a,An];rw[if_pos (by simp_all),za (n:=(k:Int)+1) (by omega) (by omega),zkR e.b e.t k a];by_cases i:0<=e.t[k]/\e.t[k]<=e.b
     ·rw[decide_eq_true i];by_cases j:0<k
      ·have l:I6.wrap ((k:Int) - 1)=((k - 1:Nat):Int):=by rw[za (by omega) (by omega)];omega
       rw[dif_pos j,if_neg (by simp),if_pos (by simp_all)];simp only[l,zb e.t (k - 1) (by omega),An];grind
      ·simp_all
     ·grind
  ·grind
 ·grind
theorem zb2 (e:Aa) (h:e.s.length<=1048576) (C:e.q.length<=1048576) (m:totalV e.q<=1048576) (D:e.t.length<=1048576):zb1 e=some (engV e):=by
 have o: ∀t∈e.q,t.length<=1048576:=λt p=>Bw (ze8 Da p) m;unfold zb1 engV;simp only[zt4 _ h,zbm,zjR _ h,An];cases E:memV e.s with
 | false=>simp
 | true=>
   by_cases u:e.q.length<=6
   ·rw[decide_eq_true u,decide_eq_false (by omega)];by_cases v:0<=e.b/\e.b<=1000000
    ·rw[decide_eq_true v];by_cases w:e.t.length<=4
     ·rw[decide_eq_true w,decide_eq_false (by omega)];by_cases x:(rangeV e.s).2<=e.b
      ·rw[decide_eq_true x,decide_eq_false (by omega)];simp only[Bf,Ba,if_false,An,Cq];have W:=zb3 (ρ:=Ctl Int Bool) (s0:=((rangeV e.s).1,(e.s.length:Int),(0:Int))) (body:=λ(I:Int × Int × Int)=>if (Dc (I.2.2<(e.q.length:Int)))=true then ((idx e.q I.2.2).bind λJ=>
        (zc7 J).bind λM=>
        (if (Dc ((J.length:Int)=(0:Int)))=true then (some true)
 else ((zc1 J).bind λN=>
 if (!N)=true then (some true)
 else (if (Dc (M.2>=I.1))=true then (some true)
 else (some (Dc (M.2>e.b)))))).bind (λ(O:Bool)=>
 if O=true then (some (.done (.done false)))
 else (some (.go (M.1,I6.wrap (I.2.1+(J.length:Int)),I6.wrap (I.2.2+(1:Int)))))))
        else (some (.done (.go I.2.1))))
        (λk s=>s.2.2=(k:Int)/\s.2.1=(totalV (e.q.take k):Int)+e.s.length/\tabsV e.b (rangeV e.s).1 e.q=tabsV e.b s.1 (e.q.drop k)) e.q.length
        (bif tabsV e.b (rangeV e.s).1 e.q then Ctl.go ((totalV e.q:Int)+e.s.length) else Ctl.done false) ⟨rfl,by simp[totalV],rfl⟩ (by
          rintro k ⟨U,V,i⟩ a ⟨c,d,f⟩
          simp only at c d f
          subst c d
          have y:e.q.drop k=e.q[k]::e.q.drop (k+1):=Bo a
          have j:=o _ (Cr a)
          have F:=zkk e.q k a
          have t2:=zm3 e.q (k+1)
          rw[f,y]
          simp only[tabsV,zb e.q k a,An,zjR _ j,zgp _ j]
          rw[if_pos (by grind),za (n:=(k:Int)+1) (by omega) (by omega),za (n:=(totalV (e.q.take k):Int)+e.s.length+((e.q[k].length:Nat):Int)) (by omega) (by omega)]
          by_cases g:e.q[k]= []
          ·simp_all
          ·have G: ¬((e.q[k].length:Nat):Int)=0:=by simp;omega
           grind) (by
          rintro ⟨U,V,i⟩ ⟨c,d,f⟩
          simp only at c d f
          subst c d
          rw[f,Ds]
          simp[tabsV])
       rw[W]
       cases tabsV e.b (rangeV e.s).1 e.q with
       | false=>simp
       | true=>
         simp only[if_true,zd,Ej]
         rw[ziC (snapP e.b e.t) e.t.length ?hp ?hq]
         case hq=>simp
         case hp=>
          intro k a
          simp only[zb e.t k a,An]
          rw[if_pos (by simp_all),za (n:=(k:Int)+1) (by omega) (by omega),zkR e.b e.t k a]
          by_cases g:0<=e.t[k]/\e.t[k]<=e.b
          ·rw[decide_eq_true g]
           by_cases z:0<k
           ·have A:I6.wrap ((k:Int) - 1)=((k - 1:Nat):Int):=by rw[za (by omega) (by omega)];omega
            rw[dif_pos z,if_neg (by simp),if_pos (by simp_all)]
            simp only[A,zb e.t (k - 1) (by omega),An]
            by_cases l:e.t[k - 1]'(by omega)<e.t[k]
            ·simp[l,show ¬e.t[k]<=e.t[k - 1]'(by omega) by omega]
            ·simp[l,show e.t[k]<=e.t[k - 1]'(by omega) by omega]
           ·obtain rfl:k=0:=by omega
            simp
          ·rw[decide_eq_false g]
           simp
         have T:(Cv e.t.length).all (snapP e.b e.t)=snapsV e.b e.t:=rfl
         rw[T]
         have B:Dc ((totalV e.q:Int)+(e.s.length:Int)<=400)=Dc (totalV e.q+e.s.length<=400):=decide_eq_decide.2 (by omega)
         cases snapsV e.b e.t with
         | false=>simp
         | true=>simp only[if_true,cond_true,zd,B,Cq,Ej]
      ·grind
     ·grind
    ·grind
   ·grind
theorem zym (l:List (List Ac)) (n:Nat) (h:wS (λt=>wS zL t) l<=n):totalV l<=n:=by
 have key: ∀l:List (List Ac),totalV l<=(l.map λt=>wS zL t).sum:=by
  intro l;induction l with
  | nil=>exact Bz _
  | cons t r ih=>
    have a:t.length<=wS zL t:=Nat.le_add_right _ _;unfold totalV at ih |-
    grind
 have:=key l;have b:l.length+(l.map λt=>wS zL t).sum<=n:=h;omega
def zut (e:Aa) (h:zdz e<=1048576):e.s.length<=1048576/\e.q.length<=1048576/\totalV e.q<=1048576/\e.t.length<=1048576:=by have a:wS zL e.s+(wS (λt=>wS zL t) e.q+(e.t.length+0))<=1048576:=h;exact ⟨zbJ (w:=zL) (by omega),zbJ (w:=λt=>wS zL t) (by omega),zym _ _ (by omega),by omega⟩
theorem znH (s:List Ac) (h:s.length<=1048576):zcF s=some s:=by unfold zcF;rw[zg (by grind) (by grind)];rfl
theorem zul (s:List Int) (h:s.length<=1048576):zdL s=some s:=by unfold zdL;rw[zg (by grind) (by grind)];rfl
theorem zhP (e:Aa) (b:e.s.length<=1048576) (g:e.q.length<=1048576) (c: ∀t∈e.q,t.length<=1048576) (d:e.t.length<=1048576):zec e=some e:=by
 unfold zec;simp only[znH _ b,zul _ d,An];rw[zl (λk=>((k:Int),e.q.take k)) e.q.length (r:=Ctl.go e.q) ?h0]
 case h0=>rfl
 ·rfl
 ·intro k a;have f:e.q.take (k+1)=e.q.take k++ [e.q[k]]:=by simp
  simp only[zb e.q k a,An,znH _ (c _ (Cr a))];rw[if_pos (by simp_all),za (n:=(k:Int)+1) (by omega) (by omega),zg (by grind) (by simp;omega),f];rfl
 ·simp
theorem zcj (e:Aa) (d:e.s.length<=1048576) (g:e.q.length<=1048576) (f: ∀t∈e.q,t.length<=1048576) (h:e.t.length<=1048576):zbY e=some e:=by
 have a: ∀t:List Ac,t.length<=1048576->app 48 ([]:List Ac) t=some t:=λt b=>by rw[zg (by grind) (by grind)];rfl
 unfold zbY;rw[a _ d,zg (l:=([]:List Int)) (k:=e.t) (by grind) (by grind)];simp only[An];rw[zl (λk=>((k:Int),e.q.take k)) e.q.length (r:=Ctl.go e.q) ?h0]
 case h0=>rfl
 ·rfl
 ·intro k c;have b:e.q.take (k+1)=e.q.take k++ [e.q[k]]:=by simp
  simp only[zb e.q k c,An,a _ (f _ (Cr c))];rw[if_pos (by simp_all),za (n:=(k:Int)+1) (by omega) (by omega),zg (by grind) (by simp;omega),b];rfl
 ·simp
theorem zvw (s:List Int) (v:Int) (h:s.length<=1048576):zcK s v=some (Dc (v∈s)):=by
 unfold zcK zbH;have key: ∃c,loopO (ρ:=Ctl Unit Int) (λ(A:Int)=>if (Dc (A<(s.length:Int)))=true then ((idx s A).bind λB=>
  if (Dc (v=B))=true then (some (.done (.done A))) else (some (.go (I6.wrap (A+(1:Int)))))) else (some (.done (.go ())))) (0:Int)=some c/\
  ((∃j:Int,c= .done j/\0<=j/\v∈s)\/(c= .go ()/\v∉s)):=by
  refine zbr (λi t=>t=(i:Int)/\∀q (h:q<s.length),q<i->s[q]≠v) s.length _ ⟨rfl,λq h a=>by omega⟩ ?_ ?_
  ·rintro i t hi ⟨rfl,a⟩;simp only[zb s i hi,An];rw[if_pos (by simp_all),za (by omega) (by omega)];grind
  ·rintro t ⟨rfl,a⟩;refine ⟨.go (),by simp,.inr ⟨rfl,λb=>?_⟩⟩;obtain ⟨q,f,rfl⟩:=Bp b;grind
 obtain ⟨c,d,a⟩:=key;rw[d];rcases a with ⟨j,rfl,g,e⟩ | ⟨rfl,e⟩
 ·simp_all
 ·simp_all
theorem zfH {seq:Int} {l:List Int} (a:snapsV seq l=true) (k:Nat) (b:k<l.length):(0<=l[k]/\l[k]<=seq)/\(0<k->l[k - 1]'(by omega)<l[k]):=by unfold snapsV at a;rw[By]at a;have:=a k (by simp_all);rw[zkR seq l k b,Bl]at this;grind
theorem zre {seq:Int} {l:List Int} (a:snapsV seq l=true) (c:0<l.length):(seq∈l)↔l[l.length - 1]'(by omega)=seq:=by
 constructor
 ·intro b;obtain ⟨i,hi,d⟩:=Bp b;by_cases e:i=l.length - 1
  ·simp_all
  ·have f:=(zfH a (i+1) (by omega)).2 (by omega);have g:=(zfH a (i+1) (by omega)).1;grind
 ·grind
def snapR (e:Aa):Aa × Int × Bool:=
 if engV e=true then (if e.b∈e.t then (e,e.b,true) else if e.t.length=4 then (e,0,false) else ({e with t:=e.t++ [e.b]},e.b,true))
 else (⟨[],[],0,[]⟩,0,false)
def zjV (h:engV e=true):e.t.length<=4/\snapsV e.b e.t=true:=by unfold engV at h;simp_all
theorem zri (e:Aa) (a:e.s.length<=1048576) (c:e.q.length<=1048576) (d:totalV e.q<=1048576) (f:e.t.length<=1048576):zil e=some (snapR e):=by
 have g: ∀t∈e.q,t.length<=1048576:=λt h=>Bw (ze8 Da h) d;unfold zil snapR;rw[zb2 e a c d f];cases i:engV e with
 | false=>rfl
 | true=>
   obtain ⟨p,j⟩:=zjV i;simp only[An,Bf,Ba,if_false,if_true,zcj e a c g f];have k:((if (Dc ((e.t.length:Int)>(0:Int)))=true then ((idx e.t (I6.wrap ((e.t.length:Int) - (1:Int)))).bind λA=>some (Dc (A=e.b))) else (some false)))=some (Dc (e.b∈e.t)):=by
    by_cases l:0<e.t.length
    ·have m:I6.wrap ((e.t.length:Int) - 1)=((e.t.length - 1:Nat):Int):=by rw[za (by omega) (by omega)];omega
     rw[if_pos (by simp_all),m,zb _ _ (by omega)];simp only[An];rw[decide_eq_decide.2 (zre j l)]
    ·simp_all
   rw[k];simp only[An];by_cases n:e.b∈e.t
   ·simp_all
   ·by_cases o:e.t.length=4
    ·simp_all
    ·have: ¬(e.t.length:Int)>=4:=by omega
     simp only[n,o,this,decide_false,Ba,if_false];rw[zg (by grind) (by grind)];rfl
def zZ (l:List α) (a b:Nat) (lo hi:Int) (c:lo=(a:Int)) (d:hi=(b:Int)) (e:a<=b) (f:b<=l.length):piece l lo hi=some ((l.drop a).take (b - a)):=by subst c d;unfold piece;simp_all
theorem zjW (l:List α) (p:α->Bool) (j:Nat) (b:j<l.length) (c:p l[j]=false) (d: ∀i (h:i<l.length),i≠j->p l[i]=true):l.filter p=l.take j++l.drop (j+1):=by
 have hs:l=l.take j++l[j]::l.drop (j+1):=by simp
 have e:(l.take j).filter p=l.take j:=by rw[Dd];intro x a;obtain ⟨i,hi,rfl⟩:=Bp a;grind
 have f:(l.drop (j+1)).filter p=l.drop (j+1):=by rw[Dd];intro x a;obtain ⟨i,hi,rfl⟩:=Bp a;grind
 grind
theorem zlD (p:α->Bool) (l:List α) (k:Nat) (h:k<l.length):(l.take (k+1)).filter p=(l.take k).filter p++if p l[k]=true then [l[k]] else []:=by rw[show l.take (k+1)=l.take k++ [l[k]] by simp,List.filter_append];grind
def zmx (p:α->Bool) (l:List α) (k:Nat):((l.take k).filter p).length<=k:=Bw (List.length_filter_le _ _) (by simp;omega)
theorem zwD (l:List Int) (j:Nat) (b:j<l.length) (h:l.length<=1048576):zdq l (j:Int) (I6.wrap ((j:Int)+1))=some (l.take j++l.drop (j+1)):=by
 unfold zdq;have a:I6.wrap ((j:Int)+1)=((j+1:Nat):Int):=by rw[za (by omega) (by omega)];omega
 rw[a,zZ l j (j+1) _ _ rfl rfl (by omega) (by omega),zZ l 0 j 0 (j:Int) rfl rfl (by omega) (by omega),zZ l (j+1) l.length _ _ rfl rfl (by omega) (by omega)];simp only[An];rw[if_neg (by grind)];simp;exact Cu (by simp)
theorem zvF (s:List Int) (v:Int) (h:s.length<=1048576):(∃j,∃b:j<s.length,zbH s v=some (j:Int)/\s[j]=v)\/(zbH s v=some (-1)/\∀x∈s,¬x=v):=by
 unfold zbH;have key: ∃c,loopO (ρ:=Ctl Unit Int) (λ(A:Int)=>if (Dc (A<(s.length:Int)))=true then ((idx s A).bind λB=>
  if (Dc (v=B))=true then (some (.done (.done A))) else (some (.go (I6.wrap (A+(1:Int)))))) else (some (.done (.go ())))) (0:Int)=some c/\
  ((∃j,∃b:j<s.length,c= .done (j:Int)/\s[j]=v)\/(c= .go ()/\∀x∈s,¬x=v)):=by
  refine zbr (λi t=>t=(i:Int)/\∀q (h:q<s.length),q<i->¬s[q]=v) s.length _ ⟨rfl,λq h a=>by omega⟩ ?_ ?_
  ·rintro i t hi ⟨rfl,a⟩;simp only[zb s i hi,An];rw[if_pos (by simp_all),za (by omega) (by omega)];grind
  ·rintro t ⟨rfl,a⟩;refine ⟨.go (),by simp,.inr ⟨rfl,λx e=>?_⟩⟩;obtain ⟨q,g,rfl⟩:=Bp e;simp_all
 obtain ⟨c,f,a⟩:=key;rw[f];rcases a with ⟨j,b,rfl,d⟩ | ⟨rfl,d⟩
 ·exact .inl ⟨j,b,rfl,d⟩
 ·simp_all
theorem zp7 {seq:Int} {l:List Int} (b:snapsV seq l=true): ∀(j:Nat) (a:j<l.length) (i:Nat) (hi:i<j),l[i]'(by omega)<l[j]:=by
 intro j;induction j with
 | zero=>intro _ i hi;omega
 | succ j ih=>intro a i hi;have c:=(zfH b (j+1) a).2 (by omega);grind
def dropS (l:List Int) (x:Int):List Int:=l.filter λs=>!Dc (s=x)
def zpx {seq:Int} {l:List Int} (a:snapsV seq l=true) (j:Nat) (b:j<l.length):dropS l l[j]=l.take j++l.drop (j+1):=by
 unfold dropS;refine zjW l _ j b (by simp) λi hi c=>?_;have: ¬l[i]=l[j]:=by
  rcases Nat.lt_or_ge i j with h | h
  ·have:=zp7 a j b i h;omega
  ·have:=zp7 a i hi j (by omega);omega
 simp_all
def engDropR (e:Aa) (x:Int):Aa × Bool:=if engV e=true then (if x∈e.t then ({e with t:=dropS e.t x},true) else (e,false)) else (⟨[],[],0,[]⟩,false)
theorem zrf (e:Aa) (x:Int) (a:e.s.length<=1048576) (b:e.q.length<=1048576) (d:totalV e.q<=1048576) (f:e.t.length<=1048576):zik e x=some (engDropR e x):=by
 have h: ∀t∈e.q,t.length<=1048576:=λt i=>Bw (ze8 Da i) d;unfold zik engDropR;rw[zb2 e a b d f];cases l:engV e with
 | false=>rfl
 | true=>
   simp only[An,Bf,Ba,if_false,if_true,zcj e a b h f];rw[zl (λk=>((k:Int),(e.t.take k).filter λs=>!Dc (s=x))) e.t.length (r:=Ctl.go (dropS e.t x)) ?h0]
   case h0=>rfl
   ·simp only[zd];by_cases m:x∈e.t
    ·obtain ⟨j,o,rfl⟩:=Bp m;have p:=zpx (zjV l).2 j o;grind
    ·have p:dropS e.t x=e.t:=by unfold dropS;rw[Dd];grind
     simp_all
   ·intro k g;have hl:=zmx (λs:Int=>!Dc (s=x)) e.t k;simp only[zb e.t k g,An,zlD _ e.t k g];rw[if_pos (by simp_all),za (n:=(k:Int)+1) (by omega) (by omega)];by_cases c:e.t[k]=x
    ·simp[c]
    ·simp only[c,decide_false,Bt,if_true];rw[zg (by grind) (by grind)];rfl
   ·simp[dropS]
def shareP (l:List Am) (k:Nat):Bool:=match l[k]? with
 | some x=>decide (1<=x.r/\x.r<=99)&&(Dc (0<=x.Q/\x.Q<=1000)&&(match k with | 0=>true | j+1=>match l[j]? with | some d=>decide (d.r<x.r) | none=>true))
 | none=>true
theorem zls (l:List Am) (k:Nat) (h:k<l.length):shareP l k=(Dc (1<=l[k].r/\l[k].r<=99)&&(Dc (0<=l[k].Q/\l[k].Q<=1000)&&(if a:0<k then Dc ((l[k - 1]'(by omega)).r<l[k].r) else true))):=by unfold shareP;grind
def allNeed (s:Ad):Int:=(s.m.map λx=>needV x.Q).sum+if s.m.length>0 then 4 else 0
def sharesV (s:Ad):Bool:=Dc (0<=s.G/\s.G<=1000)&&(Dc (s.m.length<=4)&&((Cv s.m.length).all (shareP s.m)&&Dc (allNeed s<=s.G)))
theorem z8 (s:Ad) (h:s.m.length<=1048576):zbM s=some (sharesV s):=by
 unfold zbM sharesV;simp only[zbm,An,zmj s h];by_cases e:0<=s.G/\s.G<=1000
 ·by_cases f:s.m.length<=4
  ·rw[decide_eq_true e,decide_eq_true f,decide_eq_false (by omega)];simp only[Bf,Ba,if_false,An,Cq];rw[ziC (shareP s.m) s.m.length ?hp ?hq]
   case hq=>simp
   case hp=>
    intro k b
    simp only[zb s.m k b,An]
    rw[if_pos (by simp_all),za (n:=(k:Int)+1) (by omega) (by omega),zls s.m k b]
    by_cases a:1<=s.m[k].r/\s.m[k].r<=99
    ·by_cases c:0<=s.m[k].Q/\s.m[k].Q<=1000
     ·rw[decide_eq_true a,decide_eq_true c];by_cases g:0<k
      ·have i:I6.wrap ((k:Int) - 1)=((k - 1:Nat):Int):=by rw[za (by omega) (by omega)];omega
       rw[dif_pos g,if_neg (by simp),if_neg (by simp),if_pos (by simp_all)];simp only[i,zb s.m (k - 1) (by omega),An];by_cases d:(s.m[k - 1]'(by omega)).r<s.m[k].r
       ·simp[d,show ¬s.m[k].r<=(s.m[k - 1]'(by omega)).r by omega]
       ·simp[d,show s.m[k].r<=(s.m[k - 1]'(by omega)).r by omega]
      ·obtain rfl:k=0:=by omega
       simp
     ·rw[decide_eq_true a,decide_eq_false c];simp
    ·rw[decide_eq_false a];simp
   cases (Cv s.m.length).all (shareP s.m) with
   | false=>rfl
   | true=>rfl
  ·grind
 ·grind
theorem ztl {s:Ad} (a:sharesV s=true): ∀(j:Nat) (b:j<s.m.length) (i:Nat) (hi:i<j),(s.m[i]'(by omega)).r<s.m[j].r:=by
 intro j;induction j with
 | zero=>intro _ i hi;omega
 | succ j ih=>
   intro b i hi;have c:(s.m[j]'(by omega)).r<s.m[j+1].r:=by unfold sharesV at a;simp only[Bl,By]at a;have:=a.2.2.1 (j+1) (by simp_all);rw[zls s.m (j+1) b,dif_pos (by omega)]at this;simp_all
   grind
theorem zrM (s:List Am) (h:s.length<=1048576):zdK s=some s:=by unfold zdK;rw[zg (by grind) (by grind)];rfl
def zgK (s:Ad) (h:s.m.length<=1048576):zcI s=some s:=by unfold zcI;rw[zrM _ h];rfl
theorem zfr (s:Ad) (h:s.m.length<=1048576):zet s=some s:=by unfold zet;rw[zg (by grind) (by grind)];rfl
theorem zjD (s:Ad) (t:Int) (f:sharesV s=true) (h:s.m.length<=1048576):
 ∃j,j<=s.m.length/\(∀i (hi:i<s.m.length),i<j->s.m[i].r<t)/\(∀i (hi:i<s.m.length),j<i->t<s.m[i].r)/\
  ((∃a:j<s.m.length,zef s t=some ((j:Int),true)/\s.m[j].r=t)\/(zef s t=some ((j:Int),false)/\∀i (hi:i<s.m.length),j<=i->t<s.m[i].r)):=by
 unfold zef;have key: ∃c,loopO (ρ:=Ctl Int (Int × Bool)) (λ(A:Int)=>(if (Dc (A<(s.m.length:Int)))=true then ((idx s.m A).bind λB=>some (Dc (B.r<t))) else (some false)).bind (λ(D:Bool)=>
  if D=true then (some (.go (I6.wrap (A+(1:Int))))) else (some (.done (.go A))))) (0:Int)=some c/\
  ∃j,c= .go ((j:Nat):Int)/\j<=s.m.length/\(∀i (hi:i<s.m.length),i<j->s.m[i].r<t)/\∀a:j<s.m.length,t<=s.m[j].r:=by
  refine zbr (λi q=>q=(i:Int)/\∀q (h:q<s.m.length),q<i->s.m[q].r<t) s.m.length _ ⟨rfl,λq h b=>by omega⟩ ?_ ?_
  ·rintro i q hi ⟨rfl,b⟩;simp only[zb s.m i hi,An];rw[if_pos (by simp_all),za (by omega) (by omega)];grind
  ·grind
 obtain ⟨c,g,j,rfl,k,b,l⟩:=key;rw[g];have n: ∀i (hi:i<s.m.length),j<i->t<s.m[i].r:=λi hi d=>by have:=l (by omega);have:=ztl f i hi j d;omega
 refine ⟨j,k,b,n,?_⟩;by_cases a:j<s.m.length
 ·by_cases e:s.m[j].r=t
  ·refine .inl ⟨a,?_,e⟩;simp[zb s.m j a,a,e]
  ·refine .inr ⟨?_,λi hi d=>?_⟩
   ·simp[zb s.m j a,a,e]
   ·grind
 ·refine .inr ⟨?_,λi hi d=>by omega⟩;simp[a]
theorem zuq (l:List Am) (j:Nat) (b:j<l.length) (h:l.length<=1048576):zdp l (j:Int) (I6.wrap ((j:Int)+1))=some (l.take j++l.drop (j+1)):=by
 unfold zdp;have a:I6.wrap ((j:Int)+1)=((j+1:Nat):Int):=by rw[za (by omega) (by omega)];omega
 rw[a,zZ l j (j+1) _ _ rfl rfl (by omega) (by omega),zZ l 0 j 0 (j:Int) rfl rfl (by omega) (by omega),zZ l (j+1) l.length _ _ rfl rfl (by omega) (by omega)];simp only[An];rw[if_neg (by grind)];simp;exact Cu (by simp)
def dropT (l:List Am) (t:Int):List Am:=l.filter λx=>!Dc (x.r=t)
def shareDropR (s:Ad) (t:Int):Ad × Bool:=if sharesV s=true then (if (dropT s.m t).length=s.m.length then (s,false) else ({s with m:=dropT s.m t},true)) else (⟨0,[]⟩,false)
theorem zo7 (s:Ad) (t:Int) (h:s.m.length<=1048576):zgi s t=some (shareDropR s t):=by
 unfold zgi shareDropR;rw[z8 s h];cases b:sharesV s with
 | false=>rfl
 | true=>
   simp only[An,Bf,Ba,if_false,if_true];rw[zl (λk=>((k:Int),(s.m.take k).filter λx=>!Dc (x.r=t))) s.m.length (r:=Ctl.go (dropT s.m t)) ?h0]
   case h0=>rfl
   ·simp only[zd,zfr s h,An];grind
   ·intro k a;have d:=zmx (λx:Am=>!Dc (x.r=t)) s.m k;simp only[zb s.m k a,An,zlD _ s.m k a];rw[if_pos (by simp_all),za (n:=(k:Int)+1) (by omega) (by omega)];by_cases c:s.m[k].r=t
    ·simp[c]
    ·simp only[c,decide_false,Bt,if_true];rw[zg (by grind) (by grind)];rfl
   ·simp[dropT]
theorem zoP (s:Ad) (t:Int) (h:s.m.length<=1048576):zfX s t=some (shareDropR s t):=by
 unfold zfX shareDropR;rw[zbE s h,z8 s h];cases c:sharesV s with
 | false=>rfl
 | true=>
   simp only[An,Bf,Ba,if_false,if_true,zgK s h];obtain ⟨j,k,l,n,d⟩:=zjD s t c h;rcases d with ⟨b,a,e⟩ | ⟨a,e⟩
   ·rw[a];simp only[An,Bf,Ba,if_false,zuq s.m j b h];have f:dropT s.m t=s.m.take j++s.m.drop (j+1):=by unfold dropT;refine zjW s.m _ j b (by simp_all) λi hi o=>?_;grind
    grind
   ·rw[a];have f:dropT s.m t=s.m:=by unfold dropT;rw[Dd];intro x g;obtain ⟨i,hi,rfl⟩:=Bp g;grind
    simp_all
def setF (l:List Am) (t q:Int) (j D k:Nat):Bool × Int × List Am:=bif Ek k j then (false,(k:Int),l.take k) else (true,(k:Int),l.take j++(⟨t,q⟩::(l.drop D).take (k - D)))
def zoE (l:List Am) (t q:Int) (j D k:Nat) (h:k<=j):setF l t q j D k=(false,(k:Int),l.take k):=by unfold setF;rw[Ea h];rfl
def zoD (l:List Am) (t q:Int) (j D k:Nat) (h:j<k):setF l t q j D k=(true,(k:Int),l.take j++(⟨t,q⟩::(l.drop D).take (k - D))):=by
 unfold setF;have:Ek k j=false:=by
  cases a:Ek k j
  ·rfl
  ·simp_all;omega
 simp_all
theorem zeM (s:Ad) (t q:Int) (j D:Nat) (h:sharesV s=true) (x:s.m.length<=4) (y:j<=s.m.length) (B:D=j\/D=j+1) (F:D<=s.m.length) (e: ∀i (hi:i<s.m.length),i<j->s.m[i].r<t) (f: ∀i (hi:i<s.m.length),D<=i->t<s.m[i].r) (l:D=j+1->∀hi:j<s.m.length,s.m[j].r=t):
 zbL s t q=some (if sharesV ⟨s.G,s.m.take j++(⟨t,q⟩::s.m.drop D)⟩=true then (⟨s.G,s.m.take j++(⟨t,q⟩::s.m.drop D)⟩,true) else (s,false)):=by
 unfold zbL;rw[z8 s (by omega),h];simp only[An,Bf,Ba,if_false];have o:(s.m.take j++(⟨t,q⟩::s.m.drop D):List Am).length<=1048576:=by grind
 have g:zbM ⟨s.G,s.m.take j++(⟨t,q⟩::s.m.drop D)⟩=some (sharesV ⟨s.G,s.m.take j++(⟨t,q⟩::s.m.drop D)⟩):=z8 _ o;by_cases z:j=s.m.length
 ·have E:D=j:=by omega
  rw[zl (λk=>(false,(k:Int),s.m.take k)) s.m.length (r:=Ctl.go (false,s.m)) ?h0]
  case h0=>rfl
  ·simp only[zd,Bt,if_true];rw[zg (by grind) (by grind)];simp only[An,zd];have hl:s.m++ [⟨t,q⟩]=s.m.take j++(⟨t,q⟩::s.m.drop D):=by simp_all
   rw[hl,g];simp only[An,zfr s (by omega)];grind
  ·intro k a;have p:=e k a (by omega);have b:s.m.take (k+1)=s.m.take k++ [s.m[k]]:=by simp
   simp only[zb s.m k a,An,Bt,if_true];rw[if_pos (by simpa using a),za (n:=(k:Int)+1) (by omega) (by omega),decide_eq_false (by omega),decide_eq_false (by omega)];simp only[Ba,if_false,zd,Bt,if_true];rw[zg (by grind) (by grind),b];rfl
  ·simp
 ·have A:j<s.m.length:=by omega
  rw[zl (setF s.m t q j D) s.m.length (r:=Ctl.go (true,s.m.take j++(⟨t,q⟩::s.m.drop D))) ?h0]
  case h0=>rw[zoE _ _ _ _ _ _ (Eb _)];simp
  ·simp only[zd,Bf,Ba,if_false,g,An,zfr s (by omega)];grind
  ·intro k a;have d:=za (n:=(k:Int)+1) (by omega) (by omega);rcases Ep k j with c | c | c
   ·have p:=e k a c;have b:s.m.take (k+1)=s.m.take k++ [s.m[k]]:=by simp
    rw[zoE _ _ _ _ _ _ (by omega),zoE _ _ _ _ _ _ (by omega)];simp only[zb s.m k a,An,Bt,if_true,d];rw[if_pos (by simpa using a),decide_eq_false (by omega),decide_eq_false (by omega)];simp only[Ba,if_false,zd,Bt,if_true];rw[zg (by grind) (by grind),b];rfl
   ·subst c;rw[zoE _ _ _ _ _ _ (Bz _),zoD _ _ _ _ _ _ (by omega)];simp only[zb s.m k a,An,Bt,if_true,d];rw[if_pos (by simp_all)];rcases B with rfl | rfl
    ·have u:=f D a (Bz _);rw[decide_eq_true (by omega),decide_eq_false (by omega)];simp only[if_true];rw[zg (by grind) (by grind)];simp only[An,zd,Bt,if_true];rw[zg (by grind) (by grind)];have:(s.m.drop D).take (D+1 - D)= [s.m[D]]:=by rw[Bo a,show D+1 - D=1 by omega];rfl
     simp_all
    ·have v:=l rfl a;rw[decide_eq_true (by omega),decide_eq_true v];simp only[if_true];rw[zg (by grind) (by grind)];simp
   ·have u:=f k a (by omega);rw[zoD _ _ _ _ _ _ (by omega),zoD _ _ _ _ _ _ (by omega)];simp only[zb s.m k a,An,Bf,Ba,if_false,d];rw[if_pos (by simp_all),decide_eq_false (by omega)];simp only[zd,Bt,if_true];rw[zg (by grind) (by grind)];have w:k - D<(s.m.drop D).length:=by grind
    have b:(s.m.drop D).take (k+1 - D)=(s.m.drop D).take (k - D)++ [s.m[k]]:=by rw[show k+1 - D=(k - D)+1 by omega,Di,Cj w,Dp];grind
    simp_all
  ·rw[zoD _ _ _ _ _ _ (by omega)];grind
theorem zuE (l:List Am) (x:Am) (j:Nat) (a:j<=l.length) (h:l.length<=1048576):zdr l (j:Int) [x]=some (l.take j++(x::l.drop j)):=by unfold zdr ins;grind
theorem zm5 (s:Ad) (t q:Int) (h:s.m.length<=1048576): ∃r,zbL s t q=some r/\zcm s t q=some r/\r.1.m.length<=1048576:=by
 by_cases a:sharesV s=true
 ·have l:s.m.length<=4:=by unfold sharesV at a;simp_all
  obtain ⟨j,c,n,v,w⟩:=zjD s t a h;have o: ∀D,(D=j\/D=j+1)->D<=s.m.length->∀b:Bool,((if b=true then (⟨s.G,s.m.take j++(⟨t,q⟩::s.m.drop D)⟩,true) else (s,false):Ad × Bool)).1.m.length<=1048576:=by grind
  rcases w with ⟨p,f,g⟩ | ⟨f,g⟩
  ·have k:=zeM s t q j (j+1) a l c (.inr rfl) (by omega) n (λi hi y=>v i hi (by omega)) (λ_ _=>g);refine ⟨_,k,?_,o (j+1) (.inr rfl) (by omega) _⟩;unfold zcm;rw[zbE s h,z8 s h,a];simp only[An,Bf,Ba,if_false,if_true,zgK s h,f,zb s.m j p,Bh,zd];have x:s.m.set j ⟨t,q⟩=s.m.take j++(⟨t,q⟩::s.m.drop (j+1)):=by rw[List.set_eq_take_append_cons_drop,if_pos p]
   have d:(s.m.take j++(⟨t,q⟩::s.m.drop (j+1)):List Am).length<=1048576:=by grind
   rw[x,zbE _ d,z8 _ d];grind
  ·have k:=zeM s t q j j a l c (.inl rfl) c n g (λe=>by omega);refine ⟨_,k,?_,o j (.inl rfl) c _⟩;unfold zcm;rw[zbE s h,z8 s h,a];simp only[An,Bf,Ba,if_false,zgK s h,f,zuE s.m _ j c h,zd];have d:(s.m.take j++(⟨t,q⟩::s.m.drop j):List Am).length<=1048576:=by simp_all
   rw[zbE _ d,z8 _ d];grind
 ·have u:sharesV s=false:=by simp_all
  refine ⟨(⟨0,[]⟩,false),?_,?_,by simp⟩
  ·unfold zbL;rw[z8 s h,u];rfl
  ·unfold zcm;rw[zbE s h,z8 s h,u];rfl
def zti {a b:List UInt8} (h:sLt a b=true):sLt b a=false:=by have:=zjs a b;simp_all
def zu5 {a b:List UInt8} (c:sLt a b=false) (d:sLt b a=false):a=b:=by have:=zjs a b;simp_all
theorem zys (l:List α) (p:α->Bool) (h: ∀k (a:k<l.length),body (k:Int)=some (if p l[k]=true then .done (.done true) else .go ((k:Int)+1))) (c:body (l.length:Int)=some (.done (.go ()))):
 bindC (loopO body 0) (λ(_:Unit)=>some false)=some (l.any p):=by
 rw[zb3 (λk s=>s=(k:Int)/\l.any p=(l.drop k).any p) l.length (if l.any p=true then Ctl.done true else Ctl.go ()) ?h0 ?h1 ?h2]
 ·cases l.any p<;>rfl
 case h0=>exact ⟨rfl,rfl⟩
 ·rintro k s a ⟨rfl,b⟩;rw[h k a,b,Bo a,Dq];grind
 ·simp_all
def stayV (snaps:List Int) (l:List Ac):Nat->Bool
 | 0=>true
 | j+1=>match l[j]?,l[j+1]? with
   | some d,some e=>!Dc (d.g=e.g)||snaps.any (λs=>decide (e.b<=s)&&Dc (s<d.b))
   | _,_=>false
def zkj (snaps:List Int) (l:List Ac) (j:Nat) (h:j+1<l.length):stayV snaps l (j+1)=(!Dc ((l[j]'(by omega)).g=l[j+1].g)||snaps.any (λs=>decide (l[j+1].b<=s)&&Dc (s<(l[j]'(by omega)).b))):=by show (match l[j]?,l[j+1]? with | some d,some e=>_ | _,_=>false)=_;rw[Cj h,Cj (by omega)]
theorem zxL (l:List Ac) (snaps:List Int) (k:Nat) (a:k<l.length) (h:l.length<=1048576) (hs:snaps.length<=1048576):ziX l (k:Int) snaps=some (stayV snaps l k):=by
 unfold ziX;cases k with
 | zero=>rfl
 | succ j=>
   have b:I6.wrap (((j+1:Nat):Int) - 1)=(j:Int):=by rw[za (by omega) (by omega)];omega
   rw[if_neg (by grind),b,zb l j (by omega),zb l (j+1) a,zkj snaps l j a];simp only[An];by_cases c:(l[j]'(by omega)).g=l[j+1].g
   ·rw[decide_eq_true c];simp only[Bf,Ba,if_false,Fh];refine zys snaps _ ?_ (by simp);intro m d;simp only[zb snaps m d,An];rw[if_pos (by simp_all),za (n:=(m:Int)+1) (by omega) (by omega)];grind
   ·simp_all
def keepT (snaps:List Int) (l:List Ac) (a:Nat):Nat->List Ac
 | 0=>[]
 | n+1=>keepT snaps l a n++(if stayV snaps l (a+n)=true then l[a+n]?.toList else [])
def zmF (snaps:List Int) (l:List Ac) (a n:Nat) (h:a+n<l.length):keepT snaps l a (n+1)=keepT snaps l a n++(if stayV snaps l (a+n)=true then [l[a+n]] else []):=by show keepT snaps l a n++(if stayV snaps l (a+n)=true then l[a+n]?.toList else [])=_;simp_all
theorem zho (snaps:List Int) (l:List Ac) (a:Nat): ∀n,(keepT snaps l a n).length<=n:=by
 intro n;induction n with
 | zero=>simp[keepT]
 | succ n ih=>show (keepT snaps l a n++(if stayV snaps l (a+n)=true then l[a+n]?.toList else [])).length<=n+1;grind
theorem zs2 (snaps:List Int) (l:List Ac) (a n:Nat): ∀m,keepT snaps l a (n+m)=keepT snaps l a n++keepT snaps l (a+n) m:=by
 intro m;induction m with
 | zero=>simp[keepT]
 | succ m ih=>show keepT snaps l a (n+m)++(if stayV snaps l (a+(n+m))=true then l[a+(n+m)]?.toList else [])=keepT snaps l a n++(keepT snaps l (a+n) m++(if stayV snaps l (a+n+m)=true then l[a+n+m]?.toList else []));grind
theorem zlm (snaps:List Int) (l:List Ac) (a:Nat): ∀n,∀x∈keepT snaps l a n,∃i,i<n/\∃h:a+i<l.length,x=l[a+i]:=by
 intro n;induction n with
 | zero=>intro x b;simp[keepT]at b
 | succ n ih=>intro x b;have c:x∈keepT snaps l a n++(if stayV snaps l (a+n)=true then l[a+n]?.toList else []):=b;grind
def sameK (e:Ac):List Ac->Bool
 | y::_=>decide (e.g=y.g)
 | []=>false
def tid:List Ac->Bool × List Ac
 | []=>(false,[])
 | e::t=>bif (((tid t).1&&sameK e t)|| !e.M) then (true,e::(tid t).2) else (false,(tid t).2)
def zhi (e:Ac) (t:List Ac):tid (e::t)=bif (((tid t).1&&sameK e t)|| !e.M) then (true,e::(tid t).2) else (false,(tid t).2):=rfl
theorem zsG: ∀l:List Ac,(tid l).2.length<=l.length:=by
 intro l;induction l with
 | nil=>simp[tid]
 | cons e t ih=>rw[zhi];grind
theorem zxi: ∀(A B:List Ac),(∀x∈A,∀y∈B,x.g≠y.g)->(tid (A++B)).2=(tid A).2++(tid B).2/\(A≠[]->(tid (A++B)).1=(tid A).1):=by
 intro A;induction A with
 | nil=>intro B _;exact ⟨by rfl,λh=>absurd rfl h⟩
 | cons e t ih=>
   intro B a;obtain ⟨b,c⟩:=ih B λx d y f=>a x (.tail _ d) y f;have i:((tid (t++B)).1&&sameK e (t++B))=((tid t).1&&sameK e t):=by
    cases t with
    | nil=>
      cases B with
      | nil=>rfl
      | cons y B=>have:sameK e ([]++y::B)=false:=decide_eq_false (a e (.head _) y (.head _));rw[this,Ff,show sameK e []=false from rfl,Ff]
    | cons z t=>rw[c (by simp)];rfl
   show (tid (e::(t++B))).2=(tid (e::t)).2++(tid B).2/\(_->(tid (e::(t++B))).1=(tid (e::t)).1);rw[zhi,zhi,i,b];grind
def zzV (e:Ac) (b:e.M=true): ∀A:List Ac,(∀x∈A,x.g=e.g)->tid (A++ [e])=tid A:=by
 intro A;induction A with
 | nil=>intro _;simp[tid,sameK,b]
 | cons x t ih=>
   intro c;have a:=ih λy d=>c y (.tail _ d);show tid (x::(t++ [e]))=tid (x::t);have f:((tid (t++ [e])).1&&sameK x (t++ [e]))=((tid t).1&&sameK x t):=by
    rw[a];cases t with
    | nil=>rfl
    | cons z t=>rfl
   rw[zhi,f,a];rfl
def zzc (e:Ac) (b:e.M=false): ∀A:List Ac,(∀x∈A,x.g=e.g)->tid (A++ [e])=(true,A++ [e]):=by
 intro A;induction A with
 | nil=>intro _;simp[tid,sameK,b]
 | cons x t ih=>
   intro a;have c:=ih λy d=>a y (.tail _ d);show tid (x::(t++ [e]))=_;have f:sameK x (t++ [e])=true:=by
    cases t with
    | nil=>exact decide_eq_true (a x (.head _))
    | cons z t=>exact decide_eq_true ((a x (.head _)).trans (a z (.tail _ (.head _))).symm)
   rw[zhi,f,c];rfl
def finE (h:Bool) (A:List Ac):List Ac:=bif h then (tid A).2 else A
def zuv (b:Bool) (A:List Ac):(finE b A).length<=A.length:=by
 cases b
 ·exact Bz _
 ·exact zsG A
def zvz (b:Bool) (A B:List Ac) (h: ∀x∈A,∀y∈B,x.g≠y.g):finE b (A++B)=finE b A++finE b B:=by
 cases b
 ·rfl
 ·exact (zxi A B h).1
theorem zyn (D:Bool): ∀(n:Nat) (A:List Ac),A.length=n->n<=1048576->(∀x∈A,∀y∈A,x.g=y.g)->
 loopO (ρ:=Ctl (List Ac) (List Ac)) (λ(E:List Ac)=>(if D=true then (if (Dc ((E.length:Int)>(0:Int)))=true then ((idx E (I6.wrap ((E.length:Int) - (1:Int)))).bind λG=>
 some G.M)
 else (some false))
 else (some false)).bind (λ(N:Bool)=>
 if N=true then ((piece E (0:Int) (I6.wrap ((E.length:Int) - (1:Int)))).bind λI=>
 (app 48 ([]:List Ac) I).bind λJ=>
 some (.go J))
 else (some (.done (.go E))))) A=some (.go (finE D A)):=by
 intro n;induction n with
 | zero=>intro A O _ _;obtain rfl:A= []:=List.eq_nil_of_length_eq_zero O;rw[zz];cases D<;>rfl
 | succ n ih=>
   intro A O k b;obtain ⟨B,e,rfl⟩: ∃B e,A=B++ [e]:=⟨A.dropLast,A.getLast (by grind),(List.dropLast_concat_getLast _).symm⟩;have T:B.length=n:=by simp_all
   rw[zz];have f:I6.wrap ((((B++ [e]).length:Nat):Int) - 1)=(B.length:Int):=by rw[za (by omega) (by omega)];simp
   have c: ∀x∈B,x.g=e.g:=λx a=>b x (Dg.2 (.inl a)) e (by simp);cases D with
   | false=>rfl
   | true=>
     rw[f,zb (B++ [e]) B.length (by simp)];have h:Dc ((((B++ [e]).length:Nat):Int)>0)=true:=decide_eq_true (by simp);simp only[if_true,h,An,List.getElem_concat_length];cases d:e.M with
     | false=>simp only[Ba,if_false];show some (Ctl.go (B++ [e]))=some (Ctl.go (tid (B++ [e])).2);rw[zzc e d B c]
     | true=>
       simp only[if_true];rw[zZ _ 0 B.length (0:Int) _ rfl rfl (by omega) (by simp)];have i:((B++ [e]).drop 0).take (B.length - 0)=B:=by simp
       rw[i];simp only[An];rw[zg (by grind) (by grind)];simp only[An,List.nil_append];have F:=ih B T (by omega) λx a y j=>b x (Dg.2 (.inl a)) y (Dg.2 (.inl j));simp only[if_true]at F;rw[F];show some (Ctl.go (tid B).2)=some (Ctl.go (tid (B++ [e])).2);rw[zzV e d B c]
theorem zw9 (l:List Ac) (h:l.length<=1048576):zcX l=some l.reverse:=by
 unfold zcX;rw[zb3 (λm s=>s.1=(m:Int)/\s.2.1=(l.length:Int) - 1 - m/\∃hl:s.2.2.length=l.length,∀k (d:k<l.length),s.2.2[k]'(by omega)=if k<m\/l.length<=k+m then l[l.length - 1 - k]'(by omega) else l[k]) (l.length / 2) (Ctl.go l.reverse) ?h0 ?h1 ?h2]
 ·rfl
 case h0=>
  refine ⟨rfl,?_,rfl,λk d=>?_⟩
  ·show I6.wrap ((l.length:Int) - 1)=(l.length:Int) - 1 - ((0:Nat):Int);rw[za (by omega) (by omega)];omega
  ·rw[if_neg (by omega)]
 ·rintro m ⟨i,j,s⟩ f ⟨h1,h2,hl,a⟩;simp only at h1 h2 hl a;subst h1;have e:j=((l.length - 1 - m:Nat):Int):=by omega
  subst e;clear h2;left;have b:m<s.length:=by omega
  have c:l.length - 1 - m<s.length:=by omega
  refine ⟨((m:Int)+1,((l.length - 1 - m:Nat):Int) - 1,(s.set m (s[l.length - 1 - m]'c)).set (l.length - 1 - m) (s[m]'b)),?_,by simp,?_,by simp_all,?_⟩
  ·simp only[zb s _ c,zb s _ b,An,Bh];rw[if_pos (by grind),zb _ _ (by grind)];simp only[An,zd];rw[za (by omega) (by omega),za (by omega) (by omega)]
  ·grind
  ·grind
 ·rintro ⟨i,j,s⟩ ⟨h1,h2,hl,a⟩;simp only at h1 h2 hl a;subst h1 h2;simp only;rw[if_neg (by grind)];congr 3;refine List.ext_getElem (by simp_all) λk g n=>?_;grind
theorem zoT (l:List Ac) (snaps:List Int) (A:Bool) (h:l.length<=1048576) (hs:snaps.length<=1048576):zb6 l snaps A=some (finE A (keepT snaps l 0 l.length)):=by
 unfold zb6;rw[zl (λk=>((k:Int),keepT snaps l 0 k)) l.length (r:=Ctl.go (keepT snaps l 0 l.length)) ?h0]
 case h0=>rfl
 ·simp only[zd];cases A with
  | false=>rfl
  | true=>
    simp only[Bf,Ba,if_false];have B:(keepT snaps l 0 l.length).length<=1048576:=Bw (zho snaps l 0 _) h;generalize keepT snaps l 0 l.length=K at B;rw[zl (λm=>((tid (K.drop (K.length - m))).1,(K.length:Int) - 1 - m,(tid (K.drop (K.length - m))).2.reverse)) K.length (r:=Ctl.go (tid K).2.reverse) ?g0]
    case g0=>
     rw[Nat.sub_zero,Ds,za (by omega) (by omega)]
     simp[tid]
    ·simp only[zd];rw[zw9 _ (by rw[List.length_reverse];exact Bw (zsG K) B),List.reverse_reverse];rfl
    ·intro m p;have hi:(K.length:Int) - 1 - m=((K.length - 1 - m:Nat):Int):=by omega
     have d:(K.length:Int) - 1 - ((m+1:Nat):Int)=((K.length - 1 - m:Nat):Int) - 1:=by omega
     have b:K.length - 1 - m<K.length:=by omega
     have e:K.drop (K.length - (m+1))=K[K.length - 1 - m]::K.drop (K.length - m):=by rw[show K.length - (m+1)=K.length - 1 - m by omega,Bo b,show K.length - 1 - m+1=K.length - m by omega]
     have a:=zsG (K.drop (K.length - m));rw[List.length_drop]at a;rw[e,zhi,hi,d];have f:(if Dc (((K.length - 1 - m:Nat):Int)=I6.wrap ((K.length:Int) - (1:Int)))=true then (some true)
 else ((idx K ((K.length - 1 - m:Nat):Int)).bind λD=>
 (idx K (I6.wrap (((K.length - 1 - m:Nat):Int)+(1:Int)))).bind λE=>
 some (!(Dc (D.g=E.g)))))=some (!sameK K[K.length - 1 - m] (K.drop (K.length - m))):=by
      by_cases h0:m=0
      ·subst h0
       rw[if_pos (by rw[za (by omega) (by omega)];simp_all),show K.drop (K.length - 0)= [] by simp]
       rfl
      ·rw[if_neg (by rw[za (by omega) (by omega)];grind),zb K _ b,za (by omega) (by omega)]
       rw[show ((K.length - 1 - m:Nat):Int)+1=((K.length - m:Nat):Int) by omega,zb K (K.length - m) (by omega),Bo (by omega:K.length - m<K.length)]
       rfl
     simp only[f]
     rw[if_pos (by simp),za (n:=((K.length - 1 - m:Nat):Int) - 1) (by omega) (by omega)]
     simp only[zb K _ b,An]
     generalize sameK K[K.length - 1 - m] (K.drop (K.length - m))=q
     generalize tid (K.drop (K.length - m))=tt at a |-
     obtain ⟨F,o⟩:=tt
     simp only at a |-
     have i:app 48 o.reverse [K[K.length - 1 - m]]=some (o.reverse++ [K[K.length - 1 - m]]):=zg (by grind) (by grind)
     cases q<;>cases F<;>cases j:K[K.length - 1 - m].M<;>simp[i,j]
    ·rw[Nat.sub_self,List.drop_zero]
     simp
     omega
 ·intro k c;have a:=zho snaps l 0 k;simp only[zb l k c,An,zxL l snaps k c h hs,zmF snaps l 0 k (by omega),Nat.zero_add];rw[if_pos (by simp_all),za (n:=(k:Int)+1) (by omega) (by omega)];cases stayV snaps l k with
  | true=>simp only[if_true];rw[zg (by grind) (by grind)];rfl
  | false=>simp
 ·simp
def zv6 (a:entsV l=true) (k:Nat) (b:k<l.length):entP l k=true:=by unfold entsV at a;simp_all
theorem zxB (c:entsV l=true) (a n:Nat):entsV ((l.drop a).take n)=true:=by
 unfold entsV;rw[By];intro k f;have d:k<((l.drop a).take n).length:=by simp_all
 have b:a+k<l.length:=by grind
 have e:=zv6 c (a+k) b;rw[zfQ l (a+k) b,Bl]at e;rw[zfQ _ k d];grind
def cutV (l:List Ac) (a:Nat):Prop:=∀i (hi:i<l.length) j (b:j<l.length),i<a->a<=j->l[i].g≠l[j].g
theorem zxO (l:List Ac) (snaps:List Int) (T:Bool) (a n:Nat) (q:entsV l=true) (h:l.length<=1048576) (hs:snaps.length<=1048576) (t:a+n<=l.length) (A:cutV l a) (u: ∀i (hi:i<l.length) j (B:j<l.length),a<=i->i<a+n->a<=j->j<a+n->l[i].g=l[j].g):zjb ((l.drop a).take n) snaps T=some (finE T (keepT snaps l a n)):=by
 have C:((l.drop a).take n).length=n:=by grind
 have v:=zxB q a n;have D: ∀i,i<n->((l.drop a).take n)[i]? =l[a+i]?:=λi hi=>by simp_all
 generalize (l.drop a).take n=g at C v D;have f: ∀i (hi:i<n),g[i]'(by omega)=l[a+i]'(by omega):=λi hi=>by grind
 unfold zjb;rw[zl (λk=>((k:Int),keepT snaps l a k)) g.length (r:=Ctl.go (keepT snaps l a n)) ?h0]
 case h0=>rfl
 ·simp only[zd];rw[zyn T (keepT snaps l a n).length _ rfl (Bw (zho snaps l a n) (by omega)) ?_]
  ·rfl
  ·intro x E y F;obtain ⟨i,hi,o,rfl⟩:=zlm snaps l a n x E;obtain ⟨j,B,L,rfl⟩:=zlm snaps l a n y F;grind
 ·intro k c;have w:k<n:=by omega
  have M:=zho snaps l a k;have G:loopO (ρ:=Ctl Bool (Ctl (Int × List Ac) (Ctl (List Ac) (List Ac)))) (λ(W:Bool × Int)=>if (Dc (W.2<(snaps.length:Int)))=true then ((idx g (k:Int)).bind λU=>
 (idx snaps W.2).bind λZ=>
 (zdQ g U.g Z).bind λV=>
 (if W.1=true then (some true)
 else (if V.2=true then (some (Dc (V.1.b=U.b)))
 else (some false))).bind (λ(T25:Bool)=>
 some (.go (T25,I6.wrap (W.2+(1:Int))))))
 else (some (.done (.go W.1)))) (Dc ((k:Int)=(0:Int)),(0:Int))=some (.go (stayV snaps l (a+k))):=by
   rw[zl (λm=>(Dc (k=0)||(snaps.take m).any (λs=>visE g s k),(m:Int))) snaps.length (r:=Ctl.go (Dc (k=0)||snaps.any (λs=>visE g s k))) ?i0]
   case i0=>
    rw[show Dc ((k:Int)=0)=Dc (k=0) from decide_eq_decide.2 (by omega)]
    simp
   ·congr 2
    cases k with
    | zero=>
      simp only[decide_true,Bool.true_or,Nat.add_zero]
      cases a with
      | zero=>rfl
      | succ b=>
        have:=A b (by omega) (b+1) (by omega) (by omega) (Bz _)
        rw[zkj snaps l b (by omega),decide_eq_false this]
        rfl
    | succ j=>
      rw[show a+(j+1)=(a+j)+1 by omega,zkj snaps l (a+j) (by omega)]
      have H:(l[a+j]'(by omega)).g=(l[a+j+1]'(by omega)).g:=u _ _ _ _ (by omega) (by omega) (by omega) (by omega)
      rw[decide_eq_true H]
      simp only[Nat.add_one_ne_zero,decide_false,Fh,Bf]
      congr 1
      funext s
      rw[zgs g s (j+1) c]
      have I:=f (j+1) w
      have N:=f j (by omega)
      rw[I,show l[a+(j+1)]'(by omega)=l[a+j+1]'(by omega) from rfl]
      congr 1
      rw[Bool.eq_iff_iff,By,decide_eq_true_eq]
      constructor
      ·intro O
       have p:g[j]'(by omega)∈g.take (j+1):=by
        have:(g.take (j+1))[j]'(by grind)=g[j]'(by omega):=by simp
        grind
       grind
      ·intro P d J
       obtain ⟨i,hi,rfl⟩:=Bp J
       have Q:i<j+1:=by grind
       simp only[Dh]
       rw[f i (by omega)]
       have R:(l[a+j]'(by omega)).b<=(l[a+i]'(by omega)).b:=by
        by_cases e:i=j
        ·simp_all
        ·rcases zhk q (a+j) (by omega) (a+i) (by omega) with o | ⟨_,o⟩
         ·rw[u (a+i) (by omega) (a+j) (by omega) (by omega) (by omega) (by omega) (by omega),zb0]at o
          trivial
         ·omega
       grind
   ·intro m p
    simp only[zb g k c,zb snaps m p,An,zjG g _ _ (by omega)]
    rw[if_pos (by simp_all),za (n:=(m:Int)+1) (by omega) (by omega),Di,Cj p,Ey,<-Bool.or_assoc]
    simp only[Option.toList_some,Dq,Fk,Fi]
    generalize (Dc (k=0)||(snaps.take m).any (λs=>visE g s k))=st
    cases z:visE g snaps[m] k with
    | true=>
      rw[ztx c z]
      cases st<;>simp
    | false=>
      have t:=zvq v c z
      cases K:g.find? (λd=>decide (d.g=g[k].g)&&Dc (d.b<=snaps[m])) with
      | none=>cases st<;>simp
      | some d=>
        have:=t d K
        cases st<;>simp[this]
   ·simp
  rw[if_pos (by simp_all)]
  simp only[G,zd,zmF snaps l a k (by omega)]
  rw[za (n:=(k:Int)+1) (by omega) (by omega)]
  cases stayV snaps l (a+k) with
  | true=>
    simp only[if_true,zb g k c,An,f k w]
    rw[zg (by grind) (by grind)]
    rfl
  | false=>simp
 ·simp_all
def zwR (l:List Ac) (a:Nat) (d:a<l.length) (h:l.length<=1048576): ∃e:Nat,ziv l (a:Int)=some (e:Int)/\a<e/\e<=l.length/\(∀i (hi:i<l.length),a<=i->i<e->l[i].g=l[a].g)/\(∀hi:e<l.length,l[e].g≠l[a].g):=by
 unfold ziv;have key: ∃c,loopO (ρ:=Ctl Int Int) (λ(B:Int)=>(if (Dc (B<(l.length:Int)))=true then ((idx l B).bind λE=>
 (idx l (a:Int)).bind λD=>
 some (Dc (E.g=D.g)))
 else (some false)).bind (λ(F:Bool)=>
 if F=true then (some (.go (I6.wrap (B+(1:Int)))))
 else (some (.done (.go B))))) (a:Int)=some c/\∃e:Nat,c= .go (e:Int)/\a<e/\e<=l.length/\(∀i (hi:i<l.length),a<=i->i<e->l[i].g=l[a].g)/\(∀hi:e<l.length,l[e].g≠l[a].g):=by
  refine zbr (λk s=>s=((a+k:Nat):Int)/\∀i (hi:i<l.length),a<=i->i<a+k->l[i].g=l[a].g) (l.length - a) _ ⟨rfl,λi hi b f=>by omega⟩ ?_ ?_
  ·rintro k s o ⟨rfl,A⟩;have j:a+k<l.length:=by omega
   simp only[zb l (a+k) j,zb l a d,An];rw[if_pos (by simp;omega),za (by omega) (by omega)];by_cases c:l[a+k].g=l[a].g
   ·left;refine ⟨((a+k:Nat):Int)+1,by simp[c],by omega,λi hi b f=>?_⟩;by_cases e:i=a+k
    ·subst e;exact c
    ·exact A i hi b (by omega)
   ·right;refine ⟨.go ((a+k:Nat):Int),by simp[c],a+k,rfl,?_,by omega,A,λ_=>c⟩;have:k≠0:=by rintro rfl;exact c rfl
    omega
  ·rintro s ⟨rfl,A⟩;have m:a+(l.length - a)=l.length:=by omega
   rw[m]at A |-
   exact ⟨.go (l.length:Int),by simp,l.length,rfl,d,Bz _,A,λhi=>absurd hi (by omega)⟩
 obtain ⟨c,n,e,rfl,b⟩:=key;exact ⟨e,by rw[n];rfl,b⟩
def zxv (c:entsV l=true) {e:Nat} (k:cutV l a) (m:a<e) (t:a<l.length) (n: ∀i (hi:i<l.length),a<=i->i<e->l[i].g=l[a].g) (o: ∀hi:e<l.length,l[e].g≠l[a].g):cutV l e:=by
 intro i hi j d p u b;by_cases q:i<a
 ·exact k i hi j d q (by omega) b
 ·rw[n i hi (by omega) p]at b;have f:e<l.length:=by omega
  have v:=o f;have s:sLt l[a].g l[e].g=true:=by
   rcases zhk c e f a m with h | ⟨h,_⟩
   ·exact h
   ·simp_all
  by_cases w:j=e
  ·simp_all
  ·rcases zhk c j d e (by omega) with h | ⟨h,_⟩
   ·have:=zcZ s h;rw[<-b,zb0]at this;trivial
   ·simp_all
def compactR (l:List Ac) (snaps:List Int) (h:Bool):List Ac:=if l.length<=400/\entsV l=true then finE h (keepT snaps l 0 l.length) else []
theorem znC (l:List Ac) (snaps:List Int) (F:Bool) (h:l.length<=1048576) (hs:snaps.length<=1048576):zeL l snaps F=some (compactR l snaps F):=by
 unfold zeL compactR;rw[zgp l h];by_cases hl:l.length<=400
 ·rw[if_neg (by grind)];cases f:entsV l with
  | false=>simp
  | true=>
    simp only[An,Bf,Ba,if_false];rw[if_pos ⟨hl,trivial⟩];rw[zb3 (λk s=>∃a:Nat,s=((a:Int),finE F (keepT snaps l 0 a))/\a<=l.length/\k<=a/\cutV l a) l.length (Ctl.go (finE F (keepT snaps l 0 l.length))) ?h0 ?h1 ?h2]
    ·rfl
    case h0=>
     refine ⟨0,?_,Eb _,Bz _,λi hi j b h1 h2=>by omega⟩
     cases F<;>rfl
    ·rintro k s z ⟨a,rfl,A,B,c⟩;by_cases g:a<l.length
     ·left;obtain ⟨e,n,h1,h2,d,o⟩:=zwR l a g h;have p:keepT snaps l 0 e=keepT snaps l 0 a++keepT snaps l a (e - a):=by have:=zs2 snaps l 0 a (e - a);grind
      have q:finE F (keepT snaps l 0 e)=finE F (keepT snaps l 0 a)++finE F (keepT snaps l a (e - a)):=by rw[p];refine zvz F _ _ λx t y u=>?_;obtain ⟨i,hi,m,rfl⟩:=zlm snaps l 0 a x t;obtain ⟨j,b,v,rfl⟩:=zlm snaps l a (e - a) y u;exact c _ _ _ _ (by omega) (by omega)
      refine ⟨((e:Int),finE F (keepT snaps l 0 e)),?_,e,rfl,h2,by omega,zxv f c h1 g d o⟩;have C:=Bw (zuv F (keepT snaps l 0 a)) (zho snaps l 0 a);have D:=Bw (zuv F (keepT snaps l a (e - a))) (zho snaps l a (e - a));simp only[n,An];rw[if_pos (by simp_all),zZ l a e _ _ rfl rfl (by omega) h2];simp only[An];rw[zxO l snaps F a (e - a) f h hs (by omega) c (λi hi j b m v w E=>(d i hi m (by omega)).trans (d j b w (by omega)).symm)];simp only[An];rw[zg (by omega) (by omega),q];rfl
     ·grind
    ·grind
 ·grind
def flushS (e:Aa):Bool × Aa:=bif Dc (e.s.length=0\/6<=e.q.length) then (false,e) else (true,⟨[],e.s::e.q,e.b,e.t⟩)
def zeC (h:e.s.length=0\/6<=e.q.length):flushS e=(false,e):=by unfold flushS;rw[decide_eq_true h];rfl
def zhC (h: ¬(e.s.length=0\/6<=e.q.length)):flushS e=(true,⟨[],e.s::e.q,e.b,e.t⟩):=by unfold flushS;rw[decide_eq_false h];rfl
def flushR (e:Aa):Aa × Bool:=bif engV e then ((flushS e).2,(flushS e).1) else (⟨[],[],0,[]⟩,false)
theorem zna (e:Aa) (f:e.q.length<=1048576):zfS e=some (flushS e):=by
 unfold zfS zbz ins;by_cases c:e.s.length=0
 ·have b:(e.s.length:Int)=0:=by omega
  rw[zeC (Or.inl c),if_pos (decide_eq_true b)];rfl
 ·have b: ¬(e.s.length:Int)=0:=by omega
  rw[if_neg (by simp_all)];by_cases d:6<=e.q.length
  ·have a:(e.q.length:Int)>=6:=by omega
   rw[zeC (Or.inr d),decide_eq_true a];rfl
  ·have a: ¬(e.q.length:Int)>=6:=by omega
   rw[zhC (by omega),decide_eq_false a];grind
theorem zp8 (e:Aa) (b:e.s.length<=1048576) (c:e.q.length<=1048576) (d:totalV e.q<=1048576) (f:e.t.length<=1048576):zgY e=some (flushR e):=by
 have h: ∀t∈e.q,t.length<=1048576:=λt i=>Bw (ze8 Da i) d;unfold zgY flushR;rw[zb2 e b c d f];cases l:engV e with
 | false=>rfl
 | true=>
   simp only[An,Bf,Ba,if_false,if_true,zcj e b c h f,cond_true];by_cases j:e.s.length=0
   ·have g:(e.s.length:Int)=0:=by omega
    rw[if_pos (decide_eq_true g),zeC (Or.inl j)];rfl
   ·have g: ¬(e.s.length:Int)=0:=by omega
    rw[if_neg (by simp_all)];by_cases k:6<=e.q.length
    ·have a:(e.q.length:Int)>=6:=by omega
     rw[zeC (Or.inr k),decide_eq_true a];rfl
    ·have a: ¬(e.q.length:Int)>=6:=by omega
     rw[zhC (by omega),decide_eq_false a];simp only[An,Ba,if_false];rw[zg (by grind) (by grind)];rfl
theorem zwa {a:Int} (c:0<=a) (d:a<=4611686018427387904):I6.wrap (ishr .u64 (IntKind.u64.wrap (I6.wrap a)) (1:Int))=a / 2:=by
 have b:IntKind.u64.wrap a=a:=by simp[IntKind.wrap,IntKind.bits,IntKind.signed];omega
 have hs:ishr .u64 a (1:Int)=a / 2:=by unfold ishr;show a.fdiv (2 ^ 1)=a / 2;grind
 rw[za (n:=a) (by omega) (by omega),b,hs,za (by omega) (by omega)]
theorem bisect (x:List α) (F:α->Option Int) (c:α->Int) (n: ∀e∈x,F e=some (c e)) (v:x.length<=1048576):
 ∃j,j<=x.length/\loopO (ρ:=Ctl Int ρ) (λ(A:Int × Int)=>if (Dc (A.1<A.2))=true then ((idx x (I6.wrap (ishr .u64 (IntKind.u64.wrap (I6.wrap (A.1+A.2))) (1:Int)))).bind λD=>
 (F D).bind λE=>
 bindC (if (Dc (E<(0:Int)))=true then (some (.go (I6.wrap (I6.wrap (ishr .u64 (IntKind.u64.wrap (I6.wrap (A.1+A.2))) (1:Int))+(1:Int)),A.2)))
 else (some (.go (A.1,I6.wrap (ishr .u64 (IntKind.u64.wrap (I6.wrap (A.1+A.2))) (1:Int))))))
 (λ(B:Int × Int)=>some (.go (B.1,B.2))))
 else (some (.done (.go A.1)))) ((0:Int),(x.length:Int))=some (.go (j:Int))/\(∀i (hi:i<x.length),i+1=j->c x[i]<0)/\(∀l:j<x.length,0<=c x[j]):=by
 obtain ⟨r,o,j,rfl,d,f,p⟩:=zbr (ρ:=Ctl Int ρ) (s0:=((0:Int),(x.length:Int))) (body:=λ(A:Int × Int)=>if (Dc (A.1<A.2))=true then ((idx x (I6.wrap (ishr .u64 (IntKind.u64.wrap (I6.wrap (A.1+A.2))) (1:Int)))).bind λD=>
 (F D).bind λE=>
 bindC (if (Dc (E<(0:Int)))=true then (some (.go (I6.wrap (I6.wrap (ishr .u64 (IntKind.u64.wrap (I6.wrap (A.1+A.2))) (1:Int))+(1:Int)),A.2)))
 else (some (.go (A.1,I6.wrap (ishr .u64 (IntKind.u64.wrap (I6.wrap (A.1+A.2))) (1:Int))))))
 (λ(B:Int × Int)=>some (.go (B.1,B.2))))
 else (some (.done (.go A.1))))
  (λk s=>∃a b:Nat,s=((a:Int),(b:Int))/\a<=b/\b<=x.length/\b - a+k<=x.length/\(∀i (hi:i<x.length),i+1=a->c x[i]<0)/\(∀l:b<x.length,0<=c x[b])) x.length
  (λr=>∃j:Nat,r= .go (j:Int)/\j<=x.length/\(∀i (hi:i<x.length),i+1=j->c x[i]<0)/\(∀l:j<x.length,0<=c x[j]))
  ⟨0,x.length,rfl,Eb _,Bz _,by omega,λi hi h=>by omega,λh=>by omega⟩ (by
    rintro k s w ⟨a,b,rfl,y,q,z,d,f⟩;by_cases t:a<b
    ·left;have u:((a:Int)+(b:Int)) / 2=(((a+b) / 2:Nat):Int):=by omega
     have m:(a+b) / 2<x.length:=by omega
     simp only[zwa (a:=(a:Int)+(b:Int)) (by omega) (by omega),u,zb x _ m,An,n _ (Cr m)];rw[if_pos (by simpa using t)];by_cases g:c x[(a+b) / 2]<0
     ·rw[if_pos (by simpa using g),za (by omega) (by omega)];refine ⟨_,rfl,(a+b) / 2+1,b,rfl,by omega,q,by omega,λi hi h=>?_,f⟩;obtain rfl:i=(a+b) / 2:=by omega
      exact g
     ·rw[if_neg (by simpa using g)];exact ⟨_,rfl,a,(a+b) / 2,rfl,by omega,by omega,by omega,d,λ_=>by omega⟩
    ·grind) (by
    grind)
 exact ⟨j,d,o,f,p⟩
theorem ziV {a b c:Ac} (d:entLt a b=true) (e:entLt b c=true):entLt a c=true:=by
 unfold entLt at d e |-
 simp only[Df,Bl,decide_eq_true_eq]at d e |-
 rcases d with d | ⟨d,f⟩
 ·rcases e with e | ⟨e,_⟩
  ·exact .inl (zcZ d e)
  ·simp_all
 ·grind
theorem zpc {a b:Ac} (h: ¬(a.g=b.g/\a.b=b.b)) (c:entLt a b=false):entLt b a=true:=by
 unfold entLt at c |-
 simp only[Bool.or_eq_false_iff,Bool.and_eq_false_iff,decide_eq_false_iff_not]at c;simp only[Df,Bl,decide_eq_true_eq];have d:=zjs a.g b.g;grind
theorem zeB (a b:Ac): ∃r,zq a b=some r/\Dc (r<0)=entLt a b/\(r=0↔(a.g=b.g/\a.b=b.b)):=by
 unfold zq entLt;rw[zv5,zv4];simp only[An,zum];refine ⟨_,rfl,?_⟩;by_cases c:sLt a.g b.g=true
 ·have d: ¬a.g=b.g:=λe=>by rw[e,zb0]at c;cases c
  simp_all
 ·grind
def insE (l:List Ac) (e:Ac) (j:Nat):List Ac:=l.take j++(e::l.drop j)
theorem zuD {e x:Ac} {j:Nat} :x∈insE l e j↔x=e\/x∈l:=by
 unfold insE;rw[Dg,Fj];conv=>rhs;rw[<-Cy j l,Dg]
 grind
def zuC (l:List Ac) (e:Ac) (j:Nat) (h:j<=l.length):(insE l e j).length=l.length+1:=by unfold insE;simp;omega
def ordE (l:List Ac):Prop:=l.Pairwise λa b=>entLt a b=true
theorem zyR {e:Ac} {j:Nat} (hl:ordE l) (c: ∀i (hi:i<l.length),i<j->entLt l[i] e=true) (d: ∀i (hi:i<l.length),j<=i->entLt e l[i]=true):ordE (insE l e j):=by
 unfold ordE insE at*;have b:=hl;rw[<-Cy j l,Ee]at b;have m1: ∀x∈l.take j,entLt x e=true:=by intro x a;obtain ⟨i,hi,rfl⟩:=Bp a;grind
 have m2: ∀x∈l.drop j,entLt e x=true:=by intro x a;obtain ⟨i,hi,rfl⟩:=Bp a;simp_all
 rw[Ee,List.pairwise_cons];simp_all
theorem zbn (l:List Ac):entsV l=true↔(∀x∈l,entV x=true)/\ordE l:=by
 constructor
 ·intro h;refine ⟨λx d=>?_,?_⟩
  ·obtain ⟨k,a,rfl⟩:=Bp d;unfold entsV at h;rw[By]at h;have:=h k (by simp_all);rw[zfQ l k a,Bl]at this;simp_all
  ·unfold ordE;rw[De];intro i j hi e f;unfold entLt;simp only[Df,Bl,decide_eq_true_eq];exact zhk h j e i f
 ·rintro ⟨g,b⟩;unfold ordE at b;rw[De]at b;unfold entsV;rw[By];intro k a;have c:k<l.length:=by simp_all
  rw[zfQ l k c,g _ (Cr c)];grind
def putF (l:List Ac) (f:Ac) (j k:Nat):Bool × Int × List Ac:=bif Ek k j then (false,(k:Int),l.take k) else (true,(k:Int),l.take j++(f::(l.drop j).take (k - j)))
def zl6 (l:List Ac) (f:Ac) (j k:Nat) (h:k<=j):putF l f j k=(false,(k:Int),l.take k):=by unfold putF;rw[Ea h];rfl
def zoC (l:List Ac) (f:Ac) (j k:Nat) (h:j<k):putF l f j k=(true,(k:Int),l.take j++(f::(l.drop j).take (k - j))):=by
 unfold putF;have:Ek k j=false:=by
  cases a:Ek k j
  ·rfl
  ·simp_all;omega
 simp_all
theorem zuc (l:List Ac) (f:Ac) (j:Nat) (hl:l.length<=1048576) (o:j<=l.length) (e: ∀i (hi:i<l.length),i<j->entLt f l[i]=false) (g: ∀hi:j<l.length,entLt f l[j]=true):
 zdR l f=some (insE l f j):=by
 unfold zdR;rw[zl (putF l f j) l.length (r:=Ctl.go ((putF l f j l.length).1,(putF l f j l.length).2.2)) ?h0]
 case h0=>rw[zl6 _ _ _ _ (Eb _)];rfl
 ·by_cases h:j=l.length
  ·subst h;rw[zl6 _ _ _ _ (Bz _)];simp only[zd,Bt,if_true];rw[zg (by grind) (by grind)];simp[insE]
  ·rw[zoC _ _ _ _ (by omega)];simp only[zd,Bf,Ba,if_false];unfold insE;rw[Cu (l:=l.drop j) (by simp)]
 ·intro k a;have c:=za (n:=(k:Int)+1) (by omega) (by omega);rcases Ep k j with b | b | b
  ·have d:l.take (k+1)=l.take k++ [l[k]]:=by simp
   rw[zl6 _ _ _ _ (by omega),zl6 _ _ _ _ (by omega)];simp only[zb l k a,An,Bt,if_true,c,zdP,e k a b,Ba,if_false,zd];rw[if_pos (by simp_all),zg (by grind) (by simp;omega),d];rfl
  ·subst b;rw[zl6 _ _ _ _ (Bz _),zoC _ _ _ _ (by omega)];simp only[zb l k a,An,Bt,if_true,c,zdP,g a];rw[if_pos (by simp_all),zg (by grind) (by simp;omega)];simp only[An,zd];rw[zg (by grind) (by grind)];have:(l.drop k).take (k+1 - k)= [l[k]]:=by rw[Bo a,show k+1 - k=1 by omega];rfl
   simp_all
  ·rw[zoC _ _ _ _ (by omega),zoC _ _ _ _ (by omega)];simp only[zb l k a,An,Bf,Ba,if_false,c,zd];rw[if_pos (by simp_all),zg (by grind) (by simp;omega)];have m:k - j<(l.drop j).length:=by grind
   have d:(l.drop j).take (k+1 - j)=(l.drop j).take (k - j)++ [l[k]]:=by rw[show k+1 - j=(k - j)+1 by omega,Di,Cj m,Dp];grind
   simp_all
 ·have hi:(putF l f j l.length).2.1=(l.length:Int):=by unfold putF;grind
  simp_all
theorem zwO (l:List Ac) (x:Ac) (j:Nat) (a:j<=l.length) (h:l.length<=1048576):zdt l (j:Int) [x]=some (insE l x j):=by unfold zdt ins insE;grind
theorem zp4 (l:List Ac) (e:Ac) (hl:ordE l) (h:l.length<=1048576) (t: ∀x∈l,¬(x.g=e.g/\x.b=e.b)):
 ∃j,j<=l.length/\ziH l e=some (insE l e j,true)/\zdR l e=some (insE l e j)/\ordE (insE l e j):=by
 have u: ∀x∈l,zq x e=some ((zq x e).getD 0):=by intro x _;obtain ⟨r,v,_⟩:=zeB x e;simp_all
 have w: ∀x:Ac,(((zq x e).getD 0<0)↔entLt x e=true)/\((zq x e).getD 0=0↔(x.g=e.g/\x.b=e.b)):=by intro x;obtain ⟨r,v,k,m⟩:=zeB x e;grind
 obtain ⟨j,d,n,k,m⟩:=bisect (ρ:=Int × Bool) l (λx=>zq x e) (λx=>(zq x e).getD 0) u h;have o: ∀a b (D:a<l.length) (n:b<l.length),a<b->entLt l[a] l[b]=true:=by unfold ordE at hl;rw[De]at hl;trivial
 have p: ∀i (hi:i<l.length),i<j->entLt l[i] e=true:=by
  intro i hi f;have q:=((w _).1.1 (k (j - 1) (by omega) (by omega)));by_cases y:i=j - 1
  ·grind
  ·exact ziV (o i (j - 1) hi (by omega) (by omega)) q
 have s: ∀i (hi:i<l.length),j<=i->entLt e l[i]=true:=by
  intro i hi f;have c:j<l.length:=by omega
  have q:=m c;have z:entLt e l[j]=true:=by refine zpc (t _ (Cr c)) ?_;grind
  by_cases y:j=i
  ·grind
  ·exact ziV z (o j i c hi (by omega))
 have asym: ∀a b:Ac,entLt a b=true->entLt b a=false:=by
  intro a b A;cases B:entLt b a with
  | false=>rfl
  | true=>have:=ziV A B;unfold entLt at this;rw[zb0]at this;grind
 refine ⟨j,d,?_,zuc l e j h d (λi hi f=>asym _ _ (p i hi f)) (λhi=>s j hi (Bz _)),zyR hl p s⟩;unfold ziH zbd;rw[n];simp only[zd];have C:(if (Dc ((j:Int)<(l.length:Int)))=true then ((idx l (j:Int)).bind λE=>(zq E e).bind λF=>some (Dc (F=(0:Int)))) else (some false))=some false:=by
  by_cases c:j<l.length
  ·rw[if_pos (by grind),zb l j c];grind
  ·grind
 rw[C];simp only[An,Ba,if_false,zwO l e j d h]
def opV (o:Op):Bool:=Dc (1<=(o.g.length:Int)/\(o.g.length:Int)<=10)&&(Dc ((o.F.length:Int)<=16)&&(!o.M||decide (o.F= [])))
theorem zon (o:Op):zfM o=some (opV o):=by unfold zfM opV;simp only[zbm,An];grind
theorem zuB (o:Op):((zf0 o.g).bind λh=>if (!h)=true then (some true) else ((zf1 o.M o.F).bind λA=>some (!A)))=some (!opV o):=by unfold zf0 zf1 opV;simp only[z6,An];grind
def batchV (l:List Op):Bool:=Dc (1<=l.length/\l.length<=6)&&l.all opV
def batchI (l:List Op):Dc (1<=(l.length:Int)/\(l.length:Int)<=6)=Dc (1<=l.length/\l.length<=6):=decide_eq_decide.2 (by omega)
theorem zdN (l:List Op) (h:l.length<=1048576):zdk l=some (batchV l):=by
 unfold zdk batchV;simp only[zbm,An,batchI];by_cases a:1<=l.length/\l.length<=6
 ·rw[decide_eq_true a];simp only[Bf,Ba,if_false,Cq];rw[zb3 (λk s=>s=(k:Int)/\l.all opV=(l.drop k).all opV) l.length (if l.all opV=true then Ctl.go () else Ctl.done false) ?h0 ?h1 ?h2]
  ·cases l.all opV<;>rfl
  case h0=>exact ⟨rfl,rfl⟩
  ·rintro k s b ⟨rfl,c⟩;simp only[zb l k b,An,zon];rw[if_pos (by simp_all),za (n:=(k:Int)+1) (by omega) (by omega),c,Bo b,Ei];grind
  ·simp
 ·rw[decide_eq_false a];rfl
theorem zfg (l:List Op) (h:l.length<=1048576):zc9 l=some (batchV l):=by
 unfold zc9 batchV;rw[zb3 (λk s=>s=(k:Int)/\l.all opV=(l.drop k).all opV) l.length (if l.all opV=true then Ctl.go () else Ctl.done false) ?h0 ?h1 ?h2]
 ·cases l.all opV with
  | false=>simp
  | true=>simp only[if_true,zd,z6,An,batchI,Ej]
 case h0=>exact ⟨rfl,rfl⟩
 ·rintro k s a ⟨rfl,b⟩;simp only[zb l k a,An,zuB];rw[if_pos (by simp_all),za (n:=(k:Int)+1) (by omega) (by omega),b,Bo a,Ei];grind
 ·simp
def laterV (l:List Op) (k:Nat) (key:List UInt8):Bool:=(l.drop (k+1)).any λx=>decide (x.g=key)
theorem zm7 (s:List Op) (c:Op) (h:s.length<=1048576):zH s c=some (s.any λx=>decide (x.g=c.g)):=by
 unfold zH;have key: ∃r:Int,z7 s c=some r/\Dc (r>=0)=s.any λx=>decide (x.g=c.g):=by
  unfold z7 zgv;obtain ⟨r,b,d⟩:=zbr (ρ:=Ctl Unit Int) (s0:=(0:Int)) (body:=λ(A:Int)=>if (Dc (A<(s.length:Int)))=true then ((idx s A).bind λB=>
   (some (Dc (B.g=c.g))).bind λD=>
   if D=true then (some (.done (.done A)))
   else (some (.go (I6.wrap (A+(1:Int))))))
   else (some (.done (.go ()))))
   (λk t=>t=(k:Int)/\(s.any λx=>decide (x.g=c.g))=(s.drop k).any λx=>decide (x.g=c.g)) s.length
   (λr=>(∃i:Nat,r= .done (i:Int)/\(s.any λx=>decide (x.g=c.g))=true)\/(r= .go ()/\(s.any λx=>decide (x.g=c.g))=false))
   ⟨rfl,rfl⟩ (by
     rintro k t a ⟨rfl,e⟩;rw[Bo a,Dq]at e;simp only[zb s k a,An];rw[if_pos (by simp_all),za (n:=(k:Int)+1) (by omega) (by omega)];cases j:Dc (s[k].g=c.g) with
     | true=>grind
     | false=>simp_all) (by
     simp)
  rw[b];rcases d with ⟨i,rfl,f⟩ | ⟨rfl,f⟩
  ·simp_all
  ·simp_all
 grind
theorem zxQ (l:List Op) (k:Nat) (a:k<l.length) (h:l.length<=1048576):
 loopO (ρ:=Ctl Bool ρ) (λ(A:Bool × Int)=>if (Dc (A.2<(l.length:Int)))=true then ((if A.1=true then ((idx l A.2).bind λB=>
 (idx l (k:Int)).bind λD=>
 some (!(Dc (B.g=D.g))))
 else (some false)).bind (λ(E:Bool)=>
 some (.go (E,I6.wrap (A.2+(1:Int))))))
 else (some (.done (.go A.1))))
 (true,I6.wrap ((k:Int)+(1:Int)))=some (.go (!laterV l k l[k].g)):=by
 rw[zl (λd=>(!(((l.drop (k+1)).take d).any λx=>decide (x.g=l[k].g)),((k+1+d:Nat):Int))) (l.length - (k+1)) (r:=Ctl.go (!laterV l k l[k].g)) ?h0]
 case h0=>rw[za (by omega) (by omega)];simp
 ·intro d f;have b:k+1+d<l.length:=by omega
  have c:d<(l.drop (k+1)).length:=by simp_all
  have e:(l.drop (k+1)).take (d+1)=(l.drop (k+1)).take d++ [l[k+1+d]]:=by rw[Di,Cj c,Dp];rfl
  simp only[zb l _ b,zb l k a,An,e,Ey,Dq,Fk,Fi];rw[if_pos (by grind),za (by omega) (by omega)];grind
 ·rw[show k+1+(l.length - (k+1))=l.length by omega,Cu (by simp)];simp[laterV]
def entO (o:Op) (seq:Int):Ac:=⟨o.g,seq,o.M,o.F⟩
def memB (l:List Op) (seq:Int) (m:List Ac):Nat->List Ac
 | 0=>m
 | k+1=>match l[k]? with
   | some o=>bif laterV l k o.g then memB l seq m k else (zdR (memB l seq m k) (entO o seq)).getD []
   | none=>memB l seq m k
def zid (l:List Op) (seq:Int) (m:List Ac) (k:Nat) (a:k<l.length) (h:laterV l k l[k].g=true):memB l seq m (k+1)=memB l seq m k:=by show (match l[k]? with | some o=>_ | none=>_)=_;simp_all
def zpY (l:List Op) (seq:Int) (m:List Ac) (k:Nat) (a:k<l.length) (h:laterV l k l[k].g=false):memB l seq m (k+1)=(zdR (memB l seq m k) (entO l[k] seq)).getD []:=by show (match l[k]? with | some o=>_ | none=>_)=_;simp_all
def invB (l:List Op) (seq:Int) (m:List Ac) (k:Nat) (x:Ac):Prop:=x∈m\/∃i,∃hi:i<l.length,i<k/\laterV l i l[i].g=false/\x=entO l[i] seq
theorem zpX (l:List Op) (seq:Int) (m M:List Ac) (k:Nat) (n:k<l.length) (hs: ∀x∈m,x.b<seq) (A: ∀x∈M,invB l seq m k x): ∀x∈M,¬(x.g=(entO l[k] seq).g/\x.b=(entO l[k] seq).b):=by
 rintro x c ⟨d,e⟩;rcases A x c with h | ⟨i,hi,o,a,rfl⟩
 ·have:=hs x h;have f:x.b=seq:=e;omega
 ·unfold laterV at a;rw[List.any_eq_false]at a;have j:l[k]∈l.drop (i+1):=by
   have:(l.drop (i+1))[k - (i+1)]'(by grind)=l[k]:=by grind
   grind
  refine a _ j ?_;have f:l[i].g=l[k].g:=d;simp_all
def zhq (l:List Op) (seq:Int) (m:List Ac) (o:ordE m) (hs: ∀x∈m,x.b<seq) (hl:m.length+l.length<=1048576): ∀k,k<=l.length->ordE (memB l seq m k)/\(memB l seq m k).length<=m.length+k/\(∀x∈memB l seq m k,invB l seq m k x)/\(∀x∈m,x∈memB l seq m k):=by
 intro k;induction k with
 | zero=>intro _;exact ⟨o,Bz _,λx a=>.inl a,λx a=>a⟩
 | succ k ih=>
   intro u;obtain ⟨f,v,d,n⟩:=ih (by omega);have c:k<l.length:=by omega
   cases e:laterV l k l[k].g with
   | true=>
     rw[zid l seq m k c e];refine ⟨f,by omega,λx a=>?_,n⟩;rcases d x a with h | ⟨i,hi,p,h⟩
     ·exact .inl h
     ·exact .inr ⟨i,hi,by omega,h⟩
   | false=>
     obtain ⟨j,q,_,s,t⟩:=zp4 (memB l seq m k) (entO l[k] seq) f (by omega) (zpX l seq m _ k c hs d);rw[zpY l seq m k c e,s];refine ⟨t,?_,λx a=>?_,λx a=>?_⟩
     ·rw[Option.getD_some,zuC _ _ _ q];omega
     ·rcases zuD.1 a with rfl | a
      ·exact .inr ⟨k,c,by omega,e,rfl⟩
      ·rcases d x a with h | ⟨i,hi,p,h⟩
       ·exact .inl h
       ·exact .inr ⟨i,hi,by omega,h⟩
     ·exact zuD.2 (.inr (n x a))
def zoa (l:List Op) (seq:Int) (m:List Ac) (c:ordE m) (hs: ∀x∈m,x.b<seq) (hl:m.length+l.length<=1048576) (k:Nat) (a:k<l.length) (d:laterV l k l[k].g=false):
    ziH (memB l seq m k) (entO l[k] seq)=some (memB l seq m (k+1),true)/\zdR (memB l seq m k) (entO l[k] seq)=some (memB l seq m (k+1)):=by obtain ⟨e,n,f,_⟩:=zhq l seq m c hs hl k (by omega);obtain ⟨j,o,h,i,_⟩:=zp4 (memB l seq m k) (entO l[k] seq) e (by omega) (zpX l seq m _ k a hs f);rw[zpY l seq m k a d,h,i];trivial
theorem zjC (m:Int): ∀(l:List Ac) (s:Int × Int),(m<=(l.foldl (λs e=>(goMin s.1 e.b,goMax s.2 e.b)) s).1↔m<=s.1/\∀x∈l,m<=x.b)/\((l.foldl (λs e=>(goMin s.1 e.b,goMax s.2 e.b)) s).2<=m↔s.2<=m/\∀x∈l,x.b<=m)
 | [],s=>by simp
 | e::l,s=>by
   obtain ⟨a,c⟩:=zjC m l (goMin s.1 e.b,goMax s.2 e.b);simp only[List.foldl_cons];rw[a,c];have d:m<=goMin s.1 e.b↔m<=s.1/\m<=e.b:=by unfold goMin;omega
   have f:goMax s.2 e.b<=m↔s.2<=m/\e.b<=m:=by unfold goMax;omega
   grind
def zey (l:List Ac) (m:Int):m<=(rangeV l).1↔m<=1000001/\∀x∈l,m<=x.b:=(zjC m l _).1
def zjp (l:List Ac) (m:Int):(rangeV l).2<=m↔-1<=m/\∀x∈l,x.b<=m:=(zjC m l _).2
theorem zza {seq D A B:Int} (a:A<=B\/seq<B) (b:seq<=D): ∀t:List (List Ac),tabsV seq A t=true->tabsV D B t=true:=by
 have go: ∀(t:List (List Ac)) (A:Int),tabsV seq A t=true->tabsV D A t=true:=by
  intro t;induction t with
  | nil=>intro _ _;rfl
  | cons x t ih=>
    intro A h;simp only[tabsV,Bl,decide_eq_true_eq]at h |-
    grind
 intro t h;cases t with
 | nil=>rfl
 | cons x t=>
   simp only[tabsV,Bl,decide_eq_true_eq]at h |-
   grind
theorem zya {seq A:Int} {l:List Int} (d:seq<=A) (h:snapsV seq l=true):snapsV A l=true:=by
 unfold snapsV;rw[By];intro k e;have c:k<l.length:=by simp_all
 obtain ⟨a,b⟩:=zfH h k c;rw[zkR A l k c,Bl];grind
def engB (e:Aa) (l:List Op):Aa:=⟨memB l (e.b+1) e.s l.length,e.q,e.b+1,e.t⟩
def okB (e:Aa) (l:List Op):Bool:=Dc (e.b+1<=1000000)&&(Dc ((memB l (e.b+1) e.s l.length).length<=60)&&Dc (totalV e.q+(memB l (e.b+1) e.s l.length).length<=400))
def zbe (h:engV e=true):(0<=e.b/\e.b<=1000000)/\e.t.length<=4/\e.q.length<=6/\totalV e.q+e.s.length<=400/\(e.s.length<=60/\entsV e.s=true)/\(rangeV e.s).2<=e.b/\tabsV e.b (rangeV e.s).1 e.q=true/\snapsV e.b e.t=true:=by unfold engV memV at h;simp_all
def ziE {l:List Op} (h:engV e=true) (a:batchV l=true):ordE e.s/\(∀x∈e.s,x.b<e.b+1)/\e.s.length+l.length<=66:=by obtain ⟨g,i,j,k,c,d,m,n⟩:=zbe h;unfold batchV at a;rw[Bl,decide_eq_true_eq]at a;refine ⟨((zbn _).1 c.2).2,λx f=>?_,by omega⟩;have:=((zjp _ _).1 d).2 x f;omega
theorem zox {l:List Op} (h:engV e=true) (d:batchV l=true):engV (engB e l)=okB e l:=by
 obtain ⟨z,g,j,A,k,B,m,n⟩:=zbe h;obtain ⟨o,p,C⟩:=ziE h d;obtain ⟨q,D,f,E⟩:=zhq l (e.b+1) e.s o p (by omega) l.length (Bz _);unfold batchV at d;rw[Bl,decide_eq_true_eq,By]at d;unfold okB engB engV memV;simp only;rw[decide_eq_true g,decide_eq_true j,zya (by omega) n];by_cases t:e.b+1<=1000000
 ·have u:0<=e.b+1/\e.b+1<=1000000:=by omega
  rw[decide_eq_true t,decide_eq_true u];have v:entsV (memB l (e.b+1) e.s l.length)=true:=by
   rw[zbn];refine ⟨λx a=>?_,q⟩;rcases f x a with a | ⟨i,hi,_,_,rfl⟩
   ·exact ((zbn _).1 k.2).1 x a
   ·have:=d.2 _ (Cr hi);unfold opV at this;rw[Bl,Bl]at this;unfold entV entO;simp_all
  have w:(rangeV (memB l (e.b+1) e.s l.length)).2<=e.b+1:=by
   rw[zjp];refine ⟨by omega,λx a=>?_⟩;rcases f x a with a | ⟨i,hi,_,_,rfl⟩
   ·grind
   ·exact Ec _
  have y:(rangeV e.s).1<=(rangeV (memB l (e.b+1) e.s l.length)).1\/e.b<(rangeV (memB l (e.b+1) e.s l.length)).1:=by
   by_cases c:(rangeV e.s).1<=e.b+1
   ·left;rw[zey];have:=(zey e.s (rangeV e.s).1).1 (Ec _);refine ⟨this.1,λx a=>?_⟩;rcases f x a with a | ⟨i,hi,_,_,rfl⟩
    ·simp_all
    ·exact c
   ·right;have:e.b+1<=(rangeV (memB l (e.b+1) e.s l.length)).1:=by
     rw[zey];have F:=(zey e.s (rangeV e.s).1).1 (Ec _);refine ⟨by omega,λx a=>?_⟩;rcases f x a with a | ⟨i,hi,_,_,rfl⟩
     ·grind
     ·exact Ec _
    omega
  rw[v,decide_eq_true w,zza y (by omega) _ m];grind
 ·grind
def putR (e:Aa) (l:List Op):Aa × Bool:=bif engV e then (bif batchV l then (bif okB e l then (engB e l,true) else (e,false)) else (e,false)) else (⟨[],[],0,[]⟩,false)
theorem zgg (e:Aa) (l:List Op) (i:e.s.length<=1048576) (c:e.q.length<=1048576) (d:totalV e.q<=1048576) (f:e.t.length<=1048576) (j:l.length<=1048576):zcc e l=some (putR e l):=by
 have w: ∀t∈e.q,t.length<=1048576:=λt x=>Bw (ze8 Da x) d;unfold zcc putR;rw[zb2 e i c d f];cases h:engV e with
 | false=>rfl
 | true=>
   simp only[An,Bf,Ba,if_false,zcj e i c w f,cond_true,zdN l j];cases m:batchV l with
   | false=>rfl
   | true=>
     have A:=(zbe h).1;obtain ⟨o,p,B⟩:=ziE h m;have y:I6.wrap (e.b+(1:Int))=e.b+1:=za (by omega) (by omega);obtain ⟨C,D,E,F⟩:=zhq l (e.b+1) e.s o p (by omega) l.length (Bz _);simp only[Bf,Ba,if_false,cond_true,y];rw[zl (λk=>((k:Int),memB l (e.b+1) e.s k)) l.length (r:=Ctl.go (memB l (e.b+1) e.s l.length)) ?h0]
     case h0=>rfl
     ·simp only[zd];have u:=zb2 (engB e l) (by show (memB l (e.b+1) e.s l.length).length<=_;omega) c d f;rw[zox h m]at u;unfold engB at u |-
      grind
     ·intro k a;rw[if_pos (by simp_all),zxQ l k a j];simp only[zd,zb l k a,An];rw[za (n:=(k:Int)+1) (by omega) (by omega)];cases v:laterV l k l[k].g with
      | true=>rw[zid l _ _ k a v];rfl
      | false=>have z:=(zoa l (e.b+1) e.s o p (by omega) k a v).2;unfold entO at z;simp_all
     ·simp
theorem zr3 (e:Aa) (l:List Op) (c:engV e=true) (i:batchV l=true):zdD e l=some (okB e l,engB e l):=by
 obtain ⟨t,u,v,w,y,_⟩:=zbe c;obtain ⟨d,f,z⟩:=ziE c i;have j:I6.wrap (e.b+(1:Int))=e.b+1:=za (by omega) (by omega);obtain ⟨A,B,C,D⟩:=zhq l (e.b+1) e.s d f (by omega) l.length (Bz _);unfold zdD;simp only[j];rw[zl (λk=>(true,(k:Int),memB l (e.b+1) e.s k)) l.length (r:=Ctl.go (true,memB l (e.b+1) e.s l.length)) ?h0]
 case h0=>rfl
 ·simp only[zd,if_true,zhU e.q (by omega) (by omega),An];rw[za (by omega) (by omega)];unfold okB engB;have E:Dc ((((memB l (e.b+1) e.s l.length).length:Nat):Int)<=60)=Dc ((memB l (e.b+1) e.s l.length).length<=60):=decide_eq_decide.2 (by omega);have F:Dc ((totalV e.q:Int)+(((memB l (e.b+1) e.s l.length).length:Nat):Int)<=400)=Dc (totalV e.q+(memB l (e.b+1) e.s l.length).length<=400):=decide_eq_decide.2 (by omega);grind
 ·intro k a;have m:piece l (I6.wrap ((k:Int)+(1:Int))) (l.length:Int)=some (l.drop (k+1)):=by rw[za (by omega) (by omega),zZ l (k+1) l.length _ _ (by omega) rfl (by omega) (Bz _),Cu (by simp)]
  simp only[zb l k a,An,m,zm7 _ l[k] (by simp;omega:(l.drop (k+1)).length<=1048576)];rw[if_pos (by simpa using a),za (n:=(k:Int)+1) (by omega) (by omega)];have o:((l.drop (k+1)).any λx=>decide (x.g=l[k].g))=laterV l k l[k].g:=rfl;rw[o];cases h:laterV l k l[k].g with
  | true=>rw[zid l _ _ k a h];rfl
  | false=>have p:=(zoa l (e.b+1) e.s d f (by omega) k a h).1;unfold entO at p;simp_all
 ·simp
theorem iand64 (c:a<2 ^ 63) (d:b<2 ^ 63):iand .i64 (a:Int) (b:Int)=((a &&& b:Nat):Int):=by
 unfold iand;have f:a &&& b<=a:=Ez;have e:(Bm I6.bits (a:Int) &&& Bm I6.bits (b:Int)).toNat=a &&& b:=by show (Bm 64 (a:Int) &&& Bm 64 (b:Int)).toNat=a &&& b;grind
 rw[e];exact za (by omega) (by omega)
theorem ior64 (c:a<2 ^ 63) (d:b<2 ^ 63):ior .i64 (a:Int) (b:Int)=((a ||| b:Nat):Int):=by
 unfold ior;have f:a ||| b<2 ^ 63:=Db c d;have e:(Bm I6.bits (a:Int) ||| Bm I6.bits (b:Int)).toNat=a ||| b:=by show (Bm 64 (a:Int) ||| Bm 64 (b:Int)).toNat=a ||| b;grind
 rw[e];exact za (by omega) (by omega)
theorem ixor64 (c:a<2 ^ 63) (d:b<2 ^ 63):ixor .i64 (a:Int) (b:Int)=((a ^^^ b:Nat):Int):=by
 unfold ixor;have f:a ^^^ b<2 ^ 63:=Dn c d;have e:(Bm I6.bits (a:Int) ^^^ Bm I6.bits (b:Int)).toNat=a ^^^ b:=by show (Bm 64 (a:Int) ^^^ Bm 64 (b:Int)).toNat=a ^^^ b;grind
 rw[e];exact za (by omega) (by omega)
def wrap32 (n:Int):IntKind.u32.wrap n=n % 4294967296:=by simp[IntKind.wrap,IntKind.bits,IntKind.signed]
def wrap64u (n:Int):IntKind.u64.wrap n=n % 18446744073709551616:=by simp[IntKind.wrap,IntKind.bits,IntKind.signed]
theorem ior32 (c:a<2 ^ 32) (d:b<2 ^ 32):ior .u32 (a:Int) (b:Int)=((a ||| b:Nat):Int):=by
 unfold ior;have f:a ||| b<2 ^ 32:=Db c d;have e:(Bm IntKind.u32.bits (a:Int) ||| Bm IntKind.u32.bits (b:Int)).toNat=a ||| b:=by show (Bm 32 (a:Int) ||| Bm 32 (b:Int)).toNat=a ||| b;grind
 rw[e,wrap32];omega
theorem ixor32 (c:a<2 ^ 32) (d:b<2 ^ 32):ixor .u32 (a:Int) (b:Int)=((a ^^^ b:Nat):Int):=by
 unfold ixor;have f:a ^^^ b<2 ^ 32:=Dn c d;have e:(Bm IntKind.u32.bits (a:Int) ^^^ Bm IntKind.u32.bits (b:Int)).toNat=a ^^^ b:=by show (Bm 32 (a:Int) ^^^ Bm 32 (b:Int)).toNat=a ^^^ b;grind
 rw[e,wrap32];omega
theorem iand8 (c:a<2 ^ 8) (d:b<2 ^ 8):iand .u8 (a:Int) (b:Int)=((a &&& b:Nat):Int):=by
 unfold iand;have f:a &&& b<=a:=Ez;have e:(Bm IntKind.u8.bits (a:Int) &&& Bm IntKind.u8.bits (b:Int)).toNat=a &&& b:=by show (Bm 8 (a:Int) &&& Bm 8 (b:Int)).toNat=a &&& b;grind
 rw[e];simp[IntKind.wrap,IntKind.bits,IntKind.signed];omega
theorem zdc {k:IntKind} (b:n<=k.bits):ishr k (a:Int) (n:Int)=((a / 2 ^ n:Nat):Int):=by unfold ishr;grind
def ishl64 (b:n<=64) (h:a*2 ^ n<2 ^ 63):ishl .i64 (a:Int) (n:Int)=((a*2 ^ n:Nat):Int):=by
 unfold ishl;have c:I6.bits=64:=rfl;rw[Bh,c,Fa b];have e:(a:Int)*2 ^ n=((a*2 ^ n:Nat):Int):=by rfl
 rw[e];exact za (by omega) (by omega)
def ishl32 (b:n<=32):ishl .u32 (a:Int) (n:Int)=((a*2 ^ n % 4294967296:Nat):Int):=by
 unfold ishl;have c:IntKind.u32.bits=32:=rfl;have e:(a:Int)*2 ^ n=((a*2 ^ n:Nat):Int):=by rfl
 rw[Bh,c,Fa b,wrap32,e];rfl
def zn4 (h:x<2 ^ 63):zbZ (x:Int)=some ((x % 4294967296:Nat):Int):=by unfold zbZ;rw[show (4294967295:Int)=((4294967295:Nat):Int) from rfl,iand64 h (by decide),show x &&& 4294967295=x % 4294967296 from Cg x 32]
def rotN (x n:Nat):Nat:=x*2 ^ n % 4294967296 ||| x / 2 ^ (32 - n)
def zzL (h:x<4294967296):rotN x n<4294967296:=by unfold rotN;refine Db (n:=32) (Dl _ (by decide)) ?_;exact Do (Dk _ _) h
def zxP (h:x<4294967296) (b:n<=16):zc0 (x:Int) (n:Int)=some (rotN x n:Int):=by
 unfold zc0 nn;have a:x*2 ^ n<2 ^ 63:=by
  have:2 ^ n<=2 ^ 16:=Eg (by decide) b
  calc x*2 ^ n<=x*2 ^ 16:=El _ this
   _<2 ^ 63:=by omega
 have c:x / 2 ^ (32 - n)<2 ^ 32:=Do (Dk _ _) h;have d:IntKind.u64.wrap ((32:Int) - (n:Int))=((32 - n:Nat):Int):=by rw[wrap64u];omega
 rw[if_neg (by omega),d,ishl64 (by omega) a,zdc (by show 32 - n<=64;omega),ior64 a (by omega)];simp only[An];rw[zn4 (Db a (by omega))];simp only[An];unfold rotN;rw[show (4294967296:Nat)=2 ^ 32 from rfl,Nat.or_mod_two_pow,Du c]
def zyZ (h:x<4294967296) (d:n<=16):zbb (x:Int) (n:Int)=some (rotN x n:Int):=by
 unfold zbb nn;have a:iand .u64 (IntKind.u64.wrap (n:Int)) (31:Int)=(n:Int):=by
  have e:IntKind.u64.wrap (n:Int)=(n:Int):=by rw[wrap64u];omega
  rw[e];unfold iand;have f:(Bm IntKind.u64.bits (n:Int) &&& Bm IntKind.u64.bits (31:Int)).toNat=n:=by show (Bm 64 (n:Int) &&& Bm 64 ((31:Nat):Int)).toNat=n;rw[Eh,Eh,BitVec.toNat_and,En,En,Du (by omega),Du (by omega)];rw[show n &&& 31=n % 32 from Cg n 5];omega
  simp_all
 have b:x / 2 ^ (32 - n)<2 ^ 32:=Do (Dk _ _) h;have c:IntKind.u64.wrap ((32:Int) - (n:Int))=((32 - n:Nat):Int):=by rw[wrap64u];omega
 rw[a,if_neg (by omega),c,ishl32 (by omega),zdc (by show 32 - n<=32;omega),ior32 (Dl _ (by decide)) b];rfl
def zpN {p q:Int} (e:0<=p/\p<4294967296) (f:0<=q/\q<4294967296):ior .u32 p q=ior .i64 p q/\0<=ior .i64 p q/\ior .i64 p q<4294967296:=by
 have c:p=(p.toNat:Int):=by omega
 have d:q=(q.toNat:Int):=by omega
 have a:p.toNat<2 ^ 32:=by omega
 have b:q.toNat<2 ^ 32:=by omega
 have g:=Db a b;rw[c,d,ior32 a b,ior64 (by omega) (by omega)];omega
def zxM (x:UInt8) (n:Nat) (a:n<=24):ishl .u32 (IntKind.u32.wrap ((x.toNat:Nat):Int)) (n:Int)=ishl .i64 (I6.wrap ((x.toNat:Nat):Int)) (n:Int)/\0<=ishl .i64 (I6.wrap ((x.toNat:Nat):Int)) (n:Int)/\ishl .i64 (I6.wrap ((x.toNat:Nat):Int)) (n:Int)<4294967296:=by
 have e:=x.toNat_lt;have b:IntKind.u32.wrap ((x.toNat:Nat):Int)=((x.toNat:Nat):Int):=by rw[wrap32];omega
 have c:I6.wrap ((x.toNat:Nat):Int)=((x.toNat:Nat):Int):=za (by omega) (by omega);have d:2 ^ n<=2 ^ 24:=Eg (by decide) a;have f:x.toNat*2 ^ n<=x.toNat*2 ^ 24:=El _ d;rw[b,c,ishl32 (by omega),ishl64 (by omega) (by omega)];omega
def zmD (x:UInt8) (n:Int) (a:0<=n/\n<=24):ishl .u32 (IntKind.u32.wrap ((x.toNat:Nat):Int)) n=ishl .i64 (I6.wrap ((x.toNat:Nat):Int)) n/\0<=ishl .i64 (I6.wrap ((x.toNat:Nat):Int)) n/\ishl .i64 (I6.wrap ((x.toNat:Nat):Int)) n<4294967296:=by
 have e:n=(n.toNat:Int):=by omega
 rw[e];exact zxM x n.toNat (by omega)
def zk8 {x:Option α} {g:α->Option β} (h: ∀a,f a=g a):x.bind f=x.bind g:=by
 cases x with
 | none=>rfl
 | some a=>exact h a
def zqY (a b c d:UInt8):ior .u32 (ior .u32 (ior .u32 (IntKind.u32.wrap ((a.toNat:Nat):Int)) (ishl .u32 (IntKind.u32.wrap ((b.toNat:Nat):Int)) (8:Int))) (ishl .u32 (IntKind.u32.wrap ((c.toNat:Nat):Int)) (16:Int))) (ishl .u32 (IntKind.u32.wrap ((d.toNat:Nat):Int)) (24:Int))=
     ior .i64 (ior .i64 (ior .i64 (I6.wrap ((a.toNat:Nat):Int)) (ishl .i64 (I6.wrap ((b.toNat:Nat):Int)) (8:Int))) (ishl .i64 (I6.wrap ((c.toNat:Nat):Int)) (16:Int))) (ishl .i64 (I6.wrap ((d.toNat:Nat):Int)) (24:Int))/\
     0<=ior .i64 (ior .i64 (ior .i64 (I6.wrap ((a.toNat:Nat):Int)) (ishl .i64 (I6.wrap ((b.toNat:Nat):Int)) (8:Int))) (ishl .i64 (I6.wrap ((c.toNat:Nat):Int)) (16:Int))) (ishl .i64 (I6.wrap ((d.toNat:Nat):Int)) (24:Int))/\
     ior .i64 (ior .i64 (ior .i64 (I6.wrap ((a.toNat:Nat):Int)) (ishl .i64 (I6.wrap ((b.toNat:Nat):Int)) (8:Int))) (ishl .i64 (I6.wrap ((c.toNat:Nat):Int)) (16:Int))) (ishl .i64 (I6.wrap ((d.toNat:Nat):Int)) (24:Int))<4294967296:=by
 have k:=a.toNat_lt;have l:IntKind.u32.wrap ((a.toNat:Nat):Int)=I6.wrap ((a.toNat:Nat):Int):=by rw[wrap32,za (by omega) (by omega)];omega
 have e:0<=I6.wrap ((a.toNat:Nat):Int)/\I6.wrap ((a.toNat:Nat):Int)<4294967296:=by rw[za (by omega) (by omega)];omega
 obtain ⟨m,f⟩:=zmD b 8 (by omega);obtain ⟨n,g⟩:=zmD c 16 (by omega);obtain ⟨o,h⟩:=zmD d 24 (by omega);obtain ⟨p,i⟩:=zpN e f;obtain ⟨q,j⟩:=zpN i g;obtain ⟨s,t⟩:=zpN j h;simp_all
def zxR (s:List UInt8) (at_:Int):zdU s at_=zP s at_:=by unfold zdU zP;exact zk8 λa=>zk8 λb=>zk8 λc=>zk8 λd=>congrArg some (zqY a b c d).1
def zuQ (s:List UInt8) (at_ r:Int) (h:zP s at_=some r):0<=r/\r<4294967296:=by unfold zP at h;obtain ⟨a,_,h⟩:=Cx.1 h;obtain ⟨b,_,h⟩:=Cx.1 h;obtain ⟨c,_,h⟩:=Cx.1 h;obtain ⟨d,_,h⟩:=Cx.1 h;rw[<-Option.some.inj h];exact (zqY a b c d).2
def zdg (s:List UInt8) (i:Nat) (h:i<s.length):sidx s (i:Int)=some s[i]:=by unfold sidx;simp
theorem zvK (s:List UInt8) (i:Nat) (h:i+3<s.length) (hs:s.length<=1048576): ∃n:Nat,zP s (i:Int)=some (n:Int)/\zdU s (i:Int)=some (n:Int)/\n<4294967296:=by
 have g:=zxR s (i:Int);have a:=zuQ s (i:Int);have hs': ∃r,zP s (i:Int)=some r:=by
  unfold zP;have w: ∀d:Nat,d<=3->I6.wrap ((i:Int)+(d:Int))=((i+d:Nat):Int):=λd j=>by rw[za (by omega) (by omega)];omega
  have b:I6.wrap ((i:Int)+(1:Int))=((i+1:Nat):Int):=w 1 (by omega);have c:I6.wrap ((i:Int)+(2:Int))=((i+2:Nat):Int):=w 2 (by omega);have e:I6.wrap ((i:Int)+(3:Int))=((i+3:Nat):Int):=w 3 (by omega);rw[b,c,e,zdg s i (by omega),zdg s (i+1) (by omega),zdg s (i+2) (by omega),zdg s (i+3) (by omega)];simp
 obtain ⟨r,f⟩:=hs';obtain ⟨p,q⟩:=a r f;refine ⟨r.toNat,?_,?_,by omega⟩
 ·grind
 ·grind
def okW (l:List Wrd):Prop:=∀x∈l,0<=x.v/\x.v<4294967296
def zwm {l:List Wrd} {i:Nat} {x:Wrd} (h:okW l) (c:0<=x.v/\x.v<4294967296):okW (l.set i x):=by
 intro y b;rcases List.mem_or_eq_of_mem_set b with a | a
 ·exact h y a
 ·simp_all
def qi (l:List Wrd) (x y z r:Int):Option (List Wrd):=
 (idx l x).bind λh=>(idx l y).bind λA=>(idx (l.set x.toNat (Wrd.mk (IntKind.u32.wrap (h.v+A.v)))) z).bind λD=>(idx (l.set x.toNat (Wrd.mk (IntKind.u32.wrap (h.v+A.v)))) x).bind λE=>
 (zbb (ixor .u32 D.v E.v) r).bind λB=>some ((l.set x.toNat (Wrd.mk (IntKind.u32.wrap (h.v+A.v)))).set z.toNat (Wrd.mk B))
def qs (l:List Int) (x y z r:Int):Option (List Int):=
 (idx l x).bind λE=>(idx l y).bind λF=>(zbZ (I6.wrap (E+F))).bind λD=>(idx (l.set x.toNat D) z).bind λh=>(idx (l.set x.toNat D) x).bind λA=>
 (zc0 (ixor .i64 h A) r).bind λB=>some ((l.set x.toNat D).set z.toNat B)
theorem zwd {l:List α} {i:Int} {v w:α} (h:idx l i=some v):idx (l.set i.toNat w) i=some w:=by
 unfold idx at h |-
 grind
def zvX {x:Option α} {g:α->Option β} (h: ∀a,x=some a->f a=g a):x.bind f=x.bind g:=by
 cases x
 ·rfl
 ·exact h _ rfl
def znZ (l:List Wrd) (a b c d:Int):zbW l a b c d=(qi l a b d 16).bind λe=>(qi e c d b 12).bind λf=>(qi f a b d 8).bind λg=>qi g c d b 7:=by unfold zbW qi;simp only[Et,An];repeat (refine zvX λ_ h=>?_;try simp only[zwd h,An])
def zop (l:List Int) (a b c d:Int):zn l a b c d=(qs l a b d 16).bind λe=>(qs e c d b 12).bind λf=>(qs f a b d 8).bind λg=>qs g c d b 7:=by unfold zn qs;simp only[Et,An];repeat first | refine zvX λ_ _=>?_ | rw[zwd (by assumption),An]
def zhr {l:List Wrd} (h:okW l) (k:Nat) (a:k<l.length): ∃n:Nat,l[k].v=(n:Int)/\n<4294967296:=by obtain ⟨b,c⟩:=h _ (Cr a);exact ⟨l[k].v.toNat,by omega,by omega⟩
def zoF (l:List Wrd) (x y z r:Nat) (hl:l.length=16) (a:okW l) (o:x<16) (p:y<16) (q:z<16) (d:r<=16):
    ∃l',qi l (x:Int) (y:Int) (z:Int) (r:Int)=some l'/\qs (l.map Wrd.v) (x:Int) (y:Int) (z:Int) (r:Int)=some (l'.map Wrd.v)/\l'.length=16/\okW l':=by
 obtain ⟨A,F,s⟩:=zhr a x (by omega);obtain ⟨B,G,t⟩:=zhr a y (by omega);have g:IntKind.u32.wrap ((A:Int)+(B:Int))=(((A+B) % 4294967296:Nat):Int):=by rw[wrap32];omega
 have u:(A+B) % 4294967296<4294967296:=Dl _ (by decide);have h:(l.set x (Wrd.mk (((A+B) % 4294967296:Nat):Int))).length=16:=by rw[Fc];exact hl
 have b:okW (l.set x (Wrd.mk (((A+B) % 4294967296:Nat):Int))):=zwm a ⟨by show (0:Int)<=(((A+B) % 4294967296:Nat):Int);omega,by show (((A+B) % 4294967296:Nat):Int)<_;omega⟩;obtain ⟨nz,I,e⟩:=zhr b z (by omega);obtain ⟨D,E,f⟩:=zhr b x (by omega);have c:=Dn (n:=32) e f;have w:=zzL (n:=r) (show nz ^^^ D<4294967296 from c);refine ⟨(l.set x (Wrd.mk (((A+B) % 4294967296:Nat):Int))).set z (Wrd.mk (rotN (nz ^^^ D) r:Int)),?_,?_,by rw[Fc];exact h,zwm b ⟨by show (0:Int)<=(rotN (nz ^^^ D) r:Int);omega,by show (rotN (nz ^^^ D) r:Int)<_;omega⟩⟩
 ·unfold qi;simp only[zb l x (by omega),zb l y (by omega),An,F,G,g,Bh,zb _ z (by omega:z<(l.set x (Wrd.mk (((A+B) % 4294967296:Nat):Int))).length),zb _ x (by omega:x<(l.set x (Wrd.mk (((A+B) % 4294967296:Nat):Int))).length),I,E,ixor32 e f,zyZ c d]
 ·unfold qs;have m1:idx (l.map Wrd.v) (x:Int)=some (A:Int):=by rw[zb _ x (by simp;omega)];simp[F]
  have m2:idx (l.map Wrd.v) (y:Int)=some (B:Int):=by rw[zb _ y (by simp;omega)];simp[G]
  have i:I6.wrap ((A:Int)+(B:Int))=((A+B:Nat):Int):=by rw[za (by omega) (by omega)];omega
  have j:(l.map Wrd.v).set x (((A+B) % 4294967296:Nat):Int)=(l.set x (Wrd.mk (((A+B) % 4294967296:Nat):Int))).map Wrd.v:=by rw[List.map_set]
  simp only[m1,m2,An,i,zn4 (show A+B<2 ^ 63 by omega),Bh,j];have k:idx ((l.set x (Wrd.mk (((A+B) % 4294967296:Nat):Int))).map Wrd.v) (z:Int)=some (nz:Int):=by rw[zb _ z (by simp;omega)];simp only[Dx,I]
  have m:idx ((l.set x (Wrd.mk (((A+B) % 4294967296:Nat):Int))).map Wrd.v) (x:Int)=some (D:Int):=by rw[zb _ x (by simp;omega)];simp only[Dx,E]
  simp only[k,m,An,ixor64 (show nz<2 ^ 63 by omega) (show D<2 ^ 63 by omega),zxP c d];simp
def zw3 (l:List Wrd) (a b c d:Nat) (hl:l.length=16) (i:okW l) (g:a<16) (e:b<16) (h:c<16) (f:d<16):
    ∃l',zbW l (a:Int) (b:Int) (c:Int) (d:Int)=some l'/\zn (l.map Wrd.v) (a:Int) (b:Int) (c:Int) (d:Int)=some (l'.map Wrd.v)/\l'.length=16/\okW l':=by
 obtain ⟨j,k,m,r1,n⟩:=zoF l a b d 16 hl i g e f (by omega);obtain ⟨o,y,z,r2,p⟩:=zoF j c d b 12 r1 n h f e (by omega);obtain ⟨q,A,B,s,t⟩:=zoF o a b d 8 r2 p g e f (by omega);obtain ⟨u,C,D,w,x⟩:=zoF q c d b 7 s t h f e (by omega);refine ⟨u,?_,?_,w,x⟩
 ·rw[znZ,show (16:Int)=((16:Nat):Int) from rfl,k];simp_all
 ·rw[zop,show (16:Int)=((16:Nat):Int) from rfl,m];simp_all
def goodW (l:List Wrd):Prop:=l.length=16/\okW l
def qv (l:List Wrd) (a b c d:Nat):List Wrd:=(zbW l (a:Int) (b:Int) (c:Int) (d:Int)).getD []
def qv_ok {l:List Wrd} (h:goodW l) (a b c d:Nat) (e:a<16) (f:b<16) (g:c<16) (i:d<16):
    zbW l (a:Int) (b:Int) (c:Int) (d:Int)=some (qv l a b c d)/\zn (l.map Wrd.v) (a:Int) (b:Int) (c:Int) (d:Int)=some ((qv l a b c d).map Wrd.v)/\goodW (qv l a b c d):=by obtain ⟨l',j,k,m,n⟩:=zw3 l a b c d h.1 h.2 e f g i;unfold qv;rw[j,k];trivial
def colW (l:List Wrd):Nat->List Wrd
 | 0=>l
 | k+1=>qv (colW l k) k (4+k) (8+k) (12+k)
def diagW (l:List Wrd):Nat->List Wrd
 | 0=>l
 | k+1=>qv (diagW l k) k (4+(k+1) % 4) (8+(k+2) % 4) (12+(k+3) % 4)
def roundW (l:List Wrd):List Wrd:=diagW (colW l 4) 4
def roundsW (l:List Wrd):Nat->List Wrd
 | 0=>l
 | k+1=>roundW (roundsW l k)
def zex {l:List Wrd} (h:goodW l): ∀k,k<=4->goodW (colW l k)
 | 0,_=>h
 | k+1,a=>(qv_ok (zex h k (by omega)) k (4+k) (8+k) (12+k) (by omega) (by omega) (by omega) (by omega)).2.2
def zfP {l:List Wrd} (h:goodW l): ∀k,k<=4->goodW (diagW l k)
 | 0,_=>h
 | k+1,a=>(qv_ok (zfP h k (by omega)) k (4+(k+1) % 4) (8+(k+2) % 4) (12+(k+3) % 4) (by omega) (by omega) (by omega) (by omega)).2.2
def zvM {l:List Wrd} (h:goodW l):goodW (roundW l):=zfP (zex h 4 (by omega)) 4 (by omega)
def zen {l:List Wrd} (h:goodW l): ∀k,goodW (roundsW l k)
 | 0=>h
 | k+1=>zvM (zen h k)
theorem zyv {l:List Wrd} (h:goodW l):loopO (ρ:=Ctl (List Wrd) ρ) (λ(A:Int × List Wrd)=>if (Dc (A.1<(4:Int)))=true then ((zbW A.2 A.1 (I6.wrap ((4:Int)+A.1)) (I6.wrap ((8:Int)+A.1)) (I6.wrap ((12:Int)+A.1))).bind λB=>
 some (.go (I6.wrap (A.1+(1:Int)),B)))
 else (some (.done (.go A.2))))
 ((0:Int),l)=some (.go (colW l 4)):=by
 rw[zl (λk=>((k:Int),colW l k)) 4 (r:=Ctl.go (colW l 4)) ?h0]
 case h0=>rfl
 ·intro k d;have a:I6.wrap ((4:Int)+(k:Int))=((4+k:Nat):Int):=by rw[za (by omega) (by omega)];omega
  have b:I6.wrap ((8:Int)+(k:Int))=((8+k:Nat):Int):=by rw[za (by omega) (by omega)];omega
  have c:I6.wrap ((12:Int)+(k:Int))=((12+k:Nat):Int):=by rw[za (by omega) (by omega)];omega
  simp only[a,b,c,(qv_ok (zex h k (by omega)) k (4+k) (8+k) (12+k) (by omega) (by omega) (by omega) (by omega)).1,An];rw[if_pos (by grind),za (by omega) (by omega)];rfl
 ·rfl
theorem zxx {l:List Wrd} (h:goodW l):loopO (ρ:=Ctl (List Wrd) ρ) (λ(A:Int × List Wrd)=>if (Dc (A.1<(4:Int)))=true then ((zbW A.2 A.1 (I6.wrap ((4:Int)+(Ct (I6.wrap (A.1+(1:Int))) (4:Int)))) (I6.wrap ((8:Int)+(Ct (I6.wrap (A.1+(2:Int))) (4:Int)))) (I6.wrap ((12:Int)+(Ct (I6.wrap (A.1+(3:Int))) (4:Int))))).bind λB=>
 some (.go (I6.wrap (A.1+(1:Int)),B)))
 else (some (.done (.go A.2))))
 ((0:Int),l)=some (.go (diagW l 4)):=by
 rw[zl (λk=>((k:Int),diagW l k)) 4 (r:=Ctl.go (diagW l 4)) ?h0]
 case h0=>rfl
 ·intro k g;have e: ∀(a d:Nat),a<=12->d<=3->I6.wrap ((a:Int)+(Ct (I6.wrap ((k:Int)+(d:Int))) (4:Int)))=((a+(k+d) % 4:Nat):Int):=by intro a d i j;rw[za (n:=(k:Int)+(d:Int)) (by omega) (by omega),show (k:Int)+(d:Int)=((k+d:Nat):Int) by omega,show (4:Int)=((4:Nat):Int) from rfl,<-Int.ofNat_tmod,za (by omega) (by omega)];rfl
  have b:I6.wrap ((4:Int)+(Ct (I6.wrap ((k:Int)+(1:Int))) (4:Int)))=_:=e 4 1 (by omega) (by omega);have c:I6.wrap ((8:Int)+(Ct (I6.wrap ((k:Int)+(2:Int))) (4:Int)))=_:=e 8 2 (by omega) (by omega);have f:I6.wrap ((12:Int)+(Ct (I6.wrap ((k:Int)+(3:Int))) (4:Int)))=_:=e 12 3 (by omega) (by omega);simp only[b,c,f,(qv_ok (zfP h k (by omega)) k (4+(k+1) % 4) (8+(k+2) % 4) (12+(k+3) % 4) (by omega) (by omega) (by omega) (by omega)).1,An];rw[if_pos (by grind),za (by omega) (by omega)];rfl
 ·rfl
def zxf {l:List Wrd} (h:goodW l) (f:List Int->Option β):((zn (l.map Wrd.v) (0:Int) (4:Int) (8:Int) (12:Int)).bind λA=>
 (zn A (1:Int) (5:Int) (9:Int) (13:Int)).bind λB=>
 (zn B (2:Int) (6:Int) (10:Int) (14:Int)).bind λD=>
 (zn D (3:Int) (7:Int) (11:Int) (15:Int)).bind λE=>
 (zn E (0:Int) (5:Int) (10:Int) (15:Int)).bind λF=>
 (zn F (1:Int) (6:Int) (11:Int) (12:Int)).bind λG=>
 (zn G (2:Int) (7:Int) (8:Int) (13:Int)).bind λI=>
 (zn I (3:Int) (4:Int) (9:Int) (14:Int)).bind λJ=>f J)=f ((roundW l).map Wrd.v):=by have a:zn (l.map Wrd.v) (0:Int) (4:Int) (8:Int) (12:Int)=some ((colW l 1).map Wrd.v):=(qv_ok h 0 4 8 12 (by omega) (by omega) (by omega) (by omega)).2.1;have b:zn ((colW l 1).map Wrd.v) (1:Int) (5:Int) (9:Int) (13:Int)=some ((colW l 2).map Wrd.v):=(qv_ok (zex h 1 (by omega)) 1 5 9 13 (by omega) (by omega) (by omega) (by omega)).2.1;have c:zn ((colW l 2).map Wrd.v) (2:Int) (6:Int) (10:Int) (14:Int)=some ((colW l 3).map Wrd.v):=(qv_ok (zex h 2 (by omega)) 2 6 10 14 (by omega) (by omega) (by omega) (by omega)).2.1;have d:zn ((colW l 3).map Wrd.v) (3:Int) (7:Int) (11:Int) (15:Int)=some ((colW l 4).map Wrd.v):=(qv_ok (zex h 3 (by omega)) 3 7 11 15 (by omega) (by omega) (by omega) (by omega)).2.1;have g:=zex h 4 (by omega);have e:zn ((colW l 4).map Wrd.v) (0:Int) (5:Int) (10:Int) (15:Int)=some ((diagW (colW l 4) 1).map Wrd.v):=(qv_ok g 0 5 10 15 (by omega) (by omega) (by omega) (by omega)).2.1;have i:zn ((diagW (colW l 4) 1).map Wrd.v) (1:Int) (6:Int) (11:Int) (12:Int)=some ((diagW (colW l 4) 2).map Wrd.v):=(qv_ok (zfP g 1 (by omega)) 1 6 11 12 (by omega) (by omega) (by omega) (by omega)).2.1;have j:zn ((diagW (colW l 4) 2).map Wrd.v) (2:Int) (7:Int) (8:Int) (13:Int)=some ((diagW (colW l 4) 3).map Wrd.v):=(qv_ok (zfP g 2 (by omega)) 2 7 8 13 (by omega) (by omega) (by omega) (by omega)).2.1;have k:zn ((diagW (colW l 4) 3).map Wrd.v) (3:Int) (4:Int) (9:Int) (14:Int)=some ((diagW (colW l 4) 4).map Wrd.v):=(qv_ok (zfP g 3 (by omega)) 3 4 9 14 (by omega) (by omega) (by omega) (by omega)).2.1;simp only[a,b,c,d,e,i,j,k,An];rfl
def kN (s:List UInt8) (i:Nat):Nat:=((zP s ((4*i:Nat):Int)).getD 0).toNat
def kN_ok (s:List UInt8) (i:Nat) (h:4*i+3<s.length) (hs:s.length<=1048576):zP s ((4*i:Nat):Int)=some (kN s i:Int)/\zdU s ((4*i:Nat):Int)=some (kN s i:Int)/\kN s i<4294967296:=by
 obtain ⟨n,a,b,c⟩:=zvK s (4*i) h hs;have e:kN s i=n:=by unfold kN;simp_all
 simp_all
def selW (k i n:Nat):Wrd:=bif Nat.blt i k then Wrd.mk (n:Int) else Wrd.mk 0
def firstK (key:List UInt8) (k:Nat):List Wrd:=[Wrd.mk 1634760805,Wrd.mk 857760878,Wrd.mk 2036477234,Wrd.mk 1797285236,selW k 0 (kN key 0),selW k 1 (kN key 1),selW k 2 (kN key 2),selW k 3 (kN key 3),selW k 4 (kN key 4),selW k 5 (kN key 5),selW k 6 (kN key 6),selW k 7 (kN key 7),Wrd.mk 0,Wrd.mk 0,Wrd.mk 0,Wrd.mk 0]
def firstN (key:List UInt8) (counter:Int) (nonce:List UInt8) (k:Nat):List Wrd:=[Wrd.mk 1634760805,Wrd.mk 857760878,Wrd.mk 2036477234,Wrd.mk 1797285236,Wrd.mk (kN key 0:Int),Wrd.mk (kN key 1:Int),Wrd.mk (kN key 2:Int),Wrd.mk (kN key 3:Int),Wrd.mk (kN key 4:Int),Wrd.mk (kN key 5:Int),Wrd.mk (kN key 6:Int),Wrd.mk (kN key 7:Int),Wrd.mk counter,selW k 0 (kN nonce 0),selW k 1 (kN nonce 1),selW k 2 (kN nonce 2)]
theorem ztD (key:List UInt8) (counter:Int) (nonce:List UInt8) (f:key.length=32) (g:0<=counter/\counter<=4294967295) (i:nonce.length=12):zfj key counter nonce=some (firstN key counter nonce 3):=by
 unfold zfj;have c:IntKind.u32.wrap counter=counter:=by rw[wrap32];omega
 have hl: ∀l:List Wrd,l.length=16->lenIs 16 l=some ():=λl h=>by unfold lenIs;simp_all
 rw[hl _ rfl];simp only[An];rw[zl (λk=>((k:Int),firstK key k)) 8 (r:=Ctl.go (firstK key 8)) ?h0]
 case h0=>rfl
 ·simp only[zd];rw[show (12:Int)=((12:Nat):Int) from rfl,zb (firstK key 8) 12 (by show 12<16;omega)];simp only[An,Bh,c];rw[zl (λk=>((k:Int),firstN key counter nonce k)) 3 (r:=Ctl.go (firstN key counter nonce 3)) ?h1]
  case h1=>rfl
  ·rfl
  ·intro k j;have a:I6.wrap ((4:Int)*(k:Int))=((4*k:Nat):Int):=by rw[za (by omega) (by omega)];omega
   have d:I6.wrap ((13:Int)+(k:Int))=((13+k:Nat):Int):=by rw[za (by omega) (by omega)];omega
   simp only[a,d,(kN_ok nonce k (by omega) (by omega)).2.1,An,zb (firstN key counter nonce k) (13+k) (by show 13+k<16;omega),Bh];rw[if_pos (by grind),za (by omega) (by omega)];have b:k=0\/k=1\/k=2:=by omega
   rcases b with rfl | rfl | rfl<;>rfl
  ·rfl
 ·intro k m;have a:I6.wrap ((4:Int)*(k:Int))=((4*k:Nat):Int):=by rw[za (by omega) (by omega)];omega
  have e:I6.wrap ((4:Int)+(k:Int))=((4+k:Nat):Int):=by rw[za (by omega) (by omega)];omega
  simp only[a,e,(kN_ok key k (by omega) (by omega)).2.1,An,zb (firstK key k) (4+k) (by show 4+k<16;omega),Bh];rw[if_pos (by grind),za (by omega) (by omega)];have b:k=0\/k=1\/k=2\/k=3\/k=4\/k=5\/k=6\/k=7:=by omega
  rcases b with rfl | rfl | rfl | rfl | rfl | rfl | rfl | rfl<;>rfl
 ·rfl
def zlE (key:List UInt8) (counter:Int) (nonce:List UInt8) (f:key.length=32) (g:0<=counter/\counter<=4294967295) (h:nonce.length=12):goodW (firstN key counter nonce 3):=by refine ⟨rfl,?_⟩;have a: ∀i,i<8->kN key i<4294967296:=λi hi=>(kN_ok key i (by omega) (by omega)).2.2;have b: ∀i,i<3->kN nonce i<4294967296:=λi hi=>(kN_ok nonce i (by omega) (by omega)).2.2;have j:=a 0 (by omega);have k:=a 1 (by omega);have l:=a 2 (by omega);have m:=a 3 (by omega);have n:=a 4 (by omega);have o:=a 5 (by omega);have p:=a 6 (by omega);have q:=a 7 (by omega);have s:=b 0 (by omega);have t:=b 1 (by omega);have u:=b 2 (by omega);have s0:selW 3 0 (kN nonce 0)=Wrd.mk (kN nonce 0:Int):=rfl;have d:selW 3 1 (kN nonce 1)=Wrd.mk (kN nonce 1:Int):=rfl;have e:selW 3 2 (kN nonce 2)=Wrd.mk (kN nonce 2:Int):=rfl;intro x c;unfold firstN at c;rw[s0,d,e]at c;simp only[Fj,List.not_mem_nil,or_false]at c;rcases c with rfl | rfl | rfl | rfl | rfl | rfl | rfl | rfl | rfl | rfl | rfl | rfl | rfl | rfl | rfl | rfl<;>simp only<;>omega
def bytes4 (n:Nat):List UInt8:=[toU8 (n:Int),toU8 ((n / 256:Nat):Int),toU8 ((n / 65536:Nat):Int),toU8 ((n / 16777216:Nat):Int)]
def outW (w s:List Wrd):Nat->List UInt8
 | 0=>[]
 | k+1=>outW w s k++(match w[k]?,s[k]? with | some x,some y=>bytes4 ((x.v+y.v).toNat % 4294967296) | _,_=>[])
def zoc (w s:List Wrd) (k:Nat) (a:k<w.length) (hs:k<s.length):outW w s (k+1)=outW w s k++bytes4 ((w[k].v+s[k].v).toNat % 4294967296):=by show outW w s k++(match w[k]?,s[k]? with | some x,some y=>_ | _,_=>_)=_;simp_all
def zmP (w s:List Wrd) (a:w.length=16) (hs:s.length=16): ∀k,k<=16->(outW w s k).length=4*k
 | 0,_=>rfl
 | k+1,b=>by rw[zoc w s k (by omega) (by omega),Em,zmP w s a hs k (by omega)];rfl
def zm2 (n:Nat):toU8 ((n % 256:Nat):Int)=toU8 (n:Int):=by unfold toU8;simp
def chaR (key:List UInt8) (counter:Int) (nonce:List UInt8):List UInt8:=outW (roundsW (firstN key counter nonce 3) 10) (firstN key counter nonce 3) 16
def chaOk (key:List UInt8) (counter:Int) (nonce:List UInt8):Bool:=Dc (key.length=32)&&(Dc (nonce.length=12)&&Dc (0<=counter/\counter<=4294967295))
def chaV (key:List UInt8) (counter:Int) (nonce:List UInt8):List UInt8:=bif chaOk key counter nonce then chaR key counter nonce else []
def zhj {key:List UInt8} {counter:Int} {nonce:List UInt8} (h:chaOk key counter nonce=true):key.length=32/\nonce.length=12/\0<=counter/\counter<=4294967295:=by unfold chaOk at h;simp_all
def zkr (key:List UInt8) (counter:Int) (nonce:List UInt8) (h:chaOk key counter nonce=true):(chaV key counter nonce).length=64:=by obtain ⟨a,b,c⟩:=zhj h;have g:=zlE key counter nonce a c b;unfold chaV chaR;rw[h];exact zmP _ _ (zen g 10).1 g.1 16 (Bz _)
theorem znb (key:List UInt8) (counter:Int) (nonce:List UInt8):zhR key counter nonce=some (chaOk key counter nonce):=by unfold zhR chaOk;have a:Dc ((key.length:Int)=32)=Dc (key.length=32):=decide_eq_decide.2 (by omega);have b:Dc ((nonce.length:Int)=12)=Dc (nonce.length=12):=decide_eq_decide.2 (by omega);rw[a,b,z6];grind
theorem zkw (key:List UInt8) (counter:Int) (nonce:List UInt8):zeO key counter nonce=some (chaV key counter nonce):=by
 unfold zeO chaV;rw[znb];cases c:chaOk key counter nonce with
 | false=>rfl
 | true=>
   obtain ⟨h1,a,b⟩:=zhj c;have g:=zlE key counter nonce h1 b a;have hl: ∀l:List Wrd,l.length=16->lenIs 16 l=some ():=λl h=>by unfold lenIs;simp_all
   simp only[An,Bf,Ba,if_false,cond_true,ztD key counter nonce h1 b a,hl _ g.1];unfold chaR;generalize firstN key counter nonce 3=s at g;rw[zl (λk=>((k:Int),roundsW s k)) 10 (r:=Ctl.go (roundsW s 10)) ?h0]
   case h0=>rfl
   ·have A:=zen g 10;simp only[zd,show mkLen 1 (64:Int)=some 64 from rfl,An];rw[zl (λk=>((k:Int),outW (roundsW s 10) s k)) 16 (r:=Ctl.go (outW (roundsW s 10) s 16)) ?h1]
    case h1=>rfl
    ·rfl
    ·intro k d;obtain ⟨n,D,i⟩:=zhr A.2 k (by rw[A.1];trivial);obtain ⟨m,B,j⟩:=zhr g.2 k (by rw[g.1];omega);have e:=zmP (roundsW s 10) s A.1 g.1 k (by omega);simp only[hl _ A.1,zb (roundsW s 10) k (by rw[A.1];omega),zb s k (by rw[g.1];omega),An,D,B];have f:IntKind.u32.wrap ((n:Int)+(m:Int))=(((n+m) % 4294967296:Nat):Int):=by rfl
     rw[f,show (8:Int)=((8:Nat):Int) from rfl,show (24:Int)=((24:Nat):Int) from rfl,zdc (by decide),zdc (by decide)];rw[show ishr .u32 (((n+m) % 4294967296:Nat):Int) (16:Int)=_ from zdc (n:=16) (by decide)];rw[if_pos (by simp;omega),za (by omega) (by omega),zg (by simp;omega) (by rw[e];simp;omega)];simp only[An];rw[zoc _ _ k (by rw[A.1];omega) (by rw[g.1];omega),D,B];rfl
    ·rfl
   ·intro k d;have E:=zen g k;simp only[zyv E,zd,zxx (zex E 4 (by omega))];rw[if_pos (by grind),za (by omega) (by omega)];rfl
   ·simp
def zrI {x:Option α} {a:α} {r:Option β} (h:x=some a) (b:f a=r):x.bind f=r:=by rw[h];exact b
theorem zhg (key:List UInt8) (counter:Int) (nonce:List UInt8):zcQ key counter nonce=some (chaV key counter nonce):=by
 unfold zcQ chaV;have B:Dc ((key.length:Int)=32)=Dc (key.length=32):=decide_eq_decide.2 (by omega);have C:Dc ((nonce.length:Int)=12)=Dc (nonce.length=12):=decide_eq_decide.2 (by omega);rw[B,C,zbm];cases p:chaOk key counter nonce with
 | false=>unfold chaOk at p;grind
 | true=>
   obtain ⟨h1,h2,q⟩:=zhj p;have g:=zlE key counter nonce h1 q h2;rw[decide_eq_true h1,decide_eq_true h2,decide_eq_true q];simp only[An,Bf,Ba,if_false,cond_true];unfold zkZ chaR;rw[zl (λk=>((k:Int),((firstN key counter nonce 3).map Wrd.v).take (4+k))) 8 (r:=Ctl.go (((firstN key counter nonce 3).map Wrd.v).take 12)) ?h0]
   case h0=>rfl
   ·have D:zP nonce (0:Int)=some (kN nonce 0:Int):=(kN_ok nonce 0 (by omega) (by omega)).1;have E:zP nonce (4:Int)=some (kN nonce 1:Int):=(kN_ok nonce 1 (by omega) (by omega)).1;have F:zP nonce (8:Int)=some (kN nonce 2:Int):=(kN_ok nonce 2 (by omega) (by omega)).1;have G:app 8 (((firstN key counter nonce 3).map Wrd.v).take 12) [counter,(kN nonce 0:Int),(kN nonce 1:Int),(kN nonce 2:Int)]=some ((firstN key counter nonce 3).map Wrd.v):=by rfl
    have t2:app 8 ([]:List Int) ((firstN key counter nonce 3).map Wrd.v)=some ((firstN key counter nonce 3).map Wrd.v):=by rfl
    simp only[zd,D,E,F,An,G,t2];generalize firstN key counter nonce 3=s at g;rw[zl (λk=>((k:Int),(roundsW s k).map Wrd.v)) 10 (r:=Ctl.go ((roundsW s 10).map Wrd.v)) ?h1]
    case h1=>rfl
    ·have U:=zen g 10;simp only[zd];generalize roundsW s 10=w at U;rw[zl (λk=>((k:Int),outW (w) s k)) 16 (r:=Ctl.go (outW (w) s 16)) ?h2]
     case h2=>rfl
     ·rfl
     ·intro k t;have u:k<(w).length:=by rw[U.1];trivial
      have y:k<s.length:=by rw[g.1];trivial
      obtain ⟨n,Z,S⟩:=zhr U.2 k u;obtain ⟨m,W,T⟩:=zhr g.2 k y;have z:=zmP (w) s U.1 g.1 k (by omega);have H:idx ((w).map Wrd.v) (k:Int)=some (n:Int):=by rw[zb _ k (by simp_all)];simp_all
      have I:idx (s.map Wrd.v) (k:Int)=some (m:Int):=by rw[zb _ k (by simp_all)];simp only[Dx,W]
      have J:I6.wrap ((n:Int)+(m:Int))=((n+m:Nat):Int):=by rw[za (by omega) (by omega)];omega
      have K:(n+m) % 4294967296<4294967296:=Dl _ (by decide);have A:zbZ (I6.wrap ((n:Int)+(m:Int)))=some (((n+m) % 4294967296:Nat):Int):=by rw[J];exact zn4 (by omega)
      generalize L:(n+m) % 4294967296=x at K A;rw[if_pos (by simp only[decide_eq_true_eq];omega)];refine zrI H (zrI I (zrI A ?_));have M:toU8 (iand .i64 (x:Int) (255:Int))=toU8 (x:Int):=by rw[show (255:Int)=((255:Nat):Int) from rfl,iand64 (by omega) (by decide),show x &&& 255=x % 256 from Cg x 8,zm2]
      have N:toU8 (iand .i64 (ishr .i64 (x:Int) (8:Int)) (255:Int))=toU8 ((x / 256:Nat):Int):=by rw[show ishr .i64 (x:Int) (8:Int)=((x / 256:Nat):Int) from zdc (n:=8) (by decide),show (255:Int)=((255:Nat):Int) from rfl,iand64 (by omega) (by decide),show x / 256 &&& 255=x / 256 % 256 from Cg _ 8,zm2]
      have O:toU8 (iand .i64 (ishr .i64 (x:Int) (16:Int)) (255:Int))=toU8 ((x / 65536:Nat):Int):=by rw[show ishr .i64 (x:Int) (16:Int)=((x / 65536:Nat):Int) from zdc (n:=16) (by decide),show (255:Int)=((255:Nat):Int) from rfl,iand64 (by omega) (by decide),show x / 65536 &&& 255=x / 65536 % 256 from Cg _ 8,zm2]
      have P:ishr .i64 (x:Int) (24:Int)=((x / 16777216:Nat):Int):=zdc (n:=24) (by decide);rw[M,N,O,P,za (by omega) (by omega),zg (by rw[z];simp;omega) (by rw[z];simp;omega)];simp only[An];rw[zoc _ _ k u y,Z,W,show ((n:Int)+(m:Int)).toNat=n+m by omega,L];rfl
     ·simp
    ·intro k t;simp only;rw[if_pos (by simp only[decide_eq_true_eq];omega),za (n:=(k:Int)+1) (by omega) (by omega)];exact zxf (zen g k) (λV=>some (Ctl.go ((k:Int)+1,V)))
    ·simp
   ·intro k t;have Q:I6.wrap ((4:Int)*(k:Int))=((4*k:Nat):Int):=by rw[za (by omega) (by omega)];omega
    simp only[Q,(kN_ok key k (by omega) (by omega)).1,An];rw[if_pos (by simp only[decide_eq_true_eq];omega),za (by omega) (by omega),zg (by rw[Ew];simp;omega) (by rw[Ew];simp;omega)];have R:k=0\/k=1\/k=2\/k=3\/k=4\/k=5\/k=6\/k=7:=by omega
    unfold firstN;rcases R with rfl | rfl | rfl | rfl | rfl | rfl | rfl | rfl
    ·generalize kN nonce 0=a;generalize kN nonce 1=b;generalize kN nonce 2=c;generalize kN key 0=d;generalize kN key 1=e;generalize kN key 2=f;generalize kN key 3=h;generalize kN key 4=i;generalize kN key 5=j;generalize kN key 6=l;generalize kN key 7=o;rfl
    ·generalize kN nonce 0=a;generalize kN nonce 1=b;generalize kN nonce 2=c;generalize kN key 0=d;generalize kN key 1=e;generalize kN key 2=f;generalize kN key 3=h;generalize kN key 4=i;generalize kN key 5=j;generalize kN key 6=l;generalize kN key 7=o;rfl
    ·generalize kN nonce 0=a;generalize kN nonce 1=b;generalize kN nonce 2=c;generalize kN key 0=d;generalize kN key 1=e;generalize kN key 2=f;generalize kN key 3=h;generalize kN key 4=i;generalize kN key 5=j;generalize kN key 6=l;generalize kN key 7=o;rfl
    ·generalize kN nonce 0=a;generalize kN nonce 1=b;generalize kN nonce 2=c;generalize kN key 0=d;generalize kN key 1=e;generalize kN key 2=f;generalize kN key 3=h;generalize kN key 4=i;generalize kN key 5=j;generalize kN key 6=l;generalize kN key 7=o;rfl
    ·generalize kN nonce 0=a;generalize kN nonce 1=b;generalize kN nonce 2=c;generalize kN key 0=d;generalize kN key 1=e;generalize kN key 2=f;generalize kN key 3=h;generalize kN key 4=i;generalize kN key 5=j;generalize kN key 6=l;generalize kN key 7=o;rfl
    ·generalize kN nonce 0=a;generalize kN nonce 1=b;generalize kN nonce 2=c;generalize kN key 0=d;generalize kN key 1=e;generalize kN key 2=f;generalize kN key 3=h;generalize kN key 4=i;generalize kN key 5=j;generalize kN key 6=l;generalize kN key 7=o;rfl
    ·generalize kN nonce 0=a;generalize kN nonce 1=b;generalize kN nonce 2=c;generalize kN key 0=d;generalize kN key 1=e;generalize kN key 2=f;generalize kN key 3=h;generalize kN key 4=i;generalize kN key 5=j;generalize kN key 6=l;generalize kN key 7=o;rfl
    ·generalize kN nonce 0=a;generalize kN nonce 1=b;generalize kN nonce 2=c;generalize kN key 0=d;generalize kN key 1=e;generalize kN key 2=f;generalize kN key 3=h;generalize kN key 4=i;generalize kN key 5=j;generalize kN key 6=l;generalize kN key 7=o;rfl
   ·simp
def fixV (n:Nat):Nat->List UInt8
 | 0=>[]
 | j+1=>toU8 ((n / 256 ^ j:Nat):Int)::fixV n j
def zpA (n:Nat): ∀j,(fixV n j).length=j
 | 0=>rfl
 | j+1=>by rw[fixV,Dj,zpA n j]
def znJ (n b j:Nat):n / b ^ j / b=n / b ^ (j+1):=by rw[Nat.div_div_eq_div_mul,Eo]
def fixedV (n w:Int):List UInt8:=bif Dc (1<=w/\w<=7)&&(Dc (0<=n)&&Dc (n.toNat / 256 ^ w.toNat=0)) then fixV n.toNat w.toNat else []
theorem zt2 (n w:Int) (e:n<=4611686018427387904):zkd n w=some (fixedV n w):=by
 unfold zkd fixedV;rw[zbm];by_cases a:1<=w/\w<=7
 ·rw[decide_eq_true a];by_cases b:0<=n
  ·obtain ⟨m,rfl⟩: ∃m:Nat,n=(m:Int):=⟨n.toNat,by omega⟩;obtain ⟨u,rfl⟩: ∃u:Nat,w=(u:Int):=⟨w.toNat,by omega⟩;rw[decide_eq_true b,decide_eq_false (by omega)];simp only[An,Bf,Ba,if_false,Bh];rw[zl (λj=>(((m / 256 ^ j:Nat):Int),fixV m j,(j:Int))) u (r:=Ctl.go (((m / 256 ^ u:Nat):Int),fixV m u)) ?h0]
   case h0=>simp[fixV]
   ·simp only[zd];grind
   ·intro j f;have c:Ct ((m / 256 ^ j:Nat):Int) (256:Int)=((m / 256 ^ j % 256:Nat):Int):=by rfl
    have d:Dy ((m / 256 ^ j:Nat):Int) (256:Int)=((m / 256 ^ (j+1):Nat):Int):=by rw[show (256:Int)=((256:Nat):Int) from rfl,<-Int.ofNat_tdiv,znJ]
    have g:((m / 256 ^ (j+1):Nat):Int)<=(m:Int):=Int.ofNat_le.2 (Dk _ _);have h:(0:Int)<=((m / 256 ^ (j+1):Nat):Int):=Int.natCast_nonneg _;have hl:=zpA m j;simp only[c,d,zm2];rw[if_pos (by simp_all),za (n:=(j:Int)+1) (by omega) (by omega),za (by omega) (by omega)];rw[zcv (by grind)];rfl
   ·simp
  ·grind
 ·grind
theorem ztF (n w:Int) (k:n<=4611686018427387904):zj2 n w=some (fixedV n w):=by
 unfold zj2 fixedV;rw[z6];by_cases a:1<=w/\w<=7
 ·rw[decide_eq_true a];by_cases b:0<=n
  ·obtain ⟨m,rfl⟩: ∃m:Nat,n=(m:Int):=⟨n.toNat,by omega⟩;obtain ⟨u,rfl⟩: ∃u:Nat,w=(u:Int):=⟨w.toNat,by omega⟩;have c:IntKind.u64.wrap (I6.wrap ((8:Int)*(u:Int)))=((8*u:Nat):Int):=by rw[za (by omega) (by omega),wrap64u];omega
   have d:ishr .i64 (m:Int) ((8*u:Nat):Int)=((m / 256 ^ u:Nat):Int):=by rw[zdc (by show 8*u<=64;omega),Nat.pow_mul]
   have e:Dc (((m / 256 ^ u:Nat):Int)=0)=Dc (m / 256 ^ u=0):=decide_eq_decide.2 (by omega);rw[decide_eq_true b,decide_eq_false (by omega)];simp only[An,Bf,Ba,if_false,Bh,c,d,e];by_cases f:m / 256 ^ u=0
   ·rw[decide_eq_true f];simp only[Bf,Ba,if_false,Cq,cond_true];rw[zeJ (by omega) (by omega)];simp only[An];rw[zl (λj=>(((m / 256 ^ j:Nat):Int),(u:Int) - 1 - (j:Int),Dm (u - j) (0:UInt8)++fixV m j)) u (r:=Ctl.go (fixV m u)) ?h0]
    case h0=>rw[za (by omega) (by omega)];simp[fixV]
    ·rfl
    ·intro j l;have g:ishr .i64 ((m / 256 ^ j:Nat):Int) (8:Int)=((m / 256 ^ (j+1):Nat):Int):=by rw[show ishr .i64 ((m / 256 ^ j:Nat):Int) (8:Int)=((m / 256 ^ j / 256:Nat):Int) from zdc (n:=8) (by decide),znJ]
     have hl:=zpA m j;have hi:(u:Int) - 1 - (j:Int)=((u - 1 - j:Nat):Int):=by omega
     have h:u - 1 - j<(Dm (u - j) (0:UInt8)++fixV m j).length:=by grind
     have i:(Dm (u - j) (0:UInt8)++fixV m j).set (u - 1 - j) (toU8 ((m / 256 ^ j:Nat):Int))=Dm (u - (j+1)) (0:UInt8)++fixV m (j+1):=by rw[show u - j=(u - (j+1))+1 by omega,List.replicate_succ',Eu,show u - 1 - j=u - (j+1) by omega,List.set_append_right _ _ (by simp)];simp[fixV]
     simp only[hi,g,zb _ _ h,An,Bh,i];rw[if_pos (by rfl),za (by omega) (by omega)];grind
    ·grind
   ·grind
  ·grind
 ·grind
def varN:Nat->Nat->List UInt8
 | 0,n=>[toU8 (n:Int)]
 | f+1,n=>bif Dc (n<128) then [toU8 (n:Int)] else toU8 ((128+n % 128:Nat):Int)::varN f (n / 128)
def zhw {f:Nat} (h:n<128):varN f n= [toU8 (n:Int)]:=by
 cases f with
 | zero=>rfl
 | succ f=>rw[varN,decide_eq_true h];rfl
def zkq {f:Nat} (h:128<=n):varN (f+1) n=toU8 ((128+n % 128:Nat):Int)::varN f (n / 128):=by rw[varN,decide_eq_false (by omega)];rfl
theorem zvp {body:Int × List UInt8->Option (Ctl (Int × List UInt8) (Ctl (Int × List UInt8) (List UInt8)))} (b: ∀(n:Nat) (A:List UInt8),128<=n->n<562949953421312->A.length<=100->body ((n:Int),A)=some (.go (((n / 128:Nat):Int),A++ [toU8 ((128+n % 128:Nat):Int)]))) (a: ∀(n:Nat) (A:List UInt8),n<128->body ((n:Int),A)=some (.done (.go ((n:Int),A)))):
 ∀(f n:Nat) (A:List UInt8),n<128 ^ (f+1)->n<562949953421312->A.length+f<=100->∃(m:Nat) (B:List UInt8),loopO body ((n:Int),A)=some (.go ((m:Int),B))/\B++ [toU8 (m:Int)]=A++varN f n/\B.length<=100:=by
 intro f;induction f with
 | zero=>
   intro n A c _ d;have e:n<128:=by trivial
   exact ⟨n,A,by rw[zz,a n A e],by rfl,by omega⟩
 | succ f ih=>
   intro n A c g d;by_cases h:n<128
   ·exact ⟨n,A,by rw[zz,a n A h],by rw[zhw h],by omega⟩
   ·have i:n / 128<128 ^ (f+1):=by omega
    obtain ⟨m,B,l,j,k⟩:=ih (n / 128) (A++ [toU8 ((128+n % 128:Nat):Int)]) i (by omega) (by grind);refine ⟨m,B,?_,?_,k⟩
    ·rw[zz,b n A (by omega) g (by omega)];trivial
    ·rw[j,zkq (by omega),Eu];rfl
def varV (n:Int):List UInt8:=bif Dc (0<=n/\n<=562949953421311) then varN 6 n.toNat else []
theorem zja (n:Int):zeN n=some (varV n):=by
 unfold zeN varV;rw[zbm];by_cases h:0<=n/\n<=562949953421311
 ·rw[decide_eq_true h];obtain ⟨m,rfl⟩: ∃m:Nat,n=(m:Int):=⟨n.toNat,by omega⟩;simp only[An,Bf,Ba,if_false,cond_true,Bh];obtain ⟨p,D,a,b,e⟩:=zvp (body:=λ(A:Int × List UInt8)=>if (Dc (A.1>=(128:Int)))=true then ((app 1 A.2 ([toU8 (I6.wrap ((128:Int)+(Ct A.1 (128:Int))))])).bind λB=>
   some (.go (I6.wrap (Dy A.1 (128:Int)),B)))
   else (some (.done (.go (A.1,A.2))))) (by
    intro n D f g i;have c:Ct (n:Int) (128:Int)=((n % 128:Nat):Int):=by rfl
    have t2:Dy (n:Int) (128:Int)=((n / 128:Nat):Int):=by rfl
    have d:I6.wrap ((128:Int)+((n % 128:Nat):Int))=((128+n % 128:Nat):Int):=by rw[za (by omega) (by omega)];omega
    simp only[c,t2,d];rw[if_pos (by grind),zg (by grind) (by simp;omega),za (by omega) (by omega)];rfl) (by
    grind) 6 m [] (by omega) (by omega) (by simp)
  rw[a];simp only[zd];rw[zg (by grind) (by grind),b];rfl
 ·grind
def or128 (m:Nat) (h:m<128):128 ||| m=128+m:=by have:=Nat.two_pow_add_eq_or_of_lt (i:=7) (b:=m) h 1;simp_all
theorem zlG (n:Int):zhd n=some (varV n):=by
 unfold zhd varV;rw[z6];by_cases h:0<=n/\n<=562949953421311
 ·rw[decide_eq_true h];obtain ⟨m,rfl⟩: ∃m:Nat,n=(m:Int):=⟨n.toNat,by omega⟩;simp only[An,Bf,Ba,if_false,cond_true,Bh];obtain ⟨p,D,a,b,f⟩:=zvp (body:=λ(A:Int × List UInt8)=>if (Dc (A.1>(127:Int)))=true then ((app 1 A.2 ([toU8 (ior .i64 (128:Int) (iand .i64 A.1 (127:Int)))])).bind λB=>
   some (.go (ishr .i64 A.1 (7:Int),B)))
   else (some (.done (.go (A.1,A.2))))) (by
    intro n D g i j;have c:iand .i64 (n:Int) (127:Int)=((n % 128:Nat):Int):=by rw[show (127:Int)=((127:Nat):Int) from rfl,iand64 (by omega) (by decide),show n &&& 127=n % 128 from Cg n 7]
    have t2:ishr .i64 (n:Int) (7:Int)=((n / 128:Nat):Int):=zdc (n:=7) (by decide);have d:n % 128<128:=Dl _ (by decide);have e:ior .i64 (128:Int) ((n % 128:Nat):Int)=((128+n % 128:Nat):Int):=by rw[show (128:Int)=((128:Nat):Int) from rfl,ior64 (by decide) (by omega),or128 _ d]
    simp only[c,t2,e];rw[if_pos (by grind),zg (by grind) (by simp;omega)];rfl) (by
    grind) 6 m [] (by omega) (by omega) (by simp)
  rw[a];simp only[zd];rw[zg (by grind) (by grind),b];rfl
 ·grind
def numV:List UInt8->Nat
 | []=>0
 | x::l=>x.toNat % 128+128*numV l
def zko: ∀(l:List UInt8),numV l<128 ^ l.length
 | []=>by decide
 | x::l=>by have:=zko l;have a:x.toNat % 128<128:=Dl _ (by decide);rw[numV,Dj,Eo];omega
def zs7: ∀(l:List UInt8) (x:UInt8),numV (l++ [x])=numV l+128 ^ l.length*(x.toNat % 128)
 | [],x=>by simp[numV]
 | y::l,x=>by rw[List.cons_append,numV,numV,zs7 l x,Dj,Eo,Nat.mul_add,Nat.mul_comm (128 ^ l.length) 128,Nat.mul_assoc];omega
def readN:Nat->List UInt8->Option (Nat × Nat)
 | 0,_=>none
 | _+1,[]=>none
 | f+1,x::l=>bif Dc (x.toNat<128) then some (x.toNat,1) else match readN f l with
   | some (m,k)=>bif Dc (m=0) then none else some (x.toNat % 128+128*m,k+1)
   | none=>none
def zgr (n:Nat):(toU8 (n:Int)).toNat=n % 256:=by unfold toU8;simp;omega
def zoJ (x:UInt8):toU8 ((x.toNat:Nat):Int)=x:=by have:=x.toNat_lt;apply UInt8.toNat_inj.1;rw[zgr];omega
def zoI {l:List α} {j:Nat} (a:1<=j) (b:j<=l.length):l.take j≠[]:=by intro e;have:=congrArg Da e;simp_all
end Go.Proofs.YtdpainahgcdflaaGreat
end
end
