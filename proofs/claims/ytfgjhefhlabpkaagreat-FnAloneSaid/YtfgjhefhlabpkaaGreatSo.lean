/-
  The rules of the small separation logic, continued: pieces of slices, division. Generic: no statement about a given function.
-/
import Derived.Test.YtfgjhefhlabpkaaGreatSn
namespace Go.Proofs.YtfgjhefhlabpkaaGreat.Sl
open Go Go.RowKit
def piece {α:Type} (l:List α) (lo hi:Int):Option (List α):=if 0≤lo∧lo≤hi∧hi≤l.length then some ((l.drop lo.toNat).take (hi.toNat - lo.toNat)) else none
theorem zbJ {α:Type} {l z:List α} {lo hi:Int} (h:piece l lo hi=some z):0≤lo∧lo≤hi∧hi≤l.length∧z=(l.drop lo.toNat).take (hi.toNat - lo.toNat):=by
 unfold piece at h
 split at h
 ·rename_i hc;cases h;exact ⟨hc.1,hc.2.1,hc.2.2,rfl⟩
 ·cases h
def subV (v:Value) (sz lo n:Nat):Value:=match v with
 | .slice a _ cap=>.slice (if cap=lo then a else a.map (·.add (lo*sz))) n (cap - lo)
 | _=>undef
theorem Rd.sub {α:Type} [Enc α] {w:World} {v:Value} {l z:List α} {F:List Nat} {lo hi:Int} (h:Rd w v (lc l) F) (hs:piece l lo hi=some z):
 ∃F',Rd w (subV v (Enc.sz α) lo.toNat (hi.toNat - lo.toNat)) (lc z) F'∧∀b∈F',b∈F:=by
 obtain ⟨h0,h1,h2,rfl⟩:=zbJ hs
 have hzl:((l.drop lo.toNat).take (hi.toNat - lo.toNat)).length=hi.toNat - lo.toNat:=by rw[List.length_take,List.length_drop];omega
 have hl:l=l.take lo.toNat++((l.drop lo.toNat).take (hi.toNat - lo.toNat)++(l.drop lo.toNat).drop (hi.toNat - lo.toNat)):=by rw[List.take_append_drop,List.take_append_drop]
 unfold lc at h ⊢
 rw[hzl]
 generalize hz:(l.drop lo.toNat).take (hi.toNat - lo.toNat)=z at hzl hl
 generalize hln:l.length=ln at h h2
 generalize hcs:l.flatMap (Enc.enc (α:=α))=cs at h
 cases h with
 | nil=>
   have h3:lo.toNat=0:=by omega
   have h4:hi.toNat - lo.toNat=0:=by omega
   have:z= []:=List.eq_nil_of_length_eq_zero (by omega)
   subst this
   rw[h4,h3]
   exact ⟨[],.nil _,by simp⟩
 | row a n cap sz vs cs S hvl hcap hcell hr=>
   by_cases hc:cap=lo.toNat
   ·have h4:hi.toNat - lo.toNat=0:=by omega
    have:z= []:=List.eq_nil_of_length_eq_zero (by omega)
    subst this
    rw[h4]
    simp only[subV,if_pos hc]
    have:=Rd.row (w:=w) a 0 (cap - lo.toNat) (Enc.sz α) [] [] [] (by simp) (Nat.zero_le _) (fun j hj=>by simp at hj) .nil
    simp only[Nat.zero_mul,if_true,List.append_nil]at this
    exact ⟨[],this,by simp⟩
   ·subst hcs
    simp only[subV,if_neg hc,Option.map_some]
    rw[hl,List.flatMap_append,List.flatMap_append]at hr
    obtain ⟨S1,S2,rfl,_,hr2⟩:=hr.split
    obtain ⟨S3,S4,rfl,hr3,_⟩:=hr2.split
    have hl1:((l.take lo.toNat).flatMap (Enc.enc (α:=α))).length=lo.toNat*Enc.sz α:=by rw[zbM,List.length_take];congr 1;omega
    rw[hl1,zbM,hzl]at hr3
    have hmul:lo.toNat*Enc.sz α+(hi.toNat - lo.toNat)*Enc.sz α≤ln*Enc.sz α:=by rw[←Nat.add_mul];exact Nat.mul_le_mul_right _ (by omega)
    refine ⟨_,Rd.row (a.add (lo.toNat*Enc.sz α)) (hi.toNat - lo.toNat) (cap - lo.toNat) (Enc.sz α) _ _ _ ?_ (by omega) ?_ hr3,?_⟩
    ·rw[List.length_take,List.length_drop,hvl];omega
    ·intro j hj
     rw[add_add,hcell _ (by omega),List.getElem?_take,if_pos hj,List.getElem?_drop]
    ·intro b hb
     rcases List.mem_append.1 hb with hb | hb
     ·refine List.mem_append.2 (.inl ?_)
      split at hb
      ·cases hb
      ·rename_i hne
       rw[add_block]at hb
       rw[if_neg]
       ·exact hb
       ·intro e
        have:(hi.toNat - lo.toNat)*Enc.sz α=0:=by omega
        exact hne this
     ·exact List.mem_append.2 (.inr (by simp[hb]))
theorem Can.sub {α:Type} [Enc α] {w0:World} {S0:List Nat} {is:List Item} {v:Value} {l z:List α} {lo hi:Int} {sz:Nat} (hs:piece l lo hi=some z) (hsz:Enc.sz α=sz) (h:Can w0 S0 is v (lc l)):
 Can w0 S0 is (subV v sz lo.toNat (hi.toNat - lo.toNat)) (lc z):=by
 subst hsz
 intro w S hS hb
 obtain ⟨F,hF,hn⟩:=h w S hS hb
 obtain ⟨F',h1,h2⟩:=hF.sub hs
 exact ⟨F',h1,fun b hb=>hn b (h2 b hb)⟩
theorem Base.sub {α:Type} [Enc α] {w0:World} {S0:List Nat} {v:Value} {l z:List α} {lo hi:Int} {sz:Nat} (hs:piece l lo hi=some z) (hsz:Enc.sz α=sz) (h:Base w0 S0 v (lc l)):
 Base w0 S0 (subV v sz lo.toNat (hi.toNat - lo.toNat)) (lc z):=by
 subst hsz
 obtain ⟨F,hF,hn⟩:=h
 obtain ⟨F',h1,h2⟩:=hF.sub hs
 exact ⟨F',h1,fun b hb=>hn b (h2 b hb)⟩
def bOp (fr:Fr) (o:Option Operand) (n d:Int):Prop:=match o with
 | some x=>∃k,ev fr x=some (.int k n)
 | none=>n=d
section
variable {P:Program} {w0:World} {S0:List Nat} {n:Nat} {fr:Fr} {is:List Item}
variable {dst:Option Nat} {ty:TypeId} {pos:String} {aft:Array Edge} {gd:Option (Nat × Bool)}
theorem Y.subs {α:Type} {l z:List α} {v:Value} {x:Operand} {t e sz by_ sz':Nat} {cs:List C} {lo hi:Int} {L H:Option Operand} (hs:piece l lo hi=some z) (he:elemB P t=some (e,sz,by_)) (hc:Can w0 S0 is v (.sl sz' l.length cs))
 (hx:ev fr x=some v) (hL:bOp fr L lo 0) (hH:bOp fr H hi l.length):Y P w0 S0 n fr is ⟨dst,.slice t x L H none,ty,pos,aft,gd⟩ (subV v sz lo.toNat (hi.toNat - lo.toNat)):=by
 obtain ⟨hu,ti,hti,hsz,_⟩:=zJ he
 obtain ⟨h0,h1,h2,rfl⟩:=zbJ hs
 intro a w hf hst
 have key: ∀(A:Option Addr) (cap:Nat),l.length≤cap→(Instr.sliceAt t (.slice A l.length cap) (L.map a.eval) (H.map a.eval) none).run P w= .ok (subV (.slice A l.length cap) sz lo.toNat (hi.toNat - lo.toNat)) w:=by
  intro A cap hcap
  have hA: ∀i:Int,0≤i→i≤(cap:Int)→True:=fun _ _ _=>trivial
  cases L with
  | none=>
    obtain rfl:lo=0:=hL
    cases H with
    | none=>
      obtain rfl:hi=(l.length:Int):=hH
      simp[Instr.sliceAt,Instr.slice,Instr.sliceBounds,run_underlying hu,sizeOf,typeInfo,hti,hsz,subV]
    | some y=>
      obtain ⟨k,hy⟩:=hH
      simp[Instr.sliceAt,Instr.slice,Instr.sliceBounds,Instr.sliceBound,asIntOf,hf.eval hy,run_underlying hu,sizeOf,typeInfo,hti,hsz,subV,show 0≤hi by omega,show hi≤(cap:Int) by omega]
  | some y=>
    obtain ⟨k,hy⟩:=hL
    cases H with
    | none=>
      obtain rfl:hi=(l.length:Int):=hH
      simp[Instr.sliceAt,Instr.slice,Instr.sliceBounds,Instr.sliceBound,asIntOf,hf.eval hy,run_underlying hu,sizeOf,typeInfo,hti,hsz,subV,h0,h1]
    | some y2=>
      obtain ⟨k2,hy2⟩:=hH
      simp[Instr.sliceAt,Instr.slice,Instr.sliceBounds,Instr.sliceBound,asIntOf,hf.eval hy,hf.eval hy2,run_underlying hu,sizeOf,typeInfo,hti,hsz,subV,h0,show 0≤hi by omega,show hi≤(cap:Int) by omega,show (hi.toNat:Int)=hi by omega,h1,show max hi 0=hi by omega]
 rcases hc.row hst with ⟨h3,_,rfl⟩ | ⟨a0,cap,vs,S,rfl,hcap,_⟩
 ·have:=key none 0 (by omega)
  rw[h3]at this
  simp[execOp,hf.eval hx,this]
 ·have:=key (some a0) cap hcap
  simp[execOp,hf.eval hx,this]
def nz (q:Int):Option Unit:=if q=0 then none else some ()
theorem nz_ne {q:Int} {u:Unit} (h:nz q=some u):q≠0:=by
 unfold nz at h
 split at h
 ·cases h
 ·assumption
def capOk (v:Value) (n:Nat):Prop:=match v with | .slice _ _ cap=>n≤cap | _=>False
def delV (v:Value) (n:Nat):Value:=match v with | .slice a _ cap=>.slice a n cap | _=>undef
theorem zgA {α:Type} {l z0 z1 z2:List α} {i j:Int} (h0:piece l i j=some z0) (h1:piece l 0 i=some z1) (h2:piece l j (l.length:Int)=some z2):(z1++z2).length≤l.length:=by
 obtain ⟨p0,p1,p2,_⟩:=zbJ h0
 obtain ⟨_,_,_,rfl⟩:=zbJ h1
 obtain ⟨_,_,_,rfl⟩:=zbJ h2
 rw[List.length_append,List.length_take,List.length_take,List.length_drop,List.length_drop]
 omega
theorem Can.cap {v:Value} {sz k:Nat} {cs:List C} (hc:Can w0 S0 is v (.sl sz k cs)): ∀w,St w0 S0 is w→capOk v k:=by
 intro w hs
 rcases hc.row hs with ⟨h1,_,rfl⟩ | ⟨a0,cap,vs,S,rfl,h2,_⟩
 ·exact Nat.le_of_eq h1
 ·exact h2
theorem TO.fact {R:Type} {m:Option R} {Q:R→Exit→Act→World→Prop} {p:Prop} {ops:Array Oper} {l:List Oper} (g: ∀w,St w0 S0 is w→p) (h:p→TO P w0 S0 m n fr is ops l Q):TO P w0 S0 m n fr is ops l Q:=
 fun r hr a w hf hs=>h (g w hs) r hr a w hf hs
theorem TA.fact {R:Type} {m:Option R} {Q:R→Exit→Act→World→Prop} {p:Prop} {isH:List Item} {ops:Array Oper} {fuel:Nat} {listed:Array Bool} (g: ∀w,St w0 S0 is w→p) (h:p→TA P w0 S0 m n fr is isH ops fuel listed Q):TA P w0 S0 m n fr is isH ops fuel listed Q:=
 fun r hr a w hf hs=>h (g w hs) r hr a w hf hs
def sub3V (v:Value) (sz lo n m:Nat):Value:=match v with
 | .slice a _ _=>.slice (if m=lo then a else a.map (·.add (lo*sz))) n (m - lo)
 | _=>undef
theorem Y.subs3 {α:Type} {l z:List α} {v:Value} {x y1 y2 y3:Operand} {t e sz by_ sz':Nat} {cs:List C} {lo hi:Int} {k1 k2 k3:IntKind} (hs:piece l lo hi=some z) (he:elemB P t=some (e,sz,by_)) (hc:Can w0 S0 is v (.sl sz' l.length cs))
 (hx:ev fr x=some v) (h1:ev fr y1=some (.int k1 lo)) (h2:ev fr y2=some (.int k2 hi)) (h3:ev fr y3=some (.int k3 l.length)):
 Y P w0 S0 n fr is ⟨dst,.slice t x (some y1) (some y2) (some y3),ty,pos,aft,gd⟩ (sub3V v sz lo.toNat (hi.toNat - lo.toNat) l.length):=by
 obtain ⟨hu,ti,hti,hsz,_⟩:=zJ he
 obtain ⟨q0,q1,q2,rfl⟩:=zbJ hs
 intro a w hf hst
 have key: ∀(A:Option Addr) (cap:Nat),l.length≤cap→(Instr.sliceAt t (.slice A l.length cap) (some (.int k1 lo)) (some (.int k2 hi)) (some (.int k3 l.length))).run P w= .ok (sub3V (.slice A l.length cap) sz lo.toNat (hi.toNat - lo.toNat) l.length) w:=by
  intro A cap hcap
  simp[Instr.sliceAt,Instr.slice,Instr.sliceBounds,Instr.sliceBound,asIntOf,run_underlying hu,sizeOf,typeInfo,hti,hsz,sub3V,hcap,q0,q2,show 0≤hi by omega,show (hi.toNat:Int)=hi by omega,q1,show max hi 0=hi by omega]
 rcases hc.row hst with ⟨h4,_,rfl⟩ | ⟨a0,cap,vs,S,rfl,hcap,_⟩
 ·have hnil:l= []:=List.eq_nil_of_length_eq_zero h4
  subst hnil
  have:=key none 0 (by simp)
  have e3:=hf.eval h3
  have hrun:(execOp a.eval ⟨dst,.slice t x (some y1) (some y2) (some y3),ty,pos,aft,gd⟩).run P w= .ok (.value (sub3V (.slice none 0 0) sz lo.toNat (hi.toNat - lo.toNat) 0)) w:=by
   simp only[List.length_nil]at this e3
   simp only[execOp,hf.eval hx,hf.eval h1,hf.eval h2,e3,Option.map_some,Sem.run_bind,this,Result.andThen_ok,Sem.run_pure]
  exact hrun
 ·have:=key (some a0) cap hcap
  simp[execOp,hf.eval hx,hf.eval h1,hf.eval h2,hf.eval h3,this]
theorem Ef.del {α:Type} [Enc α] {d:Option Nat} {t e sz by_:Nat} {x y:Operand} {l z0 z1 z2:List α} {v:Value} {i j:Int} {is':List Item} (ks:List Nat) (h0:piece l i j=some z0) (h1:piece l 0 i=some z1) (h2:piece l j (l.length:Int)=some z2)
 (he:elemB P t=some (e,sz,by_)) (hsz:Enc.sz α=sz) (hp:pulls ks is=some (.own v (lc l)::is')) (hx:ev fr x=some (subV v sz (0:Int).toNat (i.toNat - (0:Int).toNat))) (hy:ev fr y=some (subV v sz j.toNat ((l.length:Int).toNat - j.toNat))):
 Ef P w0 S0 n fr is ⟨d,.call {callee:=.builtin .append,args:=#[x,y],argTypes:=#[t,t]},ty,pos,aft,gd⟩ (fun _:Unit=>delV v (z1++z2).length) (fun _=>.own (delV v (z1++z2).length) (lc (z1++z2))::is'):=by
 subst hsz
 obtain ⟨hu,ti,hti,hsz',hby⟩:=zJ he
 obtain ⟨p0,p1,p2,_⟩:=zbJ h0
 obtain ⟨_,_,p3,hz1⟩:=zbJ h1
 obtain ⟨_,_,_,hz2⟩:=zbJ h2
 have e1:z1=l.take i.toNat:=by rw[hz1];simp
 have e2:z2=l.drop j.toNat:=by rw[hz2];exact List.take_of_length_le (by simp)
 have l1:z1.length=i.toNat:=by rw[e1,List.length_take];omega
 have l2:z2.length=l.length - j.toNat:=by rw[e2,List.length_drop]
 have hl:l=z1++((l.drop i.toNat).take (j.toNat - i.toNat)++z2):=by
  rw[e1,e2]
  conv=>lhs;rw[←List.take_append_drop i.toNat l,←List.take_append_drop (j.toNat - i.toNat) (l.drop i.toNat),List.drop_drop,show i.toNat+(j.toNat - i.toNat)=j.toNat by omega]
 have lm:((l.drop i.toNat).take (j.toNat - i.toNat)).length=j.toNat - i.toNat:=by rw[List.length_take,List.length_drop];omega
 intro a w K Q hf hs hK
 have hs':St w0 S0 ([.own v (lc l)]++is') w:=hs.pulls ks hp
 have key: ∀A,sats w [.own v (lc l)] A→A.Nodup→∃w',(Builtin.append_ #[t,t] ty #[subV v (Enc.sz α) (0:Int).toNat (i.toNat - (0:Int).toNat),subV v (Enc.sz α) j.toNat ((l.length:Int).toNat - j.toNat)]).run P w= .ok (delV v (z1++z2).length) w'∧
  ∃A',Chg w w' A∧sats w' [.own (delV v (z1++z2).length) (lc (z1++z2))] A'∧A'.Nodup∧∀b∈A',b∈A∨w.heap.size≤b:=by
  rintro A ⟨A1,A2,rfl,hA,hA2⟩ hnd
  rw[show A2= [] from hA2,List.append_nil]at hnd ⊢
  have hA':Ow w v (.sl (Enc.sz α) l.length (l.flatMap Enc.enc)) A1:=hA
  generalize hln:l.length=ln at hA' l2
  generalize hcs:l.flatMap (Enc.enc (α:=α))=cs at hA'
  cases hA' with
  | nil=>
    have hnil:l= []:=List.eq_nil_of_length_eq_zero hln
    subst hnil
    have hi0:i.toNat=0:=by simp at p2;omega
    have hj0:j.toNat=0:=by simp at p2;omega
    have hz:z1++z2= []:=by rw[e1,e2];simp
    rw[hz,hi0,hj0]
    have hrun:=append_none_any (P:=P) (ty:=ty) hu hti (.slice none 0 0) 0 [] (OwR.nil w 0 (Enc.sz α))
    exact ⟨w,by simpa[subV,delV] using hrun,[],Chg.refl _ _,⟨[],[],rfl,.nil _,rfl⟩,List.nodup_nil,by simp⟩
  | row b nn cap e' sz cur vs _ S hh hc hm hcur ht hr=>
    subst hcs
    have hvl:vs.length=ln*Enc.sz α:=by rw[hr.length,zbM,hln]
    rw[hl,List.flatMap_append,List.flatMap_append]at hr
    obtain ⟨S1,S23,rfl,hr1,hr23⟩:=hr.split
    obtain ⟨S2,S3,rfl,hr2,hr3⟩:=hr23.split
    have fl1:(z1.flatMap (Enc.enc (α:=α))).length=i.toNat*Enc.sz α:=by rw[zbM,l1]
    have flm:(((l.drop i.toNat).take (j.toNat - i.toNat)).flatMap (Enc.enc (α:=α))).length=(j.toNat - i.toNat)*Enc.sz α:=by rw[zbM,lm]
    rw[fl1]at hr1 hr3
    rw[flm,List.drop_drop,←Nat.add_mul,show i.toNat+(j.toNat - i.toNat)=j.toNat by omega]at hr3
    have hcap:ln*Enc.sz α≤cap*Enc.sz α:=Nat.mul_le_mul_right _ hc
    have hij:i.toNat*Enc.sz α≤j.toNat*Enc.sz α:=Nat.mul_le_mul_right _ (by omega)
    have hjn:j.toNat*Enc.sz α+(ln - j.toNat)*Enc.sz α=ln*Enc.sz α:=by rw[←Nat.add_mul];congr 1;omega
    have hdl:(vs.drop (j.toNat*Enc.sz α)).length=(ln - j.toNat)*Enc.sz α:=by rw[List.length_drop,hvl];omega
    have hn1:(z1++z2).length=i.toNat+(ln - j.toNat):=by rw[List.length_append,l1,l2]
    have hx':subV (.slice (some ⟨b,0,none⟩) ln cap) (Enc.sz α) (0:Int).toNat (i.toNat - (0:Int).toNat)= .slice (some ⟨b,0,none⟩) i.toNat cap:=by
     have:(⟨b,0,none⟩:Addr).add 0=⟨b,0,none⟩:=by simp[Addr.add]
     simp[subV,this]
    have hrun: ∃ad,(Builtin.append_ #[t,t] ty #[.slice (some ⟨b,0,none⟩) i.toNat cap,.slice (some ad) (ln - j.toNat) (cap - j.toNat)]).run P w= .ok (.slice (some ⟨b,0,none⟩) (i.toNat+(ln - j.toNat)) cap) (w.setRow b (cur.toList.take (i.toNat*ti.size)++vs.drop (j.toNat*Enc.sz α)++cur.toList.drop (i.toNat*ti.size+(vs.drop (j.toNat*Enc.sz α)).length)).toArray)∧
     subV (.slice (some ⟨b,0,none⟩) ln cap) (Enc.sz α) j.toNat ((ln:Int).toNat - j.toNat)= .slice (some ad) (ln - j.toNat) (cap - j.toNat):=by
     refine ⟨if cap=j.toNat then ⟨b,0,none⟩ else ⟨b,j.toNat*Enc.sz α,none⟩,append_room_any (P:=P) (ty:=ty) hu hti b i.toNat cap cur hh _ (ln - j.toNat) (cap - j.toNat) _ (by rw[hdl,hsz']) ?_ (fun q hq=>hr3.oneCells q hq) (by omega) ?_,?_⟩
     ·intro k q hq
      have hk:=(List.getElem?_eq_some_iff.1 hq).1
      have hne: ¬cap=j.toNat:=by
       intro e
       have:ln - j.toNat=0:=by omega
       rw[hdl,this,Nat.zero_mul]at hk
       omega
      rw[if_neg hne,add_lit,cell_of_row w b (j.toNat*Enc.sz α+k) cur e' (0,0) hh,←hq,List.getElem?_drop,←ht,List.getElem?_take,if_pos (by omega)]
      simp
     ·rw[hsz',hdl]
      omega
     ·by_cases e:cap=j.toNat
      ·simp[subV,e]
      ·have:(⟨b,0,none⟩:Addr).add (j.toNat*Enc.sz α)=⟨b,j.toNat*Enc.sz α,none⟩:=by rw[add_lit];simp
       simp[subV,e,this]
    obtain ⟨ad,hr0,hy'⟩:=hrun
    have hlt:=hr1.lt
    have hlt3:=hr3.lt
    obtain ⟨hnb,hndS⟩:=List.nodup_cons.1 hnd
    have hkeep: ∀q∈S1++S3,(w.setRow b (cur.toList.take (i.toNat*ti.size)++vs.drop (j.toNat*Enc.sz α)++cur.toList.drop (i.toNat*ti.size+(vs.drop (j.toNat*Enc.sz α)).length)).toArray).heap[q]? =w.heap[q]?:=by
     intro q hq
     refine (Chg.setRow w b _).keep q ?_ ?_
     ·rcases List.mem_append.1 hq with h | h
      ·exact hlt q h
      ·exact hlt3 q h
     ·intro hqb
      rw[List.mem_singleton.1 hqb]at hq
      refine hnb ?_
      rcases List.mem_append.1 hq with h | h
      ·exact List.mem_append.2 (.inl h)
      ·exact List.mem_append.2 (.inr (List.mem_append.2 (.inr h)))
    have hO:=(hr1.append hr3).keep hkeep
    refine ⟨_,by rw[hx',hy',hr0,hn1];rfl,b::(S1++S3),?_,⟨b::(S1++S3),[],by rw[List.append_nil],?_,rfl⟩,?_,?_⟩
    ·refine ⟨(Chg.setRow w b _).os,(Chg.setRow w b _).tape,(Chg.setRow w b _).output,(Chg.setRow w b _).size,fun q hq hn=>(Chg.setRow w b _).keep q hq ?_⟩
     intro hqb
     exact hn (by rw[List.mem_singleton.1 hqb];simp)
    ·show Ow _ (.slice (some ⟨b,0,none⟩) (z1++z2).length cap) (.sl (Enc.sz α) (z1++z2).length ((z1++z2).flatMap Enc.enc)) _
     rw[List.flatMap_append]
     refine .row b _ cap e' (Enc.sz α) _ _ _ _ (setRow_heap w b _ _ e' _ hh) (by omega) hm ?_ ?_ hO
     ·rw[List.size_toArray,List.length_append,List.length_append,hdl,List.length_take,List.length_drop,hsz',Array.length_toList]
      omega
     ·have ht1:cur.toList.take (i.toNat*ti.size)=vs.take (i.toNat*Enc.sz α):=by
       rw[hsz',←ht,List.take_take,Nat.min_eq_left (by omega)]
      have hl1:(vs.take (i.toNat*Enc.sz α)++vs.drop (j.toNat*Enc.sz α)).length=(z1++z2).length*Enc.sz α:=by
       rw[List.length_append,hdl,List.length_take,hvl,hn1,Nat.add_mul]
       omega
      rw[List.toList_toArray,ht1,List.take_append_of_le_length (by rw[hl1];exact Nat.le_refl _),List.take_of_length_le (by rw[hl1];exact Nat.le_refl _)]
    ·refine List.nodup_cons.2 ⟨fun h=>hnb ?_,hndS.sublist (List.Sublist.append (List.Sublist.refl _) (List.sublist_append_right S2 S3))⟩
     rcases List.mem_append.1 h with h | h
     ·exact List.mem_append.2 (.inl h)
     ·exact List.mem_append.2 (.inr (List.mem_append.2 (.inr h)))
    ·intro q hq
     refine .inl ?_
     rcases List.mem_cons.1 hq with rfl | h
     ·simp
     ·rcases List.mem_append.1 h with h | h
      ·simp[h]
      ·simp[h]
 obtain ⟨SA,hSA⟩:=hs'.own
 obtain ⟨A,B,rfl,hA,hB⟩:=zcv.1 hSA.1
 obtain ⟨w',hrun,_⟩:=key A hA (List.nodup_append.1 hSA.2.1).1
 have hst:St w0 S0 ([.own (delV v (z1++z2).length) (lc (z1++z2))]++is') w':=hs'.step fun A hA hn=>by
  obtain ⟨w2,h2,h3⟩:=key A hA hn
  rw[hrun]at h2
  cases h2
  exact h3
 have he2:(execOp a.eval ⟨d,.call {callee:=.builtin .append,args:=#[x,y],argTypes:=#[t,t]},ty,pos,aft,gd⟩).run P w= .ok (.value (delV v (z1++z2).length)) w':=by
  have hx':=hf.eval hx
  have hy':=hf.eval hy
  generalize subV v (Enc.sz α) (0:Int).toNat (i.toNat - (0:Int).toNat)=X1 at hx' hrun
  generalize subV v (Enc.sz α) j.toNat ((l.length:Int).toNat - j.toNat)=Y1 at hy' hrun
  simp[execOp,resolve,invoke,builtin,hx',hy',hrun]
 unfold Oper.wp
 rw[he2]
 exact hK () w' hst
theorem Y.tail {v:Value} {x y1 y2:Operand} {t e sz by_ N:Nat} {hi:Nat} {k1 k2:IntKind} (hcap:capOk v hi) (hle:N≤hi) (he:elemB P t=some (e,sz,by_)) (hx:ev fr x=some (delV v N)) (h1:ev fr y1=some (.int k1 N)) (h2:ev fr y2=some (.int k2 hi)):
 Y P w0 S0 n fr is ⟨dst,.slice t x (some y1) (some y2) none,ty,pos,aft,gd⟩ (subV (delV v N) sz N (hi - N)):=by
 obtain ⟨hu,ti,hti,hsz,_⟩:=zJ he
 intro a w hf hst
 match v,hcap,hx with
 | .slice A m cap,hcap,hx=>
   have hcap':hi≤cap:=hcap
   simp[execOp,hf.eval hx,hf.eval h1,hf.eval h2,delV,Instr.sliceAt,Instr.slice,Instr.sliceBounds,Instr.sliceBound,asIntOf,run_underlying hu,sizeOf,typeInfo,hti,hsz,subV,hcap',hle,show N≤cap by omega]
theorem Ef.clearTail {v z:Value} {y:Operand} {t e sz by_ N hi k:Nat} {cs:List C} (hcap:capOk v hi) (hle:N≤hi) (he:elemB P t=some (e,sz,by_)) (hz:zeroB P e=some z) (hzs:Nat.beq z.cells.size sz=true) (hz1:z.cells.toList.all (·.oneCell')=true)
 (hk:is[k]? =some (.own (delV v N) (.sl sz N cs))) (hy:ev fr y=some (subV (delV v N) sz N (hi - N))):
 Ef P w0 S0 n fr is ⟨none,.call {callee:=.builtin .clear,args:=#[y],argTypes:=#[t]},ty,pos,aft,gd⟩ (fun _:Unit=>.tuple #[]) (fun _=>is):=by
 obtain ⟨hu,ti,hti,hsz,_⟩:=zJ he
 have hzs':z.cells.size=sz:=by simpa using hzs
 intro a w K Q hf hst hK
 match v,hcap,hk,hy with
 | .slice A m cap,hcap,hk,hy=>
   have hcap':hi≤cap:=hcap
   by_cases h0:hi - N=0
   ·have hrun:(execOp a.eval ⟨none,.call {callee:=.builtin .clear,args:=#[y],argTypes:=#[t]},ty,pos,aft,gd⟩).run P w= .ok (.value (.tuple #[])) w:=by
     have hy':a.eval y= .slice (if cap=N then A else A.map (·.add (N*sz))) 0 (cap - N):=by rw[hf.eval hy,h0];rfl
     by_cases hA:(if cap=N then A else A.map (·.add (N*sz)))=none
     ·simp[execOp,resolve,invoke,builtin,hy',hA,Builtin.clear_,run_underlying hu]
     ·obtain ⟨q,hq⟩:=Option.ne_none_iff_exists'.1 hA
      simp[execOp,resolve,invoke,builtin,hy',hq,Builtin.clear_,run_underlying hu]
    unfold Oper.wp
    rw[hrun]
    exact hK () w hst
   ·obtain ⟨A0,hA0,_⟩:=zcr hk hst.own.choose_spec.1
    have hrow: ∀A1,Ow w (.slice A N cap) (.sl sz N cs) A1→∃b cur e' vs S,A=some ⟨b,0,none⟩∧w.heap[b]? =some (.cells cur e' (0,0))∧N≤cap∧cap≤maxLen∧cap*sz≤cur.size∧cur.toList.take (N*sz)=vs∧Ows w vs cs S∧A1=b::S:=by
     intro A1 h
     cases h with
     | nil=>omega
     | row b n cap e' sz cur vs cs S hh hc hm hs ht hr=>exact ⟨b,cur,e',vs,S,rfl,hh,hc,hm,hs,ht,hr,rfl⟩
    obtain ⟨b,cur,e',vs,S,rfl,hh,hc,hm,hs,ht,hr,_⟩:=hrow A0 hA0
    have hlen:(Builtin.zeroCells z.cells (hi - N)).toList.length=(hi - N)*sz:=by rw[Array.length_toList,size_zeroCells,hzs']
    have hone: ∀q∈(Builtin.zeroCells z.cells (hi - N)).toList,q.oneCell'=true:=by
     intro q hq
     have hq':q∈(Builtin.zeroCells z.cells (hi - N)):=by simpa using hq
     have: ∀n,∀q∈Builtin.zeroCells z.cells n,q∈z.cells:=by
      intro n q hq
      unfold Builtin.zeroCells at hq
      simp only[Array.mem_map,Array.mem_range]at hq
      obtain ⟨i,hi,rfl⟩:=hq
      have hpos:0<z.cells.size:=by
       rcases Nat.eq_zero_or_pos z.cells.size with h | h
       ·rw[h,Nat.mul_zero]at hi;omega
       ·exact h
      have hm:i % z.cells.size<z.cells.size:=Nat.mod_lt _ hpos
      rw[getElem!_pos z.cells _ hm]
      exact Array.getElem_mem _
     have h3:=this _ q hq'
     exact List.all_eq_true.1 hz1 q (by simpa using h3)
    have hmul:N*sz+(hi - N)*sz≤cap*sz:=by rw[←Nat.add_mul];exact Nat.mul_le_mul_right _ (by omega)
    have hst2:=run_storeCells_at P b (N*sz) e' (Builtin.zeroCells z.cells (hi - N)).toList 0 cur w hh (by rw[hlen];omega) hone
    have hrun:(execOp a.eval ⟨none,.call {callee:=.builtin .clear,args:=#[y],argTypes:=#[t]},ty,pos,aft,gd⟩).run P w= .ok (.value (.tuple #[])) (w.setRow b (cur.toList.take (N*sz)++(Builtin.zeroCells z.cells (hi - N)).toList++cur.toList.drop (N*sz+(Builtin.zeroCells z.cells (hi - N)).toList.length)).toArray):=by
     have hy':a.eval y= .slice (some ⟨b,N*sz,none⟩) (hi - N) (cap - N):=by
      rw[hf.eval hy]
      have:(⟨b,0,none⟩:Addr).add (N*sz)=⟨b,N*sz,none⟩:=by rw[add_lit];simp
      simp[delV,subV,show ¬cap=N by omega,this]
     obtain ⟨q,hq⟩: ∃q,hi - N=q+1:=⟨hi - N - 1,by omega⟩
     simp only[Nat.add_zero]at hst2
     rw[hq]at hst2 hy' ⊢
     simp[execOp,resolve,invoke,builtin,hy',Builtin.clear_,run_underlying hu,zfT hz,hst2]
    unfold Oper.wp
    rw[hrun]
    refine hK () _ ?_
    have hset:is.set k (.own (delV (.slice (some ⟨b,0,none⟩) m cap) N) (.sl sz N cs))=is:=by
     apply List.ext_getElem?
     intro i
     rw[List.getElem?_set]
     split
     ·rename_i e
      subst e
      have:=(List.getElem?_eq_some_iff.1 hk).1
      rw[if_pos this,hk]
     ·rfl
    rw[←hset]
    refine hst.upd hk fun A1 hA1 hnd=>?_
    obtain ⟨b2,cur2,e2,vs2,S2,hb2,hh2,_,_,_,ht2,hr2,rfl⟩:=hrow A1 hA1
    obtain rfl:b2=b:=by simp at hb2;exact hb2.symm
    obtain ⟨rfl,rfl⟩:cur2=cur∧e2=e':=by rw[hh]at hh2;cases hh2;exact ⟨rfl,rfl⟩
    have hnb:=(List.nodup_cons.1 hnd).1
    refine ⟨b2::S2,?_,?_,hnd,fun q hq=>.inl hq⟩
    ·refine ⟨(Chg.setRow w b2 _).os,(Chg.setRow w b2 _).tape,(Chg.setRow w b2 _).output,(Chg.setRow w b2 _).size,fun q hq hn=>(Chg.setRow w b2 _).keep q hq ?_⟩
     intro hqb
     exact hn (by rw[List.mem_singleton.1 hqb];simp)
    ·refine .row b2 N cap e2 sz _ vs2 _ S2 (setRow_heap w b2 _ _ e2 _ hh) hc hm ?_ ?_ (hr2.keep fun q hq=>(Chg.setRow w b2 _).keep q (hr2.lt q hq) fun hqb=>hnb (by rw[List.mem_singleton.1 hqb]at hq;exact hq))
     ·rw[List.size_toArray,List.length_append,List.length_append,List.length_take,List.length_drop,hlen,Array.length_toList]
      omega
     ·have hl1:(cur2.toList.take (N*sz)).length=N*sz:=by rw[List.length_take,Array.length_toList];omega
      rw[List.toList_toArray,List.append_assoc,List.take_append_of_le_length (by rw[hl1];exact Nat.le_refl _),List.take_of_length_le (by rw[hl1];exact Nat.le_refl _)]
      exact ht2
end
end Go.Proofs.YtfgjhefhlabpkaaGreat.Sl
