/-
  Structs whose fields are ints, bools and strings, compared. Generic: no statement about a given function.
-/
import Derived.Test.YtfgjhefhlabpkaaGreatSt
import Derived.Test.YtfgjhefhlabpkaaGreatSp
import Derived.Laws.StructEq
import Derived.ChangeKeysEq
import Derived.Lib.ConvBytes
namespace Go.Proofs.YtfgjhefhlabpkaaGreat.Sl
open Go RowKit
section
variable {P:Program} {w0:World} {S0:List Nat} {n:Nat} {fr:Fr} {is:List Item} {dst:Option Nat} {ty:TypeId} {pos:String} {aft:Array Edge} {gd:Option (Nat × Bool)}
def scalB (P:Program) (t:TypeId):Option Nat:=match P.underlying t with
 | some (.int _)=>some 0
 | some .bool=>some 1
 | some .string=>some 2
 | _=>none
def fkB (P:Program):Nat→List Field→Option (List Nat)
 | _,[]=>some []
 | o,f::fs=>match f.name != "_" &&Nat.beq f.offset o,scalB P f.type,fkB P (o+1) fs with
   | true,some k,some ks=>some (k::ks)
   | _,_,_=>none
def eqTB (P:Program) (t:TypeId):Option (List Nat):=match P.underlying t with
 | some (.struct fs)=>bif P.stoodInHeld t||P.eqGuardType P.depth t then none else fkB P 0 fs.toList
 | _=>none
inductive EqA:List Nat→List Value→List Value→Bool→Prop
 | nil:EqA [] [] [] true
 | int {ks xs ys b} {k:IntKind} {p q:Int} :EqA ks xs ys b→EqA (0::ks) (.int k p::xs) (.int k q::ys) (decide (p=q)&&b)
 | bool {ks xs ys b} {p q:Bool} :EqA ks xs ys b→EqA (1::ks) (.bool p::xs) (.bool q::ys) (decide (p=q)&&b)
 | str {ks xs ys b} {p q:List UInt8} :EqA ks xs ys b→EqA (2::ks) (strV p::xs) (strV q::ys) (decide (p=q)&&b)
theorem zpo {t:TypeId} {k:Nat} (h:scalB P t=some k):P.plainKey t=true:=by
 unfold scalB at h
 unfold Program.plainKey
 split at h<;>simp_all
theorem zng {l:List Value} {o:Nat} {x:Value} {xs:List Value} (h:l.drop o=x::xs):l[o]? =some x∧l.drop (o+1)=xs:=by
 constructor
 ·have:=congrArg (fun q=>q[0]?) h
  simpa using this
 ·rw[←List.drop_drop,h];rfl
theorem zkj (d:Nat) (w:World) (xs ys:Array Value): ∀(fs:List Field) (o:Nat) (ks:List Nat) (xl yl:List Value) (b:Bool),fkB P o fs=some ks→EqA ks xl yl b→xs.toList.drop o=xl→ys.toList.drop o=yl→(Op.eqFields (d+1) xs ys fs).run P w= .ok b w
 | [],o,ks,xl,yl,b,hk,he,hx,hy=>by
   simp only[fkB,Option.some.injEq]at hk
   subst hk
   cases he
   rfl
 | f::fs,o,ks,xl,yl,b,hk,he,hx,hy=>by
   unfold fkB at hk
   split at hk
   case h_2=>cases hk
   rename_i k ks' h1 h2 h3
   cases hk
   simp only[Bool.and_eq_true,bne_iff_ne,ne_eq]at h1
   obtain ⟨h1,ho⟩:=h1
   have ho':f.offset=o:=Nat.eq_of_beq_eq_true ho
   have hp:=zpo h2
   have key: ∀(u v:Value) (xl' yl':List Value) (r b':Bool),xl=u::xl'→yl=v::yl'→EqA ks' xl' yl' b'→b=(r&&b')→(Op.equalIn (d+1) f.type u v).run P w= .ok r w→(Op.eqFields (d+1) xs ys (f::fs)).run P w= .ok b w:=by
    intro u v xl' yl' r b' e1 e2 he' eb hr
    subst e1 e2 eb
    obtain ⟨gx,dx⟩:=zng hx
    obtain ⟨gy,dy⟩:=zng hy
    have ax:xs[f.offset]? =some u:=by rw[ho',←Array.getElem?_toList];exact gx
    have ay:ys[f.offset]? =some v:=by rw[ho',←Array.getElem?_toList];exact gy
    unfold Op.eqFields
    rw[if_pos h1]
    simp only[Sem.run_bind,run_part_plain w hp ax,run_part_plain w hp ay,Result.andThen_ok,hr]
    cases r with
    | false=>rfl
    | true=>
      simp only[Bool.not_true,Bool.false_eq_true,if_false,Bool.true_and]
      exact zkj d w xs ys fs (o+1) ks' xl' yl' b' h3 he' dx dy
   have hu:=h2
   unfold scalB at hu
   cases he with
   | int he'=>
     split at hu<;>cases hu
     rename_i ku hku
     exact key _ _ _ _ _ _ rfl rfl he' rfl (by rw[run_equalIn_int w d f.type _ ku _ _ hku];congr 1)
   | bool he'=>
     split at hu<;>cases hu
     rename_i hku
     exact key _ _ _ _ _ _ rfl rfl he' rfl (by rw[run_equalIn_bool' w d f.type _ _ hku];congr 1)
   | str he'=>
     split at hu<;>cases hu
     rename_i hku
     exact key _ _ _ _ _ _ rfl rfl he' rfl (by rw[strV,strV,run_equalIn_string w d f.type _ _ hku,zk6,zk6,ziq])
theorem zmX {t:TypeId} {ks:List Nat} {xs ys:List Value} {b:Bool} (ht:eqTB P t=some ks) (he:EqA ks xs ys b) (w:World):(Op.equalIn 10000 t (.agg xs.toArray) (.agg ys.toArray)).run P w= .ok b w∧P.eqGuardType P.depth t=false:=by
 unfold eqTB at ht
 split at ht
 case h_2=>cases ht
 rename_i fs hu
 cases hs:P.stoodInHeld t with
 | true=>rw[hs]at ht;simp at ht
 | false=>
   cases hg:P.eqGuardType P.depth t with
   | true=>rw[hg]at ht;simp at ht
   | false=>
     rw[hs,hg]at ht
     simp only[Bool.or_self,cond_false]at ht
     refine ⟨?_,rfl⟩
     have hf:P.fieldsOf t=fs:=by unfold Program.fieldsOf;rw[hu]
     have hu':P.underlying t=some (.struct (P.fieldsOf t)):=by rw[hf];exact hu
     rw[run_equalIn_struct w 9999 t xs.toArray ys.toArray hu' hs,hf]
     exact zkj 9998 w xs.toArray ys.toArray fs.toList 0 ks xs ys b ht he rfl rfl
theorem Y.neqA {x y:Operand} {t t':TypeId} {ks:List Nat} {xs ys:List Value} {b:Bool} (ht:eqTB P t=some ks) (he:EqA ks xs ys b) (hx:ev fr x=some (.agg xs.toArray)) (hy:ev fr y=some (.agg ys.toArray)):
 Y P w0 S0 n fr is ⟨dst,.binOp .neq t x y t',ty,pos,aft,gd⟩ (.bool (!b)):=by
 intro a w hf _
 obtain ⟨h1,h2⟩:=zmX ht he w
 simp only[execOp,hf.eval hx,hf.eval hy,Sem.run_bind,Sem.run_pure,Result.andThen_ok,run_eqGuard_agg w _ t x y _ _ h2,run_neq_struct,h1]
def byteRoom (s:List UInt8):Option Unit:=if s.length≤140737488355328 then some () else none
theorem Ef.toBytes {src tgt e sz by_:Nat} {x:Operand} {s:List UInt8} {z:Unit} (hb:byteRoom s=some z) (hs:isStrB P src=true) (he:elemB P tgt=some (e,sz,by_)) (hk:intB P e=some .u8) (hx:ev fr x=some (strV s)):
 Ef P w0 S0 n fr is ⟨dst,.convert src tgt x,ty,pos,aft,gd⟩ (fun v:Value=>v) (fun v=>.frz v e s::is):=by
 obtain ⟨hu,_⟩:=zJ he
 have hs':P.underlying src=some .string:=by unfold isStrB at hs;split at hs<;>simp_all
 have hk':P.underlying e=some (.int .u8):=by unfold intB at hk;split at hk<;>simp_all
 intro a w K Q hf hst hK
 have hrun:=Lib.run_convert_string_bytes (P:=P) w src tgt e ⟨s.toArray⟩ hs' hu hk'
 have hsz:(ByteArray.mk s.toArray).size=s.length:=by rw[ByteArray.size_mk'];rfl
 rw[hsz]at hrun
 have hge:=grownCap_ge w s.length 0 e
 have hop:(execOp a.eval ⟨dst,.convert src tgt x,ty,pos,aft,gd⟩).run P w= .ok (.value (.slice (some ⟨w.heap.size,0,none⟩) s.length (grownCap w s.length 0 e))) (Lib.bytesWorld w e ⟨s.toArray⟩):=by
  simp[execOp,hf.eval hx,strV,hrun]
 unfold Oper.wp
 rw[hop]
 refine hK _ _ ?_
 refine St.step (is:=[]) (js:=[.frz (.slice (some ⟨w.heap.size,0,none⟩) s.length (grownCap w s.length 0 e)) e s]) (r:=is) hst fun A hA _=>⟨[w.heap.size],?_,?_,by simp,fun b hb=>.inr (by rw[List.mem_singleton.1 hb];exact Nat.le_refl _)⟩
 ·have h1:=Lib.bytesWorld_size w e ⟨s.toArray⟩
  refine ⟨?_,?_,?_,by omega,fun b hb _=>Lib.bytesWorld_at_old w e _ b hb⟩<;>(unfold Lib.bytesWorld World.freeze;split<;>rfl)
 ·have hcs:(Lib.bytesCells w e ⟨s.toArray⟩).size=grownCap w s.length 0 e:=by
   unfold Lib.bytesCells
   rw[hsz]
   simp
   omega
  refine ⟨[w.heap.size],[],rfl,⟨w.heap.size,grownCap w s.length 0 e,Lib.bytesCells w e ⟨s.toArray⟩,rfl,?_,hge,hcs,?_,rfl⟩,rfl⟩
  ·rw[Lib.bytesWorld_at_new,hcs]
  ·unfold Lib.bytesCells
   simp
theorem ztn {w:World} {i e:Nat} {v:Value} {l:List UInt8} (hs:St w0 S0 is w) (hi:is[i]? =some (.frz v e l)): ∃A,Frz w v e l A:=by
 obtain ⟨A,hA,_⟩:=zcr hi hs.own.choose_spec.1
 exact ⟨A,hA⟩
theorem znk (l:List UInt8):l.map (fun x=>Value.int .u8 x.toNat)=l.flatMap (Flat.vals (α:=UInt8)):=by
 induction l with
 | nil=>rfl
 | cons x l ih=>rw[List.map_cons,List.flatMap_cons,ih];rfl
theorem Can.frz {v:Value} {e:TypeId} {l:List UInt8} (k:Nat) (h:is[k]? =some (.frz v e l)):Can w0 S0 is v (lc l):=by
 intro w S hs _
 obtain ⟨A,hA,hsub⟩:=zcr h hs
 obtain ⟨g,cap,cur,rfl,h2,h3,h4,h5,rfl⟩:=hA
 obtain ⟨T,hT,hTs⟩:=Ows.rds (Ows.of_vals (w:=w) (zba l))
 have hT0:T= []:=by
  cases T with
  | nil=>rfl
  | cons x T=>exact absurd (hTs x (by simp)) (by simp)
 subst hT0
 have hsz:Enc.sz UInt8=1:=rfl
 refine ⟨_,.row ⟨g,0,none⟩ l.length cap (Enc.sz UInt8) (l.flatMap Flat.vals) _ [] (by rw[←znk];simp[hsz]) h3 ?_ hT,?_⟩
 ·intro j hj
  rw[hsz,Nat.mul_one]at hj
  have hadd:(⟨g,0,none⟩:Addr).add j=⟨g,j,none⟩:=by unfold Addr.add;split<;>simp_all
  rw[hadd,cell_of_row w g j cur e (cap,cap+1) h2,←znk,←h5,List.getElem?_take,if_pos hj]
  simp
 ·intro b hb
  rw[List.append_nil]at hb
  split at hb
  ·cases hb
  ·rw[List.mem_singleton.1 hb];exact .inr (hsub g (by simp))
theorem zly {w:World} {b e off ty:Nat} {cur:Array Value} {v:Value} {lo hi:Nat} (hk:kindB P ty=some (false,1)) (hh:w.heap[b]? =some (.cells cur e (lo,hi))) (hlo:cur.size≤lo) (hv:v.cells= #[v]) (h1:v.oneCell'=true) (hle:off<cur.size):
 (storeVar ty ⟨b,off,none⟩ v).run P w= .ok () (w.setRow b (cur.setIfInBounds off v)):=by
 obtain ⟨d,i,hu,hi',hsz,_⟩:=zga hk
 have hcell:w.cell? ⟨b,off,none⟩=some cur[off]:=by simp[World.cell?,hh,hle]
 have hfro:w.frozen? ⟨b,off,none⟩=false:=by
  simp only[World.frozen?,hh,Bool.and_eq_false_iff,decide_eq_false_iff_not]
  left
  omega
 have hst:(store (⟨b,off,none⟩:Addr) v).run P w= .ok () (w.setRow b (cur.setIfInBounds off v)):=by
  rw[run_store P w _ v _ h1,hcell]
  simp[hfro,setCell_eq_setRow w b off cur e (lo,hi) v hh]
 have hadd:(⟨b,off,none⟩:Addr).add 0=⟨b,off,none⟩:=by unfold Addr.add;split<;>simp_all
 simp only[storeVar,Sem.run_bind,sizeOf,typeInfo,run_program,Result.andThen_ok,hi',Sem.run_pure,hv,hsz]
 simp[storeCells,hadd,hst]
theorem Ef.store_frz {x y:Operand} {k t e sz c:Nat} {l:List UInt8} {z:UInt8} {v:Value} (z':UInt8) (i:Nat) (hk:kindB P t=some (false,1)) (hi:is[i]? =some (.frz v e l)) (hz:l[k]? =some z)
 (hx:ev fr x=some (elP v (k*sz+c))) (hs:Nat.beq sz 1=true) (hc:Nat.beq c 0=true) (hy:ev fr y=some (.int .u8 (z'.toNat:Int))) {is':List Item} (his:is.set i (.frz v e (l.set k z'))=is'):
 Ef P w0 S0 n fr is ⟨none,.store t x y,ty,pos,aft,gd⟩ (fun _:Unit=>undef) (fun _=>is'):=by
 obtain rfl:sz=1:=Nat.eq_of_beq_eq_true hs
 obtain rfl:c=0:=Nat.eq_of_beq_eq_true hc
 intro a w K Q hf hst hK
 have hklt:k<l.length:=by
  rcases Nat.lt_or_ge k l.length with h | h
  ·exact h
  ·rw[List.getElem?_eq_none h]at hz;cases hz
 obtain ⟨A0,g,cap,cur,rfl,h2,h3,h4,h5,_⟩:=ztn hst hi
 have hfit:k<cur.size:=by omega
 have hrun:=zly (P:=P) (ty:=t) (off:=k) (v:=.int .u8 (z'.toNat:Int)) hk h2 (by omega) rfl rfl hfit
 have he:(execOp a.eval ⟨none,.store t x y,ty,pos,aft,gd⟩).run P w= .ok .skip (w.setRow g (cur.setIfInBounds k (.int .u8 (z'.toNat:Int)))):=by
  simp[execOp,hf.eval hx,hf.eval hy,elP,Instr.storeAt,Instr.sureAddr,add_lit,hrun]
 unfold Oper.wp
 rw[he]
 refine hK () _ ?_
 subst his
 refine hst.upd hi fun A hA hnd=>?_
 have hAb:A= [g]:=by
  obtain ⟨g',cap',cur',e1,_,_,_,_,e6⟩:=hA
  simp only[Value.slice.injEq,Option.some.injEq,Addr.mk.injEq,true_and,and_true]at e1
  rw[e6,e1.1]
 refine ⟨[g],?_,?_,by simp,fun x hx=>.inl (by rw[hAb];exact hx)⟩
 ·rw[hAb];exact Chg.setRow w g _
 ·refine ⟨g,cap,cur.setIfInBounds k (.int .u8 (z'.toNat:Int)),by rw[List.length_set],setRow_heap w g cur _ e (cap,cap+1) h2,by rw[List.length_set];exact h3,by simpa using h4,?_,rfl⟩
  rw[List.length_set,Array.toList_setIfInBounds,List.take_set,h5,List.map_set]
theorem TO.conv {R:Type} {m:Option R} {Q:R→Exit→Act→World→Prop} {is':List Item} {ops:Array Oper} {l:List Oper} (g: ∀w,St w0 S0 is w→St w0 S0 is' w) (h:TO P w0 S0 m n fr is' ops l Q):TO P w0 S0 m n fr is ops l Q:=
 fun r hr a w hf hs=>h r hr a w hf (g w hs)
theorem TW.conv {R:Type} {m:Option R} {Q:R→Exit→Act→World→Prop} {is':List Item} {c:Code} (g: ∀w,St w0 S0 is w→St w0 S0 is' w) (h:TW P w0 S0 m n fr is' c Q):TW P w0 S0 m n fr is c Q:=
 fun r hr a w hf hs=>h r hr a w hf (g w hs)
theorem TE.conv {R:Type} {m:Option R} {Q:R→Exit→Act→World→Prop} {is':List Item} {e:Exit} (g: ∀w,St w0 S0 is w→St w0 S0 is' w) (h:TE w0 S0 m n fr is' e Q):TE w0 S0 m n fr is e Q:=
 fun r hr a w hf hs=>h r hr a w hf (g w hs)
theorem St.cut {α:Type} [Enc α] {i sz:Nat} {v:Value} {l z:List α} {hi:Int} {is':List Item} (hz:piece l (0:Int) hi=some z) (hsz:Enc.sz α=sz) (hg:is[i]? =some (.own v (lc l))) (his:is.set i (.own (subV v sz (0:Int).toNat (hi.toNat - (0:Int).toNat)) (lc z))=is'):
 ∀w,St w0 S0 is w→St w0 S0 is' w:=by
 subst hsz his
 obtain ⟨h0,h1,h2,rfl⟩:=zbJ hz
 intro w hs
 refine hs.upd hg fun A hA hn=>?_
 have e0:(0:Int).toNat=0:=rfl
 rw[e0,Nat.sub_zero,List.drop_zero]
 have hA':Ow w v (.sl (Enc.sz α) l.length (l.flatMap Enc.enc)) A:=hA
 generalize hcs:l.flatMap (Enc.enc (α:=α))=cs at hA'
 generalize hn':l.length=ln at hA'
 cases hA' with
 | nil sz=>
   have hl:l= []:=List.eq_nil_of_length_eq_zero hn'
   subst hl
   refine ⟨[],Chg.refl w _,?_,List.nodup_nil,by simp⟩
   have e:hi.toNat=0:=by have:hi≤((0:Nat):Int):=h2;omega
   rw[e]
   exact .nil _
 | row b n cap e sz cur vs cs S hh hc hm hz hv hr=>
   have hk:hi.toNat≤ln:=by omega
   have hspl:cs=(l.take hi.toNat).flatMap (Enc.enc (α:=α))++(l.drop hi.toNat).flatMap (Enc.enc (α:=α)):=by rw[←List.flatMap_append,List.take_append_drop,hcs]
   rw[hspl]at hr
   obtain ⟨S1,S2,rfl,hr1,_⟩:=hr.split
   have hlen:((l.take hi.toNat).flatMap (Enc.enc (α:=α))).length=hi.toNat*Enc.sz α:=by
    rw[zbM,List.length_take]
    congr 1
    omega
   have hmul:hi.toNat*Enc.sz α≤ln*Enc.sz α:=Nat.mul_le_mul_right _ hk
   refine ⟨b::S1,Chg.refl w _,?_,?_,fun x hx=>.inl ?_⟩
   ·show Ow w (subV _ _ _ _) (.sl (Enc.sz α) (l.take hi.toNat).length ((l.take hi.toNat).flatMap Enc.enc)) (b::S1)
    have hln:(l.take hi.toNat).length=hi.toNat:=by rw[List.length_take];omega
    rw[hln]
    have hadd:(⟨b,0,none⟩:Addr).add (0*Enc.sz α)=⟨b,0,none⟩:=by rw[Nat.zero_mul];unfold Addr.add;split<;>simp_all
    have hval:subV (.slice (some ⟨b,0,none⟩) ln cap) (Enc.sz α) 0 hi.toNat= .slice (some ⟨b,0,none⟩) hi.toNat cap:=by
     unfold subV
     simp only[Option.map_some,hadd,Nat.sub_zero,ite_self]
    rw[hval]
    refine .row b hi.toNat cap e _ cur (vs.take ((l.take hi.toNat).flatMap (Enc.enc (α:=α))).length) _ S1 hh (by omega) hm hz ?_ hr1
    rw[hlen,←hv,List.take_take,Nat.min_eq_left hmul]
   ·rw[List.nodup_cons]at hn ⊢
    exact ⟨fun h=>hn.1 (List.mem_append.2 (.inl h)),(List.nodup_append.1 hn.2).1⟩
   ·rcases List.mem_cons.1 hx with rfl | h
    ·exact List.mem_cons_self
    ·exact List.mem_cons.2 (.inr (List.mem_append.2 (.inl h)))
theorem Y.subs_nil {x:Operand} {t e sz by_:Nat} {lo hi:Int} {L H:Option Operand} {α:Type} {z:List α} (hs:piece ([]:List α) lo hi=some z) (he:elemB P t=some (e,sz,by_)) (hx:ev fr x=some (.slice none 0 0)) (hL:bOp fr L lo 0) (hH:bOp fr H hi 0):
 Y P w0 S0 n fr is ⟨dst,.slice t x L H none,ty,pos,aft,gd⟩ (.slice none 0 0):=by
 have h:=Y.subs (P:=P) (w0:=w0) (S0:=S0) (n:=n) (fr:=fr) (is:=is) (dst:=dst) (ty:=ty) (pos:=pos) (aft:=aft) (gd:=gd) (cs:=[]) hs he (sz':=sz) (Can.plain (v:=.slice none 0 0) (c:=.sl sz 0 []) fun _=>.nil _) hx hL hH
 obtain ⟨h0,h1,h2,_⟩:=zbJ hs
 have e1:lo.toNat=0:=by simp at h2;omega
 have e2:hi.toNat - lo.toNat=0:=by simp at h2;omega
 rw[e1]at h
 have e3:hi.toNat - 0=0:=by omega
 rw[e3]at h
 exact h
theorem Ow.sub_del {w:World} {v:Value} {sz n N:Nat} {cs:List C} {A:List Nat} (h:Ow w v (.sl sz n cs) A) (sz':Nat):subV v sz' 0 N=delV v N:=by
 cases h with
 | nil=>rfl
 | row b n cap e sz cur vs cs S hh hc hm hz hv hr=>
   have hadd:(⟨b,0,none⟩:Addr).add (0*sz')=⟨b,0,none⟩:=by rw[Nat.zero_mul];unfold Addr.add;split<;>simp_all
   simp only[subV,delV,Option.map_some,hadd,Nat.sub_zero,ite_self]
theorem zs2 (v:Value) (sz lo k N:Nat):subV (delV v N) sz lo k=subV v sz lo k:=by
 unfold delV
 cases v<;>rfl
theorem Ef.clearView {α:Type} [Enc α] {i:Nat} {v z0:Value} {l z:List α} {y:Operand} {t e sz by_:Nat} {lo:Int} {is':List Item} (hz:piece l (0:Int) lo=some z) (he:elemB P t=some (e,sz,by_)) (hzv:zeroB P e=some z0) (hsz:Enc.sz α=sz) (hzs:Nat.beq z0.cells.size sz=true) (hz1:z0.cells.toList.all (fun q=>q.oneCell')=true)
 (hg:is[i]? =some (.own v (lc l))) (hy:ev fr y=some (subV v sz lo.toNat ((l.length:Int).toNat - lo.toNat))) (his:is.set i (.own (subV v sz (0:Int).toNat (lo.toNat - (0:Int).toNat)) (lc z))=is'):
 Ef P w0 S0 n fr is ⟨none,.call {callee:=.builtin .clear,args:=#[y],argTypes:=#[t]},ty,pos,aft,gd⟩ (fun _:Unit=>.tuple #[]) (fun _=>is'):=by
 intro a w K Q hf hst hK
 have hst':=St.cut hz hsz hg his w hst
 have hcap:=Can.cap (Can.own i hg) w hst
 obtain ⟨p0,p1,p2,hp⟩:=zbJ hz
 obtain ⟨A0,hA0,_⟩:=zcr hg hst.own.choose_spec.1
 have e0:(0:Int).toNat=0:=rfl
 have e1:subV v sz (0:Int).toNat (lo.toNat - (0:Int).toNat)=delV v lo.toNat:=by
  rw[e0,Nat.sub_zero]
  exact Ow.sub_del (show Ow w v (.sl (Enc.sz α) l.length (l.flatMap Enc.enc)) A0 from hA0) sz
 have hzl:z.length=lo.toNat:=by rw[hp,e0,List.drop_zero,Nat.sub_zero,List.length_take];omega
 have hk:is'[i]? =some (.own (delV v lo.toNat) (.sl sz lo.toNat (z.flatMap Enc.enc))):=by
  subst his
  rw[List.getElem?_set_self (List.getElem?_eq_some_iff.1 hg).1,e1]
  unfold lc
  rw[hzl,hsz]
 have hln:((l.length:Int)).toNat=l.length:=Int.toNat_natCast _
 rw[hln]at hy
 exact Ef.clearTail (is:=is') (v:=v) (N:=lo.toNat) (hi:=l.length) (k:=i) hcap (by omega) he hzv hzs hz1 hk (by rw[zs2];exact hy) a w K Q hf hst' hK
theorem Y.sub_again {i:Nat} {x y:Operand} {t e sz by_ m:Nat} {v:Value} {hi:Int} {k:IntKind} {cs:List C} (h:is[i]? =some (.own (subV v sz (0:Int).toNat (hi.toNat - (0:Int).toNat)) (.sl sz m cs))) (h0:0≤hi) (he:elemB P t=some (e,sz,by_)) (hx:ev fr x=some v) (hy:ev fr y=some (.int k hi)):
 Y P w0 S0 n fr is ⟨dst,.slice t x none (some y) none,ty,pos,aft,gd⟩ (subV v sz (0:Int).toNat (hi.toNat - (0:Int).toNat)):=by
 obtain ⟨hu,ti,hti,hsz,_⟩:=zJ he
 intro a w hf hst
 have hcap:=Can.cap (Can.own i h) w hst
 obtain ⟨A0,hA0,_⟩:=zcr h hst.own.choose_spec.1
 have hA1:Ow w (subV v sz (0:Int).toNat (hi.toNat - (0:Int).toNat)) (.sl sz m cs) A0:=hA0
 have e0:(0:Int).toNat=0:=rfl
 rw[e0,Nat.sub_zero]at hA1 hcap ⊢
 cases v with
 | slice A ln cap=>
   have hm:hi.toNat≤cap:=by
    unfold subV at hA1
    simp only[Nat.sub_zero]at hA1
    generalize (if cap=0 then A else Option.map (fun x=>x.add (0*sz)) A)=A' at hA1
    generalize hh:hi.toNat=hn at hA1
    cases hA1 with
    | nil=>omega
    | row b n cap e sz cur vs cs S hh hc hm hz hv hr=>exact hc
   simp[execOp,hf.eval hx,Instr.sliceAt,Instr.slice,Instr.sliceBounds,Instr.sliceBound,asIntOf,hf.eval hy,run_underlying hu,sizeOf,typeInfo,hti,hsz,subV,h0,show hi≤(cap:Int) by omega]
 | _=>exact absurd hA1 (by intro h2;unfold subV at h2;cases h2)
theorem Y.subs30 {α:Type} {l z:List α} {v:Value} {x y2 y3:Operand} {t e sz by_ sz':Nat} {cs:List C} {hi:Int} {k2 k3:IntKind} (hs:piece l (0:Int) hi=some z) (he:elemB P t=some (e,sz,by_)) (hc:Can w0 S0 is v (.sl sz' l.length cs))
 (hx:ev fr x=some v) (h2:ev fr y2=some (.int k2 hi)) (h3:ev fr y3=some (.int k3 l.length)):
 Y P w0 S0 n fr is ⟨dst,.slice t x none (some y2) (some y3),ty,pos,aft,gd⟩ (sub3V v sz (0:Int).toNat (hi.toNat - (0:Int).toNat) l.length):=by
 obtain ⟨hu,ti,hti,hsz,_⟩:=zJ he
 obtain ⟨q0,q1,q2,rfl⟩:=zbJ hs
 intro a w hf hst
 have e0:(0:Int).toNat=0:=rfl
 have key: ∀(A:Option Addr) (cap:Nat),l.length≤cap→(Instr.sliceAt t (.slice A l.length cap) none (some (.int k2 hi)) (some (.int k3 l.length))).run P w= .ok (sub3V (.slice A l.length cap) sz (0:Int).toNat (hi.toNat - (0:Int).toNat) l.length) w:=by
  intro A cap hcap
  simp[Instr.sliceAt,Instr.slice,Instr.sliceBounds,Instr.sliceBound,asIntOf,run_underlying hu,sizeOf,typeInfo,hti,hsz,sub3V,hcap,q2,show (hi.toNat:Int)=hi by omega,q1,show max hi 0=hi by omega]
 rcases hc.row hst with ⟨h4,_,rfl⟩ | ⟨a0,cap,vs,S,rfl,hcap,_⟩
 ·have hnil:l= []:=List.eq_nil_of_length_eq_zero h4
  subst hnil
  have:=key none 0 (by simp)
  have e3:=hf.eval h3
  have hrun:(execOp a.eval ⟨dst,.slice t x none (some y2) (some y3),ty,pos,aft,gd⟩).run P w= .ok (.value (sub3V (.slice none 0 0) sz (0:Int).toNat (hi.toNat - (0:Int).toNat) 0)) w:=by
   simp only[List.length_nil]at this e3
   simp only[execOp,hf.eval hx,hf.eval h2,e3,Option.map_some,Option.map_none,Sem.run_bind,this,Result.andThen_ok,Sem.run_pure]
  exact hrun
 ·have:=key (some a0) cap hcap
  simp[execOp,hf.eval hx,hf.eval h2,hf.eval h3,this]
theorem St.clip {α:Type} [Enc α] {i sz:Nat} {v:Value} {l z:List α} {hi:Int} {is':List Item} (hz:piece l (0:Int) hi=some z) (hh:hi=(l.length:Int)) (hg:is[i]? =some (.own v (lc l))) (his:is.set i (.own (sub3V v sz (0:Int).toNat (hi.toNat - (0:Int).toNat) l.length) (lc z))=is'):
 ∀w,St w0 S0 is w→St w0 S0 is' w:=by
 subst his hh
 obtain ⟨_,_,_,rfl⟩:=zbJ hz
 intro w hs
 refine hs.upd hg fun A hA hn=>⟨A,Chg.refl w A,?_,hn,fun b hb=>.inl hb⟩
 have e0:(0:Int).toNat=0:=rfl
 rw[e0,Int.toNat_natCast,Nat.sub_zero,List.drop_zero,List.take_length]
 have hA':Ow w v (.sl (Enc.sz α) l.length (l.flatMap Enc.enc)) A:=hA
 show Ow w (sub3V v sz 0 l.length l.length) (.sl (Enc.sz α) l.length (l.flatMap Enc.enc)) A
 generalize hcs:l.flatMap (Enc.enc (α:=α))=cs at hA' ⊢
 generalize hn':l.length=ln at hA' ⊢
 cases hA' with
 | nil sz'=>exact .nil _
 | row b n cap e sz' cur vs cs S hh hc hm hz hv hr=>
   have hadd:(⟨b,0,none⟩:Addr).add (0*sz)=⟨b,0,none⟩:=by rw[Nat.zero_mul];unfold Addr.add;split<;>simp_all
   have e2:sub3V (.slice (some ⟨b,0,none⟩) ln cap) sz 0 ln ln= .slice (some ⟨b,0,none⟩) ln ln:=by
    simp only[sub3V,Option.map_some,hadd,Nat.sub_zero,ite_self]
   rw[e2]
   exact .row b ln ln e (Enc.sz α) cur vs cs S hh (Nat.le_refl _) (Nat.le_trans hc hm) (Nat.le_trans (Nat.mul_le_mul_right _ hc) hz) hv hr
structure Sv where
 v:Value
 h:v.oneCell'=true
instance:Enc Sv:=⟨1,fun x=>[.raw x.v],fun _=>rfl,Nat.one_pos⟩
instance:Flat Sv:={vals:=fun x=>[x.v],flat:=fun x=>by simp[valsC,valC,x.h,Enc.enc]}
theorem Base.oneCell {v:Value} {c:C} (h:Base w0 S0 v c):v.oneCell'=true:=by
 obtain ⟨F,hF,_⟩:=h
 exact hF.oneCell
def Bases {α:Type} [Enc α] (w0:World) (S0:List Nat):List Sv→List (List α)→Prop
 | [],[]=>True
 | s::ss,l::ls=>Base w0 S0 s.v (lc l)∧Bases w0 S0 ss ls
 | _,_=>False
theorem Bases.one {α:Type} [Enc α] {v:Value} {l:List α} (h:Base w0 S0 v (lc l)):Bases w0 S0 [Sv.mk v h.oneCell] [l]:=⟨h,trivial⟩
theorem Bases.append {α:Type} [Enc α]: ∀{a b:List Sv} {x y:List (List α)},Bases w0 S0 a x→Bases w0 S0 b y→Bases w0 S0 (a++b) (x++y)
 | [],_,[],_,_,h=>h
 | _::_,_,_::_,_,h1,h2=>⟨h1.1,Bases.append h1.2 h2⟩
 | [],_,_::_,_,h,_=>h.elim
 | _::_,_,[],_,h,_=>h.elim
theorem Bases.length {α:Type} [Enc α]: ∀{a:List Sv} {x:List (List α)},Bases w0 S0 a x→a.length=x.length
 | [],[],_=>rfl
 | _::_,_::_,h=>by simp[Bases.length h.2]
 | [],_::_,h=>h.elim
 | _::_,[],h=>h.elim
theorem Rds.bases {α:Type} [Enc α] [Enc (List α)] (he: ∀l:List α,(Enc.enc l:List C)= [lc l]): ∀{vs:List Value} {T:List (List α)} {S:List Nat},Rds w0 vs (T.flatMap Enc.enc) S→(∀b∈S,b∉S0)→∃Ws:List Sv,Bases w0 S0 Ws T∧Rds w0 vs (Ws.flatMap Enc.enc) []
 | vs,[],S,h,_=>by
   cases h
   exact ⟨[],trivial,.nil⟩
 | vs,t::T,S,h,hn=>by
   rw[List.flatMap_cons,he]at h
   cases h with
   | cons v c S1 vs cs S2 h1 h2=>
     obtain ⟨Ws,g1,g2⟩:=Rds.bases he h2 fun b hb=>hn b (List.mem_append.2 (.inr hb))
     refine ⟨Sv.mk v h1.oneCell::Ws,⟨⟨S1,h1,fun b hb=>hn b (List.mem_append.2 (.inl hb))⟩,g1⟩,?_⟩
     exact .cons v (.raw v) [] vs _ [] (.raw v h1.oneCell) g2
theorem Base.rows {α:Type} [Enc α] [Enc (List α)] (he: ∀l:List α,(Enc.enc l:List C)= [lc l]) {v:Value} {T:List (List α)} (h:Base w0 S0 v (lc T)): ∃Ws:List Sv,Bases w0 S0 Ws T∧Base w0 S0 v (lc Ws):=by
 have hsz:Enc.sz (List α)=1:=by rw[←Enc.len ([]:List α),he];rfl
 obtain ⟨F,hF,hn⟩:=h
 have hlen:(T.flatMap (Enc.enc (α:=List α))).length=T.length:=by rw[zbM,hsz,Nat.mul_one]
 unfold lc at hF
 generalize hcs:T.flatMap (Enc.enc (α:=List α))=cs at hF hlen
 generalize hk:T.length=k at hF hlen
 rw[hsz]at hF
 cases hF with
 | nil sz=>
   have:T= []:=List.eq_nil_of_length_eq_zero hk
   subst this
   exact ⟨[],trivial,[],.nil _,by simp⟩
 | row a n cap sz vs cs S hl hc hcell hr=>
   subst hcs
   obtain ⟨Ws,g1,g2⟩:=Rds.bases (S0:=S0) he hr fun b hb=>hn b (List.mem_append.2 (.inr hb))
   refine ⟨Ws,g1,(if k*1=0 then [] else [a.block])++ [],?_,fun b hb=>hn b (List.mem_append.2 (.inl (by rwa [List.append_nil]at hb)))⟩
   have hw:Ws.length=k:=by rw[g1.length,hk]
   show Rd w0 _ (.sl 1 Ws.length _) _
   rw[hw]
   exact .row a k cap 1 vs _ [] hl hc hcell g2
theorem Bases.rds {α:Type} [Enc α] [Enc (List α)] (he: ∀l:List α,(Enc.enc l:List C)= [lc l]) {w:World} (hb: ∀b,b<w0.heap.size→b∉S0→w.heap[b]? =w0.heap[b]?):
 ∀{Ws:List Sv} {T:List (List α)},Bases w0 S0 Ws T→∃F,Rds w (Ws.map Sv.v) (T.flatMap Enc.enc) F∧∀b∈F,b<w0.heap.size∧b∉S0
 | [],[],_=>⟨[],.nil,by simp⟩
 | s::ss,l::ls,h=>by
   obtain ⟨F,h1,h2⟩:=Bases.rds he hb h.2
   obtain ⟨G,h3,h4⟩:=h.1
   rw[List.flatMap_cons,he]
   refine ⟨G++F,.cons s.v (lc l) G _ _ F (h3.keep fun b hbG=>hb b (h3.lt b hbG) (h4 b hbG)) h1,?_⟩
   intro b hbG
   rcases List.mem_append.1 hbG with hq | hq
   ·exact ⟨h3.lt b hq,h4 b hq⟩
   ·exact h2 b hq
 | [],_::_,h=>h.elim
 | _::_,[],h=>h.elim
theorem svals: ∀Ws:List Sv,valsR (Ws.flatMap Enc.enc)=some (Ws.map Sv.v)
 | []=>rfl
 | s::ss=>by
   show valsR (.raw s.v::ss.flatMap Enc.enc)=_
   unfold valsR
   rw[svals ss]
   rfl
theorem Can.rows {α:Type} [Enc α] [Enc (List α)] (he: ∀l:List α,(Enc.enc l:List C)= [lc l]) {v:Value} {Ws:List Sv} {T:List (List α)} (k:Nat) (h:is[k]? =some (.own v (lc Ws))) (hB:Bases w0 S0 Ws T):Can w0 S0 is v (lc T):=by
 have hsz:Enc.sz (List α)=1:=by rw[←Enc.len ([]:List α),he];rfl
 intro w S hs hb
 obtain ⟨A,hA,hsub⟩:=zcr h hs
 obtain ⟨U,hU,hut⟩:=Ow.rd hA
 obtain ⟨F,g1,g2⟩:=Bases.rds he hb hB
 have hlen:=hB.length
 have hU':Rd w v (.sl 1 Ws.length (Ws.flatMap Enc.enc)) U:=hU
 show ∃F,Rd w v (.sl (Enc.sz (List α)) T.length (T.flatMap Enc.enc)) F∧_
 rw[hsz,←hlen]
 generalize hcs:Ws.flatMap (Enc.enc (α:=Sv))=cs at hU'
 generalize hk:Ws.length=m at hU'
 cases hU' with
 | nil sz=>
   have h1:Ws= []:=List.eq_nil_of_length_eq_zero hk
   subst h1
   have h2:T= []:=List.eq_nil_of_length_eq_zero hlen.symm
   subst h2
   exact ⟨[],.nil _,by simp⟩
 | row a n cap sz vs cs S hl hc hcell hr=>
   subst hcs
   have hvs:vs=Ws.map Sv.v:=hr.valsR (svals Ws)
   subst hvs
   refine ⟨_,.row a m cap 1 _ _ F hl hc hcell g1,?_⟩
   intro b hb'
   rcases List.mem_append.1 hb' with hq | hq
   ·exact .inr (hsub b (hut b (List.mem_append.2 (.inl hq))))
   ·exact .inl (g2 b hq)
theorem zsf {α β:Type} {by_:Nat} {l k z:List α} {l' k':List β} (h:app by_ l k=some z) (h1:l'.length=l.length) (h2:k'.length=k.length):app by_ l' k'=some (l'++k'):=by
 obtain ⟨_,g1,g2⟩:=zjK h
 unfold app
 rw[if_pos ⟨by rw[h1,h2];exact g1,by rw[h1,h2];exact g2⟩]
theorem Bases.app {α:Type} [Enc α] {by_:Nat} {a b:List Sv} {x y z:List (List α)} (h:app by_ x y=some z) (h1:Bases w0 S0 a x) (h2:Bases w0 S0 b y):Bases w0 S0 (a++b) z:=by
 rw[(zjK h).1];exact Bases.append h1 h2
theorem TA.conv {R:Type} {m:Option R} {Q:R→Exit→Act→World→Prop} {is' isH:List Item} {ops:Array Oper} {fuel:Nat} {listed:Array Bool} (h: ∀w,St w0 S0 is w→St w0 S0 is' w) (k:TA P w0 S0 m n fr is' isH ops fuel listed Q):TA P w0 S0 m n fr is isH ops fuel listed Q:=
 fun r hr a w hf hs=>k r hr a w hf (h w hs)
end
end Go.Proofs.YtfgjhefhlabpkaaGreat.Sl
