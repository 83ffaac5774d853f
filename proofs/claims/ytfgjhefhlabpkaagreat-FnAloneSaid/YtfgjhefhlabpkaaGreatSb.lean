/-
  The rules of the small separation logic, continued: elements written, slices made, literals, strings cut, bytes. Generic: no statement about a given function.
-/
import Derived.Test.YtfgjhefhlabpkaaGreatSa
import Derived.Laws.MakeOwn
import Derived.Laws.IdiomStrings
import Derived.Laws.DeepStrings4
import Derived.Laws.Cover3
namespace Go.Proofs.YtfgjhefhlabpkaaGreat.Sl
open Go Go.RowKit
theorem zk5 (cur us:List Value) (off N:Nat) (h:off+us.length≤N) (hN:N≤cur.length):(splice cur off us).take N=splice (cur.take N) off us:=by
 apply List.ext_getElem?
 intro k
 simp only[splice,List.getElem?_take,List.getElem?_append,List.length_take,List.getElem?_drop,List.append_assoc]
 have h1:min off cur.length=off:=by omega
 have h2:min N cur.length=N:=by omega
 have h3:min off N=off:=by omega
 simp only[h1,h2,h3]
 by_cases a:k<off
 ·simp[a,show k<N by omega]
 ·by_cases b:k - off<us.length
  ·simp[a,b,show k<N by omega]
  ·by_cases c:k<N
   ·simp[a,b,c]
    intro;omega
   ·simp[a,b,c]
    intro;omega
theorem ziT (x:List Value) (r us:List Value) (c:Nat) (h:c+us.length≤x.length):splice (x++r) c us=splice x c us++r:=by
 simp only[splice]
 rw[List.take_append_of_le_length (by omega),List.drop_append_of_le_length h]
 simp
theorem zfl (x:List Value) (r us:List Value) (c:Nat):splice (x++r) (x.length+c) us=x++splice r c us:=by
 simp only[splice]
 rw[List.take_length_add_append,show x.length+c+us.length=x.length+(c+us.length) by omega,List.drop_length_add_append]
 simp
theorem zk4 {α:Type} [Flat α]: ∀(l:List α) (k c:Nat) (z z':α) (us:List Value),l[k]? =some z→c+us.length≤Enc.sz α→splice (Flat.vals z) c us=Flat.vals z'→
 splice (l.flatMap Flat.vals) (k*Enc.sz α+c) us=(l.set k z').flatMap Flat.vals
 | [],_,_,_,_,_,h,_,_=>by simp at h
 | y::l,0,c,z,z',us,h,hc,hs=>by
   simp only[List.getElem?_cons_zero,Option.some.injEq]at h
   subst h
   simp only[Nat.zero_mul,Nat.zero_add,List.flatMap_cons,List.set_cons_zero]
   rw[ziT _ _ _ _ (by rw[zfz];exact hc),hs]
 | y::l,k+1,c,z,z',us,h,hc,hs=>by
   simp only[List.getElem?_cons_succ]at h
   simp only[List.flatMap_cons,List.set_cons_succ]
   rw[←zk4 l k c z z' us h hc hs,show (k+1)*Enc.sz α+c=(Flat.vals y).length+(k*Enc.sz α+c) by rw[zfz,Nat.add_mul];omega,zfl]
section
variable {P:Program} {w0:World} {S0:List Nat} {R:Type} {m:Option R} {n:Nat} {fr:Fr} {is:List Item} {Q:R→Exit→Act→World→Prop}
variable {dst:Option Nat} {ty:TypeId} {pos:String} {aft:Array Edge} {gd:Option (Nat × Bool)}
theorem Ef.store_el {α:Type} [Flat α] {x y:Operand} {sz k c s t:Nat} {l:List α} {z:α} {v u:Value} {us:List Value} {ag:Bool} (z':α) (i:Nat) (hk:kindB P t=some (ag,s)) (hsz:Enc.sz α=sz)
 (hi:is[i]? =some (.own v (lc l))) (hz:l[k]? =some z) (hx:ev fr x=some (elP v (k*sz+c))) (hy:ev fr y=some u) (hv:Cel w0 S0 is u us) (hl:Nat.beq us.length s=true)
 (hle:Nat.ble (c+us.length) sz=true) (hs:splice (Flat.vals z) c us=Flat.vals z') {is':List Item} (his:is.set i (.own v (lc (l.set k z')))=is'):
 Ef P w0 S0 n fr is ⟨none,.store t x y,ty,pos,aft,gd⟩ (fun _:Unit=>undef) (fun _=>is'):=by
 subst hsz
 have hle':c+us.length≤Enc.sz α:=Nat.le_of_ble_eq_true hle
 intro a w K Q hf hst hK
 obtain ⟨hv1,h1⟩:=hv w hst
 have hklt:k<l.length:=by
  rcases Nat.lt_or_ge k l.length with h | h
  ·exact h
  ·rw[List.getElem?_eq_none h]at hz;cases hz
 have hlow:k*Enc.sz α+Enc.sz α≤l.length*Enc.sz α:=by rw[←Nat.succ_mul];exact Nat.mul_le_mul_right _ hklt
 obtain ⟨A0,hA0,_⟩:=zcr hi hst.own.choose_spec.1
 have hrow: ∃b cap cur e',v= .slice (some ⟨b,0,none⟩) l.length cap∧w.heap[b]? =some (.cells cur e' (0,0))∧l.length≤cap∧cap≤maxLen∧cap*Enc.sz α≤cur.size∧cur.toList.take (l.length*Enc.sz α)=l.flatMap Flat.vals:=by
  have hA0':Ow w v (.sl (Enc.sz α) l.length (l.flatMap Enc.enc)) A0:=hA0
  generalize hcs:l.flatMap (Enc.enc (α:=α))=cs at hA0'
  generalize hn:l.length=ln at hA0'
  cases hA0' with
  | nil=>omega
  | row b n cap e sz cur vs cs S hh hc hm hs ht hr=>
    subst hcs
    refine ⟨b,cap,cur,e,rfl,hh,hc,hm,hs,?_⟩
    rw[ht]
    exact hr.vals (zba l)
 obtain ⟨b,cap,cur,e',rfl,hh,hlc,hcm,hcs,ht⟩:=hrow
 have hcap:l.length*Enc.sz α≤cap*Enc.sz α:=Nat.mul_le_mul_right _ hlc
 have hfit:k*Enc.sz α+c+us.length≤cur.toList.length:=by rw[Array.length_toList (xs:=cur)];omega
 have hrun:=zeF (P:=P) (off:=k*Enc.sz α+c) hk hh hv1 hl h1 (by rw[←Array.length_toList (xs:=cur)];exact hfit)
 have he:(execOp a.eval ⟨none,.store t x y,ty,pos,aft,gd⟩).run P w= .ok .skip (w.setRow b (splice cur.toList (k*Enc.sz α+c) us).toArray):=by
  simp[execOp,hf.eval hx,hf.eval hy,elP,Instr.storeAt,Instr.sureAddr,add_lit,hrun]
 unfold Oper.wp
 rw[he]
 refine hK () _ ?_
 subst his
 refine hst.upd hi fun A hA hnd=>?_
 have hAb:A= [b]:=by
  have hA':Ow w (.slice (some ⟨b,0,none⟩) l.length cap) (.sl (Enc.sz α) l.length (l.flatMap Enc.enc)) A:=hA
  generalize hcs':l.flatMap (Enc.enc (α:=α))=cs at hA'
  cases hA' with
  | row b n cap e sz cur vs cs S hh hc hm hs ht hr=>
    subst hcs'
    rw[hr.noS (zba l)]
 refine ⟨[b],?_,?_,by simp,fun x hx=>.inl (by rw[hAb];exact hx)⟩
 ·rw[hAb];exact Chg.setRow w b _
 ·show Ow _ _ (.sl (Enc.sz α) (l.set k z').length ((l.set k z').flatMap Enc.enc)) [b]
  have hlen:(splice cur.toList (k*Enc.sz α+c) us).length=cur.size:=by
   rw[zfC _ _ _ hfit,Array.length_toList]
  rw[List.length_set]
  refine .row b l.length cap e' (Enc.sz α) _ ((l.set k z').flatMap Flat.vals) _ [] (setRow_heap w b _ _ e' _ hh) hlc hcm (by simpa[hlen] using hcs) ?_ (Ows.of_vals (zba _))
  rw[List.toList_toArray,zk5 _ _ _ _ (by omega) (by rw[Array.length_toList (xs:=cur)];exact Nat.le_trans hcap hcs),ht,zk4 l k c z z' us hz hle' hs]
def mkLen (by_:Nat) (n:Int):Option Nat:=if 0≤n∧by_*n≤281474976710656∧n≤9223372036854775807 then some n.toNat else none
theorem zoB {by_:Nat} {n:Int} {k:Nat} (h:mkLen by_ n=some k):n=(k:Int)∧(by_:Int)*n≤281474976710656∧n≤9223372036854775807:=by
 unfold mkLen at h
 split at h
 ·rename_i hc;cases h;exact ⟨by omega,hc.2.1,hc.2.2⟩
 ·cases h
theorem znp {α:Type} [Flat α] (z:α) (k:Nat):(madeCells (Flat.vals z).toArray (k*Enc.sz α)).toList=(List.replicate k z).flatMap Flat.vals:=by
 have hz:=zfz z
 have hp:=Enc.pos (α:=α)
 apply List.ext_getElem?
 intro j
 unfold madeCells
 simp only[Array.toList_map,Array.toList_range,List.getElem?_map]
 have key: ∀k j:Nat,((List.replicate k z).flatMap (Flat.vals (α:=α)))[j]? =if j<k*Enc.sz α then (Flat.vals z)[j % Enc.sz α]? else none:=by
  intro k
  induction k with
  | zero=>intro j;simp
  | succ k ih=>
    intro j
    simp only[List.replicate_succ,List.flatMap_cons,List.getElem?_append,hz]
    by_cases h1:j<Enc.sz α
    ·rw[if_pos h1,if_pos (by rw[Nat.succ_mul];omega),Nat.mod_eq_of_lt h1]
    ·rw[if_neg h1,ih]
     have:(j - Enc.sz α) % Enc.sz α=j % Enc.sz α:=(Nat.mod_eq_sub_mod (by omega)).symm
     rw[this,Nat.succ_mul]
     by_cases h2:j - Enc.sz α<k*Enc.sz α
     ·rw[if_pos h2,if_pos (by omega)]
     ·rw[if_neg h2,if_neg (by omega)]
 rw[key]
 by_cases hj:j<k*Enc.sz α
 ·have hm:j % Enc.sz α<(Flat.vals z).length:=by rw[hz];exact Nat.mod_lt _ hp
  rw[if_pos hj,List.getElem?_range hj]
  simp only[List.size_toArray,hz,Option.map_some]
  rw[List.getElem?_eq_getElem hm]
  simp[hm]
 ·rw[if_neg hj,List.getElem?_eq_none (by simpa using hj)]
  rfl
theorem Ef.mk {α:Type} [Flat α] {x y:Operand} {t e sz by_:Nat} {k k':IntKind} {zv:Value} {z:α} {len n':Int} {l c:Nat} (hc:mkLen by_ n'=some c) (hl:len=(l:Int)) (hlc:l≤c) (he:elemB P t=some (e,sz,by_)) (hz:zeroB P e=some zv)
 (hzs:zv.cells=(Flat.vals z).toArray) (hsz:Enc.sz α=sz) (hx:ev fr x=some (.int k len)) (hy:ev fr y=some (.int k' n')):
 Ef P w0 S0 n fr is ⟨dst,.makeSlice t x y,ty,pos,aft,gd⟩ (fun v:Value=>v) (fun v=>.own v (lc (List.replicate l z))::is):=by
 obtain ⟨hu,ti,hti,hsz',hby⟩:=zJ he
 subst hsz
 obtain ⟨rfl,hb1,hb2⟩:=zoB hc
 subst hl
 have hzi:ti.zero=some zv:=by unfold zeroB at hz;rw[hti]at hz;simpa using hz
 intro a w K Q hf hs hK
 have hrun:=run_make (P:=P) w t e ti zv hu hti hzi k k' l c (by omega) (by omega) (by rw[hby];exact hb1) hb2
 simp only[Int.toNat_natCast,hsz',hzs]at hrun
 have he:(execOp a.eval ⟨dst,.makeSlice t x y,ty,pos,aft,gd⟩).run P w= .ok (.value (.slice (some ⟨w.heap.size,0,none⟩) l c)) (w.alloc (.cells (madeCells (Flat.vals z).toArray (c*Enc.sz α)) e)):=by
  simp[execOp,hf.eval hx,hf.eval hy,hrun]
 unfold Oper.wp
 rw[he]
 refine hK _ _ ?_
 refine hs.add (Chg.alloc w _ []) _ [w.heap.size] ?_ (by simp) (by simp)
 show Ow _ _ (.sl (Enc.sz α) (List.replicate l z).length _) _
 rw[List.length_replicate]
 have hlc':l*Enc.sz α≤c*Enc.sz α:=Nat.mul_le_mul_right _ hlc
 refine .row w.heap.size l c e _ _ ((List.replicate l z).flatMap Flat.vals) _ [] (heap_alloc_new w _) hlc (by simp only[maxLen];omega) (Nat.le_of_eq (size_madeCells _ _).symm) ?_ (Ows.of_vals (zba _))
 rw[znp,show c=l+(c - l) by omega,←List.replicate_append_replicate,List.flatMap_append,List.take_append_of_le_length (by rw[z8,List.length_replicate];exact Nat.le_refl _),List.take_of_length_le (by rw[z8,List.length_replicate];exact Nat.le_refl _)]
theorem Ef.make {α:Type} [Flat α] {x y:Operand} {t e sz by_:Nat} {k k':IntKind} {zv:Value} {z:α} {len:Int} {c:Nat} (hc:mkLen by_ len=some c) (he:elemB P t=some (e,sz,by_)) (hz:zeroB P e=some zv)
 (hzs:zv.cells=(Flat.vals z).toArray) (hsz:Enc.sz α=sz) (hx:ev fr x=some (.int k len)) (hy:ev fr y=some (.int k' len)):
 Ef P w0 S0 n fr is ⟨dst,.makeSlice t x y,ty,pos,aft,gd⟩ (fun v:Value=>v) (fun v=>.own v (lc (List.replicate c z))::is):=
 Ef.mk hc (zoB hc).1 (Nat.le_refl _) he hz hzs hsz hx hy
theorem Ef.make0 {α:Type} [Flat α] {x y:Operand} {t e sz by_:Nat} {k k':IntKind} {zv:Value} {z:α} {len:Int} {c:Nat} (hc:mkLen by_ len=some c) (he:elemB P t=some (e,sz,by_)) (hz:zeroB P e=some zv)
 (hzs:zv.cells=(Flat.vals z).toArray) (hsz:Enc.sz α=sz) (hx:ev fr x=some (.int k 0)) (hy:ev fr y=some (.int k' len)):
 Ef P w0 S0 n fr is ⟨dst,.makeSlice t x y,ty,pos,aft,gd⟩ (fun v:Value=>v) (fun v=>.own v (lc ([]:List α))::is):=
 Ef.mk (α:=α) (z:=z) (l:=0) hc rfl (Nat.zero_le _) he hz hzs hsz hx hy
def placesB (P:Program) (t:TypeId):Option (List (Nat × Nat)):=
 match P.underlying t with
 | some (.struct fs)=>fs.toList.mapM fun f=>(P.info? f.type).map fun i=>(f.offset,i.size)
 | _=>none
theorem zmb {P:Program} {w:World} : ∀{fs:List Field} {ps:List (Nat × Nat)},(fs.mapM fun f=>(P.info? f.type).map fun i=>(f.offset,i.size))=some ps→
 (fs.mapM fun f=>do pure (f.offset,←sizeOf f.type):Sem (List (Nat × Nat))).run P w= .ok ps w
 | [],ps,h=>by
   simp only[List.mapM_nil]at h ⊢
   cases h
   rfl
 | f::fs,ps,h=>by
   rw[List.mapM_cons]at h
   cases hi:P.info? f.type with
   | none=>rw[hi]at h;simp at h
   | some i=>
     rw[hi]at h
     simp only[Option.map_some,Option.bind_eq_bind,Option.bind_some]at h
     cases hm:(fs.mapM fun f=>(P.info? f.type).map fun i=>(f.offset,i.size)) with
     | none=>rw[hm]at h;simp at h
     | some qs=>
       rw[hm]at h
       simp only[Option.bind_some,Option.pure_def,Option.some.injEq]at h
       subst h
       have ih:=zmb (w:=w) hm
       rw[List.mapM_cons]
       have h1:(sizeOf f.type).run P w= .ok i.size w:=by simp[sizeOf,typeInfo,hi]
       simp only[Sem.run_bind,h1,Result.andThen_ok,Sem.run_pure,ih]
def fills (place:List (Nat × Nat)):List Value→List (Nat × List Value)→Option (List Value)
 | cells,[]=>some cells
 | cells,(i,us)::r=>match place[i]? with
   | none=>none
   | some (off,sz)=>bif Nat.beq us.length sz&&Nat.ble (off+us.length) cells.length then fills place (splice cells off us) r else none
def Parts (w0:World) (S0:List Nat) (is:List Item) (fr:Fr):List (Nat × Operand)→List (Nat × List Value)→Prop
 | [],[]=>True
 | (i,o)::r,(j,us)::q=>j=i∧(∃v,ev fr o=some v∧Cel w0 S0 is v us)∧Parts w0 S0 is fr r q
 | _,_=>False
theorem zlg {place:List (Nat × Nat)} {w:World} {a:Act} (hf:FrOk n fr a) (hs:St w0 S0 is w): ∀{ps:List (Nat × Operand)} {qs:List (Nat × List Value)} {cur cells:List Value},Parts w0 S0 is fr ps qs→fills place cur qs=some cells→
 Instr.fill (place.toArray[·]?) cur.toArray (ps.map fun (i,x)=>(i,a.eval x))=some cells.toArray
 | [],[],cur,cells,_,h=>by simp only[fills,Option.some.injEq]at h;subst h;rfl
 | (i,o)::ps,(j,us)::qs,cur,cells,hP,h=>by
   obtain ⟨rfl,⟨v,hv,hc⟩,hp⟩:=hP
   unfold fills at h
   simp only[List.map_cons,Instr.fill,hf.eval hv]
   cases hpl:place[j]? with
   | none=>rw[hpl]at h;cases h
   | some x=>
     obtain ⟨off,sz⟩:=x
     rw[hpl]at h
     simp only at h
     cases hb:(Nat.beq us.length sz&&Nat.ble (off+us.length) cur.length) with
     | false=>rw[hb]at h;cases h
     | true=>
       rw[hb]at h
       simp only[Bool.and_eq_true]at hb
       have h1:us.length=sz:=by simpa using hb.1
       have h2:off+us.length≤cur.length:=Nat.le_of_ble_eq_true hb.2
       obtain ⟨hv1,_⟩:=hc w hs
       have hfs:=zjV off us 0 cur.toArray (by simpa using h2)
       have ih:=zlg (place:=place) hf hs hp (by simpa using h)
       simp only[Nat.add_zero]at hfs
       have hpl':place.toArray[j]? =some (off,sz):=by simpa using hpl
       have hz:us.toArray.zipIdx.foldl (fun (cs:Array Value) (x:Value × Nat)=>cs.setIfInBounds (off+x.2) x.1) cur.toArray=(splice cur off us).toArray:=by
        rw[←hfs,←Array.foldl_toList];simp
       simp only[hpl',hv1,List.size_toArray]
       rw[if_neg (by subst h1;simp;omega)]
       exact Eq.trans (by congr 1) ih
theorem Y.build {t:TypeId} {ps:List (Nat × Operand)} {place:List (Nat × Nat)} {zs cells:List Value} (qs:List (Nat × List Value)) (hp:placesB P t=some place) (hz:zeroB P t=some (.agg zs.toArray)) (hq:Parts w0 S0 is fr ps qs)
 (hf:fills place zs qs=some cells):Y P w0 S0 n fr is ⟨dst,.build t ps.toArray,ty,pos,aft,gd⟩ (.agg cells.toArray):=by
 intro a w hfr hs
 unfold placesB at hp
 split at hp
 ·rename_i fs hu
  have h1:=zmb (P:=P) (w:=w) hp
  have h2:(fs.mapM fun f=>do pure (f.offset,←sizeOf f.type):Sem (Array (Nat × Nat))).run P w= .ok place.toArray w:=by
   rw[←Array.toArray_toList (xs:=fs),List.mapM_toArray,Sem.run_map,h1]
   rfl
  have h3:=zlg (place:=place) hfr hs hq hf
  have h4:(Instr.build t (ps.toArray.map fun (i,x)=>(i,a.eval x))).run P w= .ok (.agg cells.toArray) w:=by
   simp only[Instr.build,Sem.run_bind,zfT hz,run_underlying hu,Result.andThen_ok,h2,Value.cells,List.map_toArray,h3,Sem.run_pure]
  simp only[execOp,Sem.run_bind,h4,Result.andThen_ok,Sem.run_pure]
 ·cases hp
theorem Y.toStr {x:Operand} {src tgt e sz by_:Nat} {v:Value} {l:List UInt8} (he:elemB P src=some (e,sz,by_)) (hk:intB P e=some .u8) (ht:isStrB P tgt=true) (hc:Can w0 S0 is v (lc l)) (hx:ev fr x=some v):
 Y P w0 S0 n fr is ⟨dst,.convert src tgt x,ty,pos,aft,gd⟩ (strV l):=by
 obtain ⟨hu,_⟩:=zJ he
 have ht':P.underlying tgt=some .string:=by unfold isStrB at ht;split at ht<;>simp_all
 have hk':P.underlying e=some (.int .u8):=by unfold intB at hk;split at hk<;>simp_all
 intro a w hf hs
 rcases hc.row hs with ⟨h1,_,rfl⟩ | ⟨a0,cap,vs,S,rfl,hcap,hlen,hcell,hr⟩
 ·have:l= []:=List.eq_nil_of_length_eq_zero h1
  subst this
  simp[execOp,hf.eval hx,convert,run_underlying hu,run_underlying ht',run_underlying hk',Conv.bytesToString]
  rfl
 ·have hvs:=hr.vals (zba l)
  subst hvs
  have hcv:=run_convert_bytes_back (P:=P) w src tgt e a0 cap l hu hk' ht' (by
   intro j hj
   have h1:Enc.sz UInt8=1:=rfl
   rw[hcell j (by rw[h1];omega)]
   have:l.flatMap (Flat.vals (α:=UInt8))=l.map fun b=>Value.int .u8 b.toNat:=by
    clear hc hx hcap hlen hcell hr hj
    induction l with
    | nil=>rfl
    | cons x l ih=>rw[List.flatMap_cons,ih];rfl
   rw[this]
   simp[hj])
  simp only[execOp,hf.eval hx,Sem.run_bind,hcv,Result.andThen_ok,Sem.run_pure]
  rfl
theorem zhr (s:List UInt8) (i j:Nat):(ByteArray.mk s.toArray).extract i j=ByteArray.mk ((s.drop i).take (j - i)).toArray:=by
 apply ByteArray.ext
 simp[ByteArray.data_extract]
theorem zm9 {s z:List UInt8} {lo hi:Int} (h:ssub s lo hi=some z):0≤lo∧lo≤hi∧hi≤s.length∧z=(s.drop lo.toNat).take (hi.toNat - lo.toNat):=by
 unfold ssub at h
 split at h
 ·rename_i hc;cases h;exact ⟨hc.1,hc.2.1,hc.2.2,rfl⟩
 ·cases h
theorem Y.ssub_both {x y z':Operand} {t:TypeId} {s z:List UInt8} {lo hi:Int} {k k':IntKind} (hz:ssub s lo hi=some z) (ht:isStrB P t=true) (hx:ev fr x=some (strV s)) (hy:ev fr y=some (.int k lo)) (hw:ev fr z'=some (.int k' hi)):
 Y P w0 S0 n fr is ⟨dst,.slice t x (some y) (some z') none,ty,pos,aft,gd⟩ (strV z):=by
 have ht':P.underlying t=some .string:=by unfold isStrB at ht;split at ht<;>simp_all
 obtain ⟨h0,h1,h2,rfl⟩:=zm9 hz
 intro a w hf hs
 have hr:=run_slice_string_if (P:=P) w t ⟨s.toArray⟩ k k' lo hi ht'
 rw[if_pos ⟨by omega,by simpa[ByteArray.size_mk'] using h2⟩,if_pos ⟨h0,h1⟩,zhr]at hr
 simp only[execOp,hf.eval hx,hf.eval hy,hf.eval hw,Option.map_some,Option.map_none,strV,Instr.sliceAt,run_underlying ht',Sem.run_bind,hr,Result.andThen_ok,Sem.run_pure]
theorem Y.ssub_from {x y:Operand} {t:TypeId} {s z:List UInt8} {lo:Int} {k:IntKind} (hz:ssub s lo (s.length:Int)=some z) (ht:isStrB P t=true) (hx:ev fr x=some (strV s)) (hy:ev fr y=some (.int k lo)):
 Y P w0 S0 n fr is ⟨dst,.slice t x (some y) none none,ty,pos,aft,gd⟩ (strV z):=by
 have ht':P.underlying t=some .string:=by unfold isStrB at ht;split at ht<;>simp_all
 obtain ⟨h0,h1,h2,rfl⟩:=zm9 hz
 intro a w hf hs
 have hsz:(ByteArray.mk s.toArray).size=s.length:=by simp[ByteArray.size_mk']
 simp[execOp,hf.eval hx,hf.eval hy,strV,Instr.sliceAt,Instr.slice,Instr.sliceBounds,Instr.sliceBound,asIntOf,run_underlying ht',hsz,h0,h1,zhr]
theorem Y.ssub_to {x y:Operand} {t:TypeId} {s z:List UInt8} {hi:Int} {k:IntKind} (hz:ssub s 0 hi=some z) (ht:isStrB P t=true) (hx:ev fr x=some (strV s)) (hy:ev fr y=some (.int k hi)):
 Y P w0 S0 n fr is ⟨dst,.slice t x none (some y) none,ty,pos,aft,gd⟩ (strV z):=by
 have ht':P.underlying t=some .string:=by unfold isStrB at ht;split at ht<;>simp_all
 obtain ⟨_,h1,h2,rfl⟩:=zm9 hz
 intro a w hf hs
 have hsz:(ByteArray.mk s.toArray).size=s.length:=by simp[ByteArray.size_mk']
 simp[execOp,hf.eval hx,hf.eval hy,strV,Instr.sliceAt,Instr.slice,Instr.sliceBounds,Instr.sliceBound,asIntOf,run_underlying ht',hsz,h1,h2,zhr]
theorem Y.min2 {x y:Operand} {k:IntKind} {p q:Int} {ats:Array TypeId} (hx:ev fr x=some (.int k p)) (hy:ev fr y=some (.int k q)):
 Y P w0 S0 n fr is ⟨dst,.call {callee:=.builtin .min,args:=#[x,y],argTypes:=ats},ty,pos,aft,gd⟩ (.int k (goMin p q)):=by
 intro a w hf hs
 simp[execOp,resolve,invoke,builtin,hf.eval hx,hf.eval hy,Builtin.min_,Builtin.min2,goMin]
theorem Y.max2 {x y:Operand} {k:IntKind} {p q:Int} {ats:Array TypeId} (hx:ev fr x=some (.int k p)) (hy:ev fr y=some (.int k q)):
 Y P w0 S0 n fr is ⟨dst,.call {callee:=.builtin .max,args:=#[x,y],argTypes:=ats},ty,pos,aft,gd⟩ (.int k (goMax p q)):=by
 intro a w hf hs
 simp[execOp,resolve,invoke,builtin,hf.eval hx,hf.eval hy,Builtin.max_,Builtin.max2,goMax]
def nilB (v:Value):Bool:=match v with | .slice none _ _=>true | _=>false
theorem Y.nileq {α:Type} [Enc α] {l:List α} {x y:Operand} {t e sz by_:Nat} {t':TypeId} {v:Value} (he:elemB P t=some (e,sz,by_)) (hc:Can w0 S0 is v (lc l)) (hx:ev fr x=some v) (hy:ev fr y=some (.slice none 0 0)):
 Y P w0 S0 n fr is ⟨dst,.binOp .eql t x y t',ty,pos,aft,gd⟩ (.bool (nilB v)):=by
 obtain ⟨hu,_⟩:=zJ he
 intro a w hf hs
 have h1: ∀u w',binOp .eql t u w'=(do pure (.bool (←Op.equal t u w')):Sem Value)∨True:=fun _ _=>.inr trivial
 rcases hc.row hs with ⟨_,_,rfl⟩ | ⟨a0,cap,vs,S,rfl,_⟩
 ·have h2:(binOp .eql t (.slice none 0 0) (.slice none 0 0)).run P w= .ok (.bool true) w:=by
   have:=run_equal_slice_nil (P:=P) w t e none 0 0 hu
   have h1:binOp .eql t (.slice none 0 0) (.slice none 0 0)=(do pure (.bool (←Op.equal t (.slice none 0 0) (.slice none 0 0)))):=rfl
   rw[h1];simp[this]
  have h3:eqGuard .eql t x y (.slice none 0 0) (.slice none 0 0)=pure ():=rfl
  simp only[execOp,hf.eval hx,hf.eval hy,h3,Sem.run_bind,Sem.run_pure,Result.andThen_ok,h2]
  rfl
 ·have h2:(binOp .eql t (.slice (some a0) l.length cap) (.slice none 0 0)).run P w= .ok (.bool false) w:=by
   have:=run_equal_slice_nil (P:=P) w t e (some a0) l.length cap hu
   have h1:binOp .eql t (.slice (some a0) l.length cap) (.slice none 0 0)=(do pure (.bool (←Op.equal t (.slice (some a0) l.length cap) (.slice none 0 0)))):=rfl
   rw[h1];simp[this]
  have h3:eqGuard .eql t x y (.slice (some a0) l.length cap) (.slice none 0 0)=pure ():=rfl
  simp only[execOp,hf.eval hx,hf.eval hy,h3,Sem.run_bind,Sem.run_pure,Result.andThen_ok,h2]
  rfl
theorem TW.cond_nil {α:Type} [Enc α] {l:List α} {c:Operand} {x y:Code} {v:Value} (hc:Can w0 S0 is v (lc l)) (hb:ev fr c=some (.bool (nilB v))) (h1:l= []→TW P w0 S0 m n fr is x Q) (h2:TW P w0 S0 m n fr is y Q):
 TW P w0 S0 m n fr is (.cond c x y) Q:=by
 intro r hr a w hf hs
 have he:=hf.eval hb
 cases hn:nilB v with
 | false=>rw[hn]at he;exact wp_cond_false he (h2 r hr a w hf hs)
 | true=>
   rw[hn]at he
   refine wp_cond_true he (h1 ?_ r hr a w hf hs)
   rcases hc.row hs with ⟨h3,_,_⟩ | ⟨a0,cap,vs,S,rfl,_⟩
   ·exact List.eq_nil_of_length_eq_zero h3
   ·cases hn
theorem Y.makeFunc {g:FuncId} {caps:List Operand} {cs:List Value} (hc:evs fr caps=some cs):Y P w0 S0 n fr is ⟨dst,.makeFunc (.func g) #[] caps.toArray,ty,pos,aft,gd⟩ (.func (.func g) #[] cs.toArray):=by
 intro a w hf hs
 have:=hf.evals hc
 simp[execOp,Instr.makeFunc,←this]
end
end Go.Proofs.YtfgjhefhlabpkaaGreat.Sl
