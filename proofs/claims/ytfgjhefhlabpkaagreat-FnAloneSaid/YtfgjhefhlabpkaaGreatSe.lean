/-
  The rules of the small separation logic, continued: slices that the call makes and writes. Generic: no statement about a given function.
-/
import Derived.Test.YtfgjhefhlabpkaaGreatSd
import Derived.Laws.AppendOwnNone
import Derived.ArgAppend
namespace Go.Proofs.YtfgjhefhlabpkaaGreat.Sl
open Go Go.RowKit
theorem zjV (off:Nat): ∀(us:List Value) (i:Nat) (cur:Array Value),off+i+us.length≤cur.size→
 ((us.zipIdx i).foldl (fun (cs:Array Value) (p:Value × Nat)=>cs.setIfInBounds (off+p.2) p.1) cur)=(splice cur.toList (off+i) us).toArray
 | [],i,cur,h=>by simp[splice]
 | u::us,i,cur,h=>by
   simp only[List.zipIdx_cons,List.foldl_cons]
   rw[zjV off us (i+1) _ (by simp at h ⊢;omega)]
   congr 1
   simp only[List.length_cons]at h
   apply List.ext_getElem?
   intro k
   simp only[splice,Array.toList_setIfInBounds,List.getElem?_append,List.length_append,List.length_take,List.length_set,Array.length_toList,List.length_cons,List.getElem?_take,List.getElem?_drop,List.getElem?_set]
   rcases Nat.lt_trichotomy k (off+i) with hk | hk | hk
   ·simp[show k<off+(i+1) by omega,hk,show min (off+(i+1)) cur.size=off+(i+1) by omega,show min (off+i) cur.size=off+i by omega,show k<off+(i+1)+us.length by omega,show off+i≠k by omega,show k<off+i+(us.length+1) by omega]
   ·subst hk
    simp[show min (off+(i+1)) cur.size=off+(i+1) by omega,show min (off+i) cur.size=off+i by omega,show off+i<off+(i+1) by omega,show off+i<off+(i+1)+us.length by omega,show off+i<cur.size by omega]
   ·simp only[show min (off+(i+1)) cur.size=off+(i+1) by omega,show min (off+i) cur.size=off+i by omega,show ¬k<off+i by omega,show ¬k<off+(i+1) by omega,if_false]
    by_cases h1:k<off+(i+1)+us.length
    ·rw[if_pos h1,if_pos (by omega)]
     rw[show k - (off+i)=(k - (off+(i+1)))+1 by omega]
     simp
    ·rw[if_neg h1,if_neg (by omega),show off+(i+1)+us.length+(k - (off+(i+1)+us.length))=k by omega,show off+i+(us.length+1)+(k - (off+i+(us.length+1)))=k by omega,if_neg (by omega)]
theorem zfC (vs:List Value) (off:Nat) (us:List Value) (h:off+us.length≤vs.length):(splice vs off us).length=vs.length:=by
 simp[splice];omega
theorem zjS (sz:Nat): ∀(Vs:List Value) (k:Nat) (cur:Array Value),(∀V∈Vs,V.cells.size=sz)→(k+Vs.length)*sz≤cur.size→
 Instr.fill (fun i=>some (i*sz,sz)) cur ((Vs.zipIdx k).map fun p=>(p.2,p.1))=some (splice cur.toList (k*sz) (Vs.flatMap fun V=>V.cells.toList)).toArray
 | [],k,cur,_,_=>by simp[Instr.fill,splice]
 | V::Vs,k,cur,h,hle=>by
   have hV:=h V (by simp)
   simp only[List.length_cons]at hle
   have h1:k*sz+sz≤(k+(Vs.length+1))*sz:=by rw[←Nat.succ_mul];exact Nat.mul_le_mul_right _ (by omega)
   have hcell:V.cells.toList.length=sz:=by simp[hV]
   simp only[List.zipIdx_cons,List.map_cons,Instr.fill]
   have hno: ¬(V.cells.size≠sz∨k*sz+V.cells.size>cur.size):=by
    rw[hV];intro h;rcases h with h | h
    ·exact h rfl
    ·have:=Nat.le_trans h1 hle;omega
   rw[if_neg (by simpa using hno)]
   have hfit:k*sz+V.cells.toList.length≤cur.toList.length:=by rw[hcell,Array.length_toList];exact Nat.le_trans h1 hle
   have hf:=zjV (k*sz) V.cells.toList 0 cur (by simpa using hfit)
   simp only[Nat.add_zero]at hf
   have hz:V.cells.zipIdx.foldl (fun (cs:Array Value) (x:Value × Nat)=>cs.setIfInBounds (k*sz+x.2) x.1) cur=(splice cur.toList (k*sz) V.cells.toList).toArray:=by
    rw[←hf,←Array.foldl_toList];simp
   have hsize:(splice cur.toList (k*sz) V.cells.toList).length=cur.size:=by
    rw[zfC _ _ _ hfit];simp
   have ih:=zjS sz Vs (k+1) (splice cur.toList (k*sz) V.cells.toList).toArray (fun V hV=>h V (by simp[hV])) (by
    have:(k+1+Vs.length)*sz=(k+(Vs.length+1))*sz:=by congr 1;omega
    rw[List.size_toArray,hsize,this];exact hle)
   refine Eq.trans ?_ (ih.trans ?_)
   ·congr 1
   ·congr 2
    have hk:(k+1)*sz=k*sz+V.cells.toList.length:=by rw[Nat.succ_mul,hcell]
    have hk2:(cur.toList.take (k*sz)).length=k*sz:=by rw[List.length_take];omega
    have hk3:(cur.toList.take (k*sz)++V.cells.toList).length=(k+1)*sz:=by rw[List.length_append,hk2,hk]
    generalize hW:(List.flatMap (fun V=>V.cells.toList) Vs)=Wl
    simp only[splice,List.flatMap_cons,hW]
    rw[←hk3,List.take_append_of_le_length (Nat.le_refl _),List.take_of_length_le (Nat.le_refl _)]
    simp only[List.append_assoc]
    refine congrArg (cur.toList.take (k*sz)++ ·) (congrArg (V.cells.toList++ ·) (congrArg (Wl++ ·) ?_))
    rw[List.drop_append,List.drop_of_length_le (by omega),List.nil_append,List.drop_append,List.drop_of_length_le (by rw[List.length_append];omega),List.nil_append,List.drop_drop]
    congr 1
    rw[List.length_append,List.length_append,hk2]
    omega
theorem z8 {α:Type} [Flat α] (l:List α):(l.flatMap (Flat.vals (α:=α))).length=l.length*Enc.sz α:=by
 induction l with
 | nil=>simp
 | cons x l ih=>simp[ih,zfz,Nat.add_mul,Nat.add_comm]
def OwR (w:World) (f:TypeId) (sz:Nat) (v:Value) (n:Nat) (us:List Value):Prop:=
 us.length=n*sz∧((v= .slice none 0 0∧n=0)∨∃g cap cur,v= .slice (some ⟨g,0,none⟩) n cap∧w.heap[g]? =some (.cells cur f (0,0))∧n≤cap∧cap≤maxLen∧cap*sz≤cur.size∧cur.toList.take (n*sz)=us)
theorem OwR.of {w:World} {f:TypeId} {sz:Nat} {v:Value} {n:Nat} {us:List Value} (h:w.ownsRow 0 f sz v n us):OwR w f sz v n us:=by
 refine ⟨h.1,?_⟩
 rcases h.2 with ⟨h1,h2⟩ | ⟨g,cap,cur,h1,_,h2,h3,h4,h5,h6⟩
 ·exact .inl ⟨h1,h2⟩
 ·exact .inr ⟨g,cap,cur,h1,h2,h3,h4,Nat.le_of_eq h5.symm,h6⟩
theorem OwR.nil (w:World) (f:TypeId) (sz:Nat):OwR w f sz (.slice none 0 0) 0 []:=⟨by simp,.inl ⟨rfl,rfl⟩⟩
theorem OwR.cells {w:World} {f:TypeId} {sz:Nat} {g n cap:Nat} {us:List Value} (h:OwR w f sz (.slice (some ⟨g,0,none⟩) n cap) n us) (j:Nat) (u:Value) (hj:us[j]? =some u):w.cell? ((⟨g,0,none⟩:Addr).add j)=some u:=by
 rcases h.2 with ⟨h1,_⟩ | ⟨g',cap',cur,h1,h2,h3,h4,h5,h6⟩
 ·cases h1
 ·cases h1
  have hl:=(List.getElem?_eq_some_iff.1 hj).1
  rw[h.1]at hl
  have hadd:(⟨g,0,none⟩:Addr).add j=⟨g,j,none⟩:=by unfold Addr.add;split<;>simp_all
  rw[hadd,cell_of_row w g j cur f (0,0) h2,←hj,←h6,List.getElem?_take,if_pos hl]
  simp
theorem Ow.ownsRow {w:World} {v:Value} {sz n:Nat} {cs:List C} {S:List Nat} (h:Ow w v (.sl sz n cs) S): ∃us T e,OwR w e sz v n us∧Ows w us cs T∧S=v.ownBlock.toList++T:=by
 cases h with
 | nil=>exact ⟨[],[],0,OwR.nil w 0 sz,.nil,rfl⟩
 | row b n cap e sz cur vs cs S hh hc hm hs ht hr=>
   refine ⟨vs,S,e,⟨?_,.inr ⟨b,cap,cur,rfl,hh,hc,hm,hs,ht⟩⟩,hr,rfl⟩
   have:n*sz≤cap*sz:=Nat.mul_le_mul_right _ hc
   rw[←ht,List.length_take,Array.length_toList];omega
theorem Ow.of_ownsRow {w:World} {v:Value} {e sz n:Nat} {us:List Value} {cs:List C} {T:List Nat} (h:OwR w e sz v n us) (hr:Ows w us cs T):Ow w v (.sl sz n cs) (v.ownBlock.toList++T):=by
 rcases h.2 with ⟨rfl,rfl⟩ | ⟨g,cap,cur,rfl,hh,hc,hm,hs,ht⟩
 ·have:us= []:=List.eq_nil_of_length_eq_zero (by simpa using h.1)
  subst this
  cases hr
  exact .nil sz
 ·exact .row g n cap e sz cur us cs T hh hc hm hs ht hr
theorem zgb {v:Value} {b:Nat} (h:b∈v.ownBlock.toList):v.ownBlock=some b:=by simpa using h
theorem Chg.of_grown {w w':World} {v:Value} (h:w.grownBy w' v.ownBlock) (A:List Nat) (hA: ∀b∈v.ownBlock.toList,b∈A):Chg w w' A:=
 ⟨h.os,h.tape,h.output,h.size,fun b hb hn=>h.block b hb (fun e=>hn (hA b (by rw[←e];simp)))⟩
section
variable {P:Program} {w0:World} {S0:List Nat} {R:Type} {m:Option R} {n:Nat} {fr:Fr} {is:List Item} {Q:R→Exit→Act→World→Prop}
variable {ty:TypeId} {pos:String} {aft:Array Edge}
def partVs (fr:Fr):Nat→List (Nat × Operand)→Option (List Value)
 | _,[]=>some []
 | k,(i,o)::r=>bif Nat.beq i k then (match ev fr o,partVs fr (k+1) r with
   | some v,some vs=>some (v::vs)
   | _,_=>none) else none
theorem zjh {n:Nat} {a:Act} (hf:FrOk n fr a): ∀{k:Nat} {ps:List (Nat × Operand)} {Vs:List Value},partVs fr k ps=some Vs→(ps.map fun (i,x)=>(i,a.eval x))=(Vs.zipIdx k).map fun p=>(p.2,p.1)
 | _,[],_,h=>by simp[partVs]at h;subst h;rfl
 | k,(i,o)::r,Vs,h=>by
   unfold partVs at h
   cases hb:Nat.beq i k with
   | false=>rw[hb]at h;cases h
   | true=>
     have hi:i=k:=by simpa using hb
     rw[hb]at h
     simp only[cond_true]at h
     cases h1:ev fr o with
     | none=>rw[h1]at h;simp at h
     | some v=>
       cases h2:partVs fr (k+1) r with
       | none=>rw[h1,h2]at h;simp at h
       | some vs=>
         rw[h1,h2]at h
         simp only[Option.some.injEq]at h
         subst h hi
         simp[zjh hf h2,hf.eval h1]
theorem Ef.buildSlice {α:Type} [Flat α] {d:Option Nat} {gd:Option (Nat × Bool)} {t e sz by_ len:Nat} {ps:List (Nat × Operand)} {Vs:List Value} {z:Value} (xs:List α)
 (he:elemB P t=some (e,sz,by_)) (hz:zeroB P e=some z) (hsz:Enc.sz α=sz) (hps:partVs fr 0 ps=some Vs) (hlen:xs.length=len) (hbig:Nat.ble (len*sz) 16777216=true)
 (hv:Vs.map (fun V=>V.cells.toList)=xs.map Flat.vals):
 Ef P w0 S0 n fr is ⟨d,.buildSlice t len ps.toArray,ty,pos,aft,gd⟩ (fun b:Nat=>.slice (some ⟨b,0,none⟩) len len) (fun b=>.own (.slice (some ⟨b,0,none⟩) len len) (lc xs)::is):=by
 obtain ⟨hu,ti,hti,hsz',_⟩:=zJ he
 subst hsz
 have hVl:Vs.length=len:=by rw[←hlen];have:=congrArg List.length hv;simpa using this
 have hVs: ∀V∈Vs,V.cells.size=Enc.sz α:=by
  intro V hV
  have:V.cells.toList∈xs.map Flat.vals:=by rw[←hv];exact List.mem_map.2 ⟨V,hV,rfl⟩
  obtain ⟨x,_,hx⟩:=List.mem_map.1 this
  rw[←Array.length_toList,←hx,zfz]
 have hfl:Vs.flatMap (fun V=>V.cells.toList)=xs.flatMap Flat.vals:=by
  rw[List.flatMap_def,List.flatMap_def,hv]
 intro a w K Q hf hs hK
 have hbig': ¬len*Enc.sz α>2 ^ 24:=by have:=Nat.le_of_ble_eq_true hbig;omega
 have hcur: ∀zc:Array Value,((Array.range (len*Enc.sz α)).map (zc[·% zc.size]!)).size=len*Enc.sz α:=fun zc=>by simp
 have hfill: ∀zc:Array Value,Instr.fill (fun i=>some (i*Enc.sz α,Enc.sz α)) ((Array.range (len*Enc.sz α)).map (zc[·% zc.size]!)) (ps.map fun (i,x)=>(i,a.eval x))=some (xs.flatMap Flat.vals).toArray:=by
  intro zc
  rw[zjh hf hps,zjS (Enc.sz α) Vs 0 _ hVs (by simp[hVl])]
  congr 2
  rw[hfl]
  have hl:=z8 xs
  simp only[splice,Nat.zero_mul,List.take_zero,List.nil_append,Nat.zero_add]
  rw[List.drop_of_length_le (by rw[Array.length_toList,hcur,hl,hlen];exact Nat.le_refl _),List.append_nil]
 have hrun:(execOp a.eval ⟨d,.buildSlice t len ps.toArray,ty,pos,aft,gd⟩).run P w= .ok (.value (.slice (some ⟨w.heap.size,0,none⟩) len len)) (w.alloc (.cells (xs.flatMap Flat.vals).toArray e)):=by
  by_cases h0:len*Enc.sz α=0
  ·simp only[execOp,Instr.buildSlice,Sem.run_bind,run_underlying hu,Result.andThen_ok,sizeOf,typeInfo,run_program,hti,Sem.run_pure,hsz',if_neg hbig',if_pos h0]
   have:=hfill #[]
   simp only[List.map_toArray]
   rw[this]
   simp[newRow]
  ·simp only[execOp,Instr.buildSlice,Sem.run_bind,run_underlying hu,Result.andThen_ok,sizeOf,typeInfo,run_program,hti,Sem.run_pure,hsz',if_neg hbig',if_neg h0,zfT hz]
   have:=hfill z.cells
   simp only[List.map_toArray]
   rw[this]
   simp[newRow]
 unfold Oper.wp
 rw[hrun]
 refine hK w.heap.size _ ?_
 have hmax:len≤maxLen:=by
  have h1:=Nat.le_of_ble_eq_true hbig
  have h2:len≤len*Enc.sz α:=Nat.le_mul_of_pos_right _ (Enc.pos (α:=α))
  simp only[maxLen];omega
 refine hs.add (Chg.alloc w _ []) _ [w.heap.size] ?_ (by simp) (by simp)
 subst hlen
 refine .row w.heap.size xs.length xs.length e _ _ _ _ [] (heap_alloc_new w _) (Nat.le_refl _) hmax (Nat.le_of_eq (by rw[List.size_toArray,z8]:_=_).symm) rfl ?_
 rw[List.toList_toArray,List.take_of_length_le (by rw[z8];exact Nat.le_refl _)]
 exact Ows.of_vals (zba xs)
def app {α:Type} (by_:Nat) (l k:List α):Option (List α):=if (l.length+k.length)*by_≤140737488355328∧l.length+k.length≤9223372036854775807 then some (l++k) else none
theorem zjK {α:Type} {by_:Nat} {l k r:List α} (h:app by_ l k=some r):r=l++k∧(l.length+k.length)*by_≤140737488355328∧l.length+k.length≤9223372036854775807:=by
 unfold app at h
 split at h
 ·rename_i hc;cases h;exact ⟨rfl,hc.1,hc.2⟩
 ·cases h
theorem oneCells {α:Type} [Flat α] (l:List α): ∀u∈l.flatMap (Flat.vals (α:=α)),u.oneCell'=true:=zjB (zba l)
theorem Ows.vals {w:World} {us vs:List Value} {cs:List C} {S:List Nat} (h:Ows w us cs S) (hv:valsC cs=some vs):us=vs:=by
 obtain ⟨T,hT,_⟩:=h.rds
 exact hT.vals hv
theorem Ow.noS {w:World} {u v:Value} {c:C} {S:List Nat} (h:Ow w u c S) (hv:valC c=some v):S= []:=by
 cases h<;>simp_all[valC]
theorem Ows.noS {w:World} : ∀{us vs:List Value} {cs:List C} {S:List Nat},Ows w us cs S→valsC cs=some vs→S= []
 | _,_,[],_,h,_=>by cases h;rfl
 | _,vs,c::cs,_,h,hv=>by
   cases h with
   | cons v c S vs' cs T h1 h2=>
     unfold valsC at hv
     cases h3:valC c with
     | none=>rw[h3]at hv;simp at hv
     | some u=>
       cases h4:valsC cs with
       | none=>rw[h3,h4]at hv;simp at hv
       | some us'=>rw[h1.noS h3,Ows.noS h2 h4];rfl
theorem append_room_any {w:World} {t e e':TypeId} {i:TypeInfo} (ht:P.underlying t=some (.slice e)) (hi:P.info? e=some i) (g sLen sCap:Nat) (cur:Array Value) (hg:w.heap[g]? =some (.cells cur e' (0,0)))
 (a:Addr) (m c:Nat) (news:List Value) (hl:news.length=m*i.size) (hnews: ∀j u,news[j]? =some u→w.cell? (a.add j)=some u) (h1: ∀u∈news,u.oneCell'=true)
 (hroom:sLen+m≤sCap) (hfit:sLen*i.size+news.length≤cur.size):
 (Builtin.append_ #[t,t] ty #[.slice (some ⟨g,0,none⟩) sLen sCap,.slice (some a) m c]).run P w=
   .ok (.slice (some ⟨g,0,none⟩) (sLen+m) sCap) (w.setRow g (cur.toList.take (sLen*i.size)++news++cur.toList.drop (sLen*i.size+news.length)).toArray):=by
 have hf:=run_firstCells_some (P:=P) w i.size m a m c news hl hnews
 have hst:=run_storeCells_at P g (sLen*i.size) e' news 0 cur w hg (by simpa using hfit) h1
 simp only[Nat.add_zero]at hst
 simp[Builtin.append_,run_underlying ht,sizeOf,typeInfo,hi,Builtin.lenOf,hroom,hf,Addr.add_lit,hst]
theorem append_none_any {w:World} {t e e':TypeId} {sz:Nat} {ti:TypeInfo} (hu:P.underlying t=some (.slice e)) (hti:P.info? e=some ti) (v:Value) (n:Nat) (xs:List Value) (hown:OwR w e' sz v n xs):
 (Builtin.append_ #[t,t] ty #[v,.slice none 0 0]).run P w= .ok v w:=by
 rcases hown.2 with ⟨rfl,rfl⟩ | ⟨g,cap,cur,rfl,hg,hnc,hcm,hcs,_⟩
 ·simp[Builtin.append_,run_underlying hu,sizeOf,typeInfo,hti,Builtin.lenOf,Builtin.firstCells,loadCells,loadCellsFrom]
 ·simp[Builtin.append_,run_underlying hu,sizeOf,typeInfo,hti,Builtin.lenOf,Builtin.firstCells,loadCells,loadCellsFrom,hnc,storeCells]
theorem append_raw {w:World} {t e e' sz by_:Nat} {ti:TypeInfo} {z:Value} (hu:P.underlying t=some (.slice e)) (hti:P.info? e=some ti) (hzi:ti.zero=some z) (hsz:ti.size=sz) (hby:ti.bytes=by_)
 (hzs:z.cells.size=sz) (hpos:0<sz) {v:Value} {n:Nat} {us:List Value} (hown:OwR w e' sz v n us) (a:Addr) (m c:Nat) (news:List Value) (hl:news.length=m*sz)
 (hnews: ∀j q,news[j]? =some q→w.cell? (a.add j)=some q) (h1: ∀q∈news,q.oneCell'=true) (h63:n+m≤9223372036854775807) (hb:(n+m)*by_≤140737488355328):
 ∃v' w' f,(Builtin.append_ #[t,t] ty #[v,.slice (some a) m c]).run P w= .ok v' w'∧OwR w' f sz v' (n+m) (us++news)∧w.grownBy w' v.ownBlock∧∀b∈v'.ownBlock.toList,b∈v.ownBlock.toList∨w.heap.size≤b:=by
 subst hsz hby
 rcases hown.2 with ⟨rfl,rfl⟩ | ⟨g,cap,cur,rfl,hg,hnc,hcm,hcs,htake⟩
 ·have hx:us= []:=List.eq_nil_of_length_eq_zero (by simpa using hown.1)
  subst hx
  obtain ⟨v',w',e1,e2,e3,e4⟩:=run_append_own (P:=P) w 0 t ty e ti z ti.size ti.bytes hu hti hzi rfl rfl hzs hpos (.slice none 0 0) 0 [] (World.ownsRow_nil w 0 e ti.size) a m c news hl hnews h1 (by simp only[maxLen];exact h63) hb (Nat.zero_le _)
  refine ⟨v',w',e,e1,.of e2,e3,?_⟩
  intro b hb'
  have hob:=zgb hb'
  by_cases hm:m=0
  ·rw[e4.2 ⟨rfl,hm⟩]at hob
   simp[Value.ownBlock]at hob
  ·have hr:=run_append_nil (P:=P) (w:=w) t ty e ti z hu hti hzi a m c news hl hnews (by omega) (by omega) (by have hb:=hb;simp only[Nat.zero_add]at hb;omega)
   rw[e1]at hr
   simp only[Result.ok.injEq]at hr
   rw[hr.1]at hob
   simp only[Value.ownBlock,Option.some.injEq]at hob
   right;omega
 ·by_cases hroom:n+m≤cap
  ·have hfit:n*ti.size+news.length≤cur.size:=by rw[hl,←Nat.add_mul];exact Nat.le_trans (Nat.mul_le_mul_right _ hroom) hcs
   have hr:=append_room_any (P:=P) (ty:=ty) hu hti g n cap cur hg a m c news hl hnews h1 hroom hfit
   have hlen:(us++news).length=(n+m)*ti.size:=by rw[List.length_append,hown.1,hl,Nat.add_mul]
   refine ⟨_,_,e',hr,⟨hlen,.inr ⟨g,cap,_,rfl,setRow_heap w g cur _ e' _ hg,hroom,hcm,?_,?_⟩⟩,⟨rfl,rfl,rfl,by simp,fun k _ hk=>setRow_other w g k _ (fun e=>hk (by simp[Value.ownBlock,e]))⟩,fun b hb=>.inl hb⟩
   ·simp only[List.size_toArray,List.length_append,List.length_take,List.length_drop,Array.length_toList]
    omega
   ·rw[htake,←hlen]
    exact List.take_left
  ·obtain ⟨v',w',h2,h3,h4⟩:=run_append_arg_grows (P:=P) w t ty e ti z ti.size ti.bytes hu hti hzi rfl rfl hzs hpos ⟨g,0,none⟩ n cap us hown.1 hown.cells a m c news hl hnews (by omega) (by simp only[maxLen];exact h63) hb
   refine ⟨v',w',e,h2,.of ?_,⟨h4.os,h4.tape,h4.output,h4.size,fun k hk _=>h4.block k hk (by simp)⟩,fun b hb'=>.inr (h3.lt b (zgb hb')).1⟩
   exact ⟨h3.1,h3.2.imp id fun ⟨g,cap,cur,h5,_,h6⟩=>⟨g,cap,cur,h5,Nat.zero_le _,h6⟩⟩
theorem append_go {α:Type} [Flat α] {t e sz by_:Nat} {z:Value} {l k:List α} {r:List α} {v u:Value} {is':List Item} {w:World} (hs':St w0 S0 (.own v (lc l)::is') w)
 (hr:app by_ l k=some r) (he:elemB P t=some (e,sz,by_)) (hz:zeroB P e=some z) (hzs:Nat.beq z.cells.size sz=true) (hsz:Enc.sz α=sz) (hc:Can w0 S0 is u (lc k)) (hs:St w0 S0 is w):
 ∃v' w',(Builtin.append_ #[t,t] ty #[v,u]).run P w= .ok v' w'∧St w0 S0 (.own v' (lc r)::is') w':=by
 obtain ⟨hu,ti,hti,hsz',hby⟩:=zJ he
 obtain ⟨rfl,hb1,hb2⟩:=zjK hr
 have hzi:ti.zero=some z:=by unfold zeroB at hz;rw[hti]at hz;simpa using hz
 have hzs':z.cells.size=sz:=by simpa using hzs
 obtain ⟨os,tape,output,size,base,S,hS,hnd,hin⟩:=hs'
 obtain ⟨A,B,hAB,hA,hB⟩:=hS
 obtain ⟨us,T,e',hown,hOws,hAT⟩:=Ow.ownsRow hA
 have husv:us=l.flatMap Flat.vals:=hOws.vals (zba l)
 have hT:T= []:=hOws.noS (zba l)
 subst hT
 rw[List.append_nil]at hAT
 have key: ∃v' w' f,(Builtin.append_ #[t,t] ty #[v,u]).run P w= .ok v' w'∧OwR w' f sz v' (l.length+k.length) (us++k.flatMap Flat.vals)∧w.grownBy w' v.ownBlock∧∀b∈v'.ownBlock.toList,b∈v.ownBlock.toList∨w.heap.size≤b:=by
  rcases hc.row hs with ⟨h1,_,rfl⟩ | ⟨a0,cap,vs,S',rfl,hcap,hlen,hcell,hrd⟩
  ·have:k= []:=List.eq_nil_of_length_eq_zero h1
   subst this
   have hrun:=append_none_any (ty:=ty) hu hti v l.length us hown
   refine ⟨v,w,e',hrun,?_,⟨rfl,rfl,rfl,Nat.le_refl _,fun _ _ _=>rfl⟩,fun b hb=>.inl hb⟩
   simpa[hsz] using hown
  ·have hvs:vs=k.flatMap Flat.vals:=hrd.vals (zba k)
   subst hvs
   have hcell': ∀j q,(k.flatMap (Flat.vals (α:=α)))[j]? =some q→w.cell? (a0.add j)=some q:=by
    intro j q hq
    rw[hcell j ?_,hq]
    rcases Nat.lt_or_ge j (k.length*Enc.sz α) with h | h
    ·exact h
    ·rw[List.getElem?_eq_none (by rw[hlen];exact h)]at hq;cases hq
   exact append_raw hu hti hzi hsz' hby hzs' (by rw[←hsz];exact Enc.pos) (by rw[←hsz];exact hown) a0 k.length cap _ (by rw[hlen,hsz]) hcell' (oneCells k) hb2 hb1
 obtain ⟨v',w',f,h1,h2,h3,h4⟩:=key
 refine ⟨v',w',h1,?_⟩
 have hlc:Ow w' v' (lc (l++k)) v'.ownBlock.toList:=by
  have:=Ow.of_ownsRow (cs:=(l++k).flatMap Enc.enc) (T:=[]) h2 (by
   rw[husv,←List.flatMap_append]
   exact Ows.of_vals (zba (l++k)))
  rw[List.append_nil]at this
  unfold lc
  rw[List.length_append,hsz]
  exact this
 have hndv: ∀q:Value,q.ownBlock.toList.Nodup:=by intro q;cases q.ownBlock<;>simp
 obtain ⟨hndA,hndB,hdis⟩:=List.nodup_append.1 (hAB ▸ hnd)
 have hBlt:=zfh hB
 have hAin: ∀b∈v.ownBlock.toList,b∈A:=fun b hb=>by rw[hAT];exact hb
 have hc:=Chg.of_grown h3 A hAin
 refine ⟨hc.os.trans os,hc.tape.trans tape,hc.output.trans output,Nat.le_trans size hc.size,?_,v'.ownBlock.toList++B,⟨_,B,rfl,hlc,zfP hB fun b hb=>hc.keep b (hBlt b hb) fun hbA=>hdis b hbA b hb rfl⟩,?_,?_⟩
 ·intro b hb hb0
  rw[hc.keep b (Nat.lt_of_lt_of_le hb size) fun hbA=>?_]
  ·exact base b hb hb0
  ·rcases hin b (by rw[hAB];exact List.mem_append.2 (.inl hbA)) with h | h
   ·exact hb0 h
   ·omega
 ·refine List.nodup_append.2 ⟨hndv _,hndB,fun x hx y hy hxy=>?_⟩
  subst hxy
  rcases h4 x hx with h | h
  ·exact hdis x (hAin x h) x hy rfl
  ·have:=hBlt x hy;omega
 ·intro b hb
  rcases List.mem_append.1 hb with hb | hb
  ·rcases h4 b hb with h | h
   ·exact hin b (by rw[hAB];exact List.mem_append.2 (.inl (hAin b h)))
   ·right;omega
  ·exact hin b (by rw[hAB];exact List.mem_append.2 (.inr hb))
theorem Ef.append {α:Type} [Flat α] {d:Option Nat} {gd:Option (Nat × Bool)} {t e sz by_:Nat} {x y:Operand} {z:Value} {l k:List α} {r:List α} {v u:Value} {is':List Item}
 (ks:List Nat) (hr:app by_ l k=some r) (he:elemB P t=some (e,sz,by_)) (hz:zeroB P e=some z) (hzs:Nat.beq z.cells.size sz=true) (hsz:Enc.sz α=sz)
 (hp:pulls ks is=some (.own v (lc l)::is')) (hx:ev fr x=some v) (hy:ev fr y=some u) (hc:Can w0 S0 is u (lc k)):
 Ef P w0 S0 n fr is ⟨d,.call {callee:=.builtin .append,args:=#[x,y],argTypes:=#[t,t]},ty,pos,aft,gd⟩ (fun v':Value=>v') (fun v'=>.own v' (lc r)::is'):=by
 intro a w K Q hf hs hK
 obtain ⟨v',w',h1,h2⟩:=append_go (ty:=ty) (hs.pulls ks hp) hr he hz hzs hsz hc hs
 have hrun:(execOp a.eval ⟨d,.call {callee:=.builtin .append,args:=#[x,y],argTypes:=#[t,t]},ty,pos,aft,gd⟩).run P w= .ok (.value v') w':=by
  simp[execOp,resolve,invoke,builtin,hf.eval hx,hf.eval hy,h1]
 unfold Oper.wp
 rw[hrun]
 exact hK v' w' h2
theorem St.nilItem {w:World} (h:St w0 S0 is w) (sz:Nat):St w0 S0 (.own (.slice none 0 0) (.sl sz 0 [])::is) w:=
 h.add (Chg.refl w []) _ [] (.nil sz) (by simp) (by simp)
theorem Ef.append_nil {α:Type} [Flat α] {d:Option Nat} {gd:Option (Nat × Bool)} {t e sz by_:Nat} {x y:Operand} {z:Value} {k:List α} {r:List α} {u:Value}
 (hr:app by_ [] k=some r) (he:elemB P t=some (e,sz,by_)) (hz:zeroB P e=some z) (hzs:Nat.beq z.cells.size sz=true) (hsz:Enc.sz α=sz)
 (hx:ev fr x=some (.slice none 0 0)) (hy:ev fr y=some u) (hc:Can w0 S0 is u (lc k)):
 Ef P w0 S0 n fr is ⟨d,.call {callee:=.builtin .append,args:=#[x,y],argTypes:=#[t,t]},ty,pos,aft,gd⟩ (fun v':Value=>v') (fun v'=>.own v' (lc r)::is):=by
 intro a w K Q hf hs hK
 obtain ⟨v',w',h1,h2⟩:=append_go (ty:=ty) (l:=([]:List α)) (hs.nilItem (Enc.sz α)) hr he hz hzs hsz hc hs
 have hrun:(execOp a.eval ⟨d,.call {callee:=.builtin .append,args:=#[x,y],argTypes:=#[t,t]},ty,pos,aft,gd⟩).run P w= .ok (.value v') w':=by
  simp[execOp,resolve,invoke,builtin,hf.eval hx,hf.eval hy,h1]
 unfold Oper.wp
 rw[hrun]
 exact hK v' w' h2
end
end Go.Proofs.YtfgjhefhlabpkaaGreat.Sl
