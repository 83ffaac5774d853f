/-
  The rules of the small separation logic, continued: arrays (their variables seen as rows), shifts. Generic: no statement about a given function.
-/
import Derived.Test.YtfgjhefhlabpkaaGreatSo
namespace Go.Proofs.YtfgjhefhlabpkaaGreat.Sl
open Go Go.RowKit
def nn (q:Int):Option Unit:=if q<0 then none else some ()
theorem nn_ge {q:Int} {u:Unit} (h:nn q=some u):0≤q:=by
 unfold nn at h
 split at h
 ·cases h
 ·omega
def lenIs {α:Type} (n:Nat) (l:List α):Option Unit:=if l.length=n then some () else none
theorem zhE {α:Type} {n:Nat} {l:List α} {u:Unit} (h:lenIs n l=some u):l.length=n:=by
 unfold lenIs at h
 split at h
 ·assumption
 ·cases h
structure Wrd where
 v:Int
deriving DecidableEq
instance:Enc Wrd:=⟨1,fun x=>[.int .u32 x.v],fun _=>rfl,Nat.one_pos⟩
instance:Flat Wrd:={vals:=fun x=>[.int .u32 x.v],flat:=fun _=>rfl}
def arrV {α:Type} [Flat α] (l:List α):Value:=.agg (l.flatMap Flat.vals).toArray
def arrS (b n:Nat):Value:=.slice (some ⟨b,0,none⟩) n n
def arrB (P:Program) (t:TypeId):Option (Nat × TypeId × Nat):=match P.underlying t with
 | some (.array n e)=>(P.info? e).map fun i=>(n,e,i.size)
 | _=>none
theorem zjL {P:Program} {t:TypeId} {n:Nat} {e:TypeId} {sz:Nat} (h:arrB P t=some (n,e,sz)):P.underlying t=some (.array n e)∧∃i,P.info? e=some i∧i.size=sz:=by
 unfold arrB at h
 split at h
 ·rename_i n' e' hu
  cases hi:P.info? e' with
  | none=>rw[hi]at h;cases h
  | some i=>
    rw[hi]at h
    simp only[Option.map_some,Option.some.injEq,Prod.mk.injEq]at h
    obtain ⟨rfl,rfl,rfl⟩:=h
    exact ⟨hu,i,hi,rfl⟩
 ·cases h
section
variable {P:Program} {w0:World} {S0:List Nat} {R:Type} {m:Option R} {n:Nat} {fr:Fr} {is:List Item} {Q:R→Exit→Act→World→Prop}
variable {dst:Option Nat} {ty:TypeId} {pos:String} {aft:Array Edge} {gd:Option (Nat × Bool)}
theorem Gh.arr {α:Type} [Flat α] {b t k:Nat} {vs:List Value} (l:List α) (hl:l.flatMap Flat.vals=vs) (hn:l.length=k) (hm:k≤maxLen):Gh w0 S0 (.box b t vs::is) (fun _:Unit=>.own (arrS b k) (lc l)::is):=by
 intro w hs
 refine ⟨(),?_⟩
 obtain ⟨os,tape,output,size,base,S,⟨A,B,rfl,⟨rfl,hh⟩,hB⟩,hnd,hin⟩:=hs
 refine ⟨os,tape,output,size,base,[b]++B,⟨[b],B,rfl,?_,hB⟩,hnd,hin⟩
 subst hl hn
 show Ow w (arrS b l.length) (.sl (Enc.sz α) l.length (l.flatMap Enc.enc)) [b]
 refine .row b l.length l.length t _ _ (l.flatMap Flat.vals) _ [] hh (Nat.le_refl _) hm ?_ ?_ (Ows.of_vals (zba _))
 ·rw[List.size_toArray,z8];exact Nat.le_refl _
 ·rw[List.toList_toArray,List.take_of_length_le (by rw[z8];exact Nat.le_refl _)]
theorem Ef.allocArr {α:Type} [Flat α] {t k:Nat} (l:List α) (hz:zeroB P t=some (arrV l)) (hn:l.length=k) (hm:k≤maxLen):
 Ef P w0 S0 n fr is ⟨dst,.alloc t,ty,pos,aft,gd⟩ (fun b:Nat=>.pointer (some ⟨b,0,none⟩)) (fun b=>.own (arrS b k) (lc l)::is):=by
 intro a w K Q hf hs hK
 refine Ef.alloc (zs:=l.flatMap Flat.vals) hz rfl a w K Q hf hs fun b w' hs'=>hK b w' ?_
 obtain ⟨_,h⟩:=Gh.arr l rfl hn hm w' hs'
 exact h
theorem Y.index_arr {α:Type} {x y:Operand} {t e b k sz:Nat} {kd:IntKind} {i:Int} {sz':Nat} {cs':List C} {l:List α} {z:α} (ha:arrB P t=some (k,e,sz)) (hc:Can w0 S0 is (arrS b k) (.sl sz' l.length cs')) (hi:idx l i=some z)
 (hx:ev fr x=some (.pointer (some ⟨b,0,none⟩))) (hy:ev fr y=some (.int kd i)):
 Y P w0 S0 n fr is ⟨dst,.indexAddr t x y,ty,pos,aft,gd⟩ (elP (arrS b k) (i.toNat*sz+0)):=by
 obtain ⟨hu,ti,hti,hsz⟩:=zjL ha
 obtain ⟨h0,hlt,hz⟩:=zz hi
 intro a w hf hs
 have hk:l.length=k:=by
  rcases hc.row hs with ⟨h1,_,h2⟩ | ⟨a0,cap,vs,S,h2,_⟩
  ·cases h2
  ·unfold arrS at h2
   cases h2
   rfl
 have hlt':i<(k:Int):=by omega
 simp[execOp,hf.eval hx,hf.eval hy,Instr.indexAt,Instr.sureAddr,run_underlying hu,asIntOf,h0,hlt',sizeOf,typeInfo,hti,hsz,elP,arrS]
theorem zne {α:Type} [Flat α] {w:World} {b k:Nat} {l:List α} (hc:Can w0 S0 is (arrS b k) (lc l)) (hs:St w0 S0 is w) (hpos:0<k):
 l.length=k∧∀j,j<(l.flatMap (Flat.vals (α:=α))).length→w.cell? ((⟨b,0,none⟩:Addr).add j)=(l.flatMap Flat.vals)[j]?:=by
 rcases hc.row hs with ⟨h1,_,h2⟩ | ⟨a0,cap,vs,S,h2,hcap,hlen,hcell,hr⟩
 ·cases h2
 ·unfold arrS at h2
  cases h2
  have hvs:=hr.vals (zba l)
  subst hvs
  refine ⟨rfl,fun j hj=>hcell j ?_⟩
  rw[hlen]at hj
  exact hj
theorem Y.load_arr {α:Type} [Flat α] {x:Operand} {t b k s:Nat} {l:List α} (hk:kindB P t=some (true,s)) (hs':k*Enc.sz α=s) (hpos:0<k) (hc:Can w0 S0 is (arrS b k) (lc l)) (hx:ev fr x=some (.pointer (some ⟨b,0,none⟩))):
 Y P w0 S0 n fr is ⟨dst,.load t x,ty,pos,aft,gd⟩ (arrV l):=by
 intro a w hf hs
 obtain ⟨h1,h2⟩:=zne hc hs hpos
 have:=zcg (P:=P) (v:=arrV l) hk h2 (.inl ⟨rfl,by rw[z8,h1,hs'],rfl⟩)
 simp[execOp,hf.eval hx,Instr.loadAt,Instr.sureAddr,this]
theorem zte {α:Type} [Flat α] (l:List α): ∀u∈l.flatMap (Flat.vals (α:=α)),u.oneCell'=true:=by
 have: ∀w:World,Ows w (l.flatMap (Flat.vals (α:=α))) (l.flatMap Enc.enc) []:=fun w=>Ows.of_vals (zba l)
 intro u hu
 obtain ⟨x,hx,hu⟩:=List.mem_flatMap.1 hu
 have h1: ∀{cs:List C} {vs:List Value},valsC cs=some vs→∀u∈vs,u.oneCell'=true:=by
  intro cs
  induction cs with
  | nil=>intro vs h u hu;simp[valsC]at h;subst h;cases hu
  | cons c cs ih=>
    intro vs h u hu
    unfold valsC at h
    cases hc:valC c with
    | none=>rw[hc]at h;simp at h
    | some v=>
      cases hr:valsC cs with
      | none=>rw[hc,hr]at h;simp at h
      | some r=>
        rw[hc,hr]at h
        simp at h
        subst h
        rcases List.mem_cons.1 hu with rfl | hu
        ·exact zhM hc
        ·exact ih hr u hu
 exact h1 (Flat.flat x) u hu
theorem Ef.store_arr {α:Type} [Flat α] {x y:Operand} {t b k s:Nat} {l l':List α} (i:Nat) (hk:kindB P t=some (true,s)) (hs':k*Enc.sz α=s) (hpos:0<k) (hl:l'.length=k) (hi:is[i]? =some (.own (arrS b k) (lc l)))
 (hx:ev fr x=some (.pointer (some ⟨b,0,none⟩))) (hy:ev fr y=some (arrV l')) {is':List Item} (his:is.set i (.own (arrS b k) (lc l'))=is'):
 Ef P w0 S0 n fr is ⟨none,.store t x y,ty,pos,aft,gd⟩ (fun _:Unit=>undef) (fun _=>is'):=by
 intro a w K Q hf hst hK
 obtain ⟨A0,hA0,_⟩:=zcr hi hst.own.choose_spec.1
 have hrow: ∃cur e',w.heap[b]? =some (.cells cur e' (0,0))∧l.length=k∧k≤maxLen∧k*Enc.sz α≤cur.size:=by
  have hA0':Ow w (arrS b k) (.sl (Enc.sz α) l.length (l.flatMap Enc.enc)) A0:=hA0
  unfold arrS at hA0'
  generalize hcs:l.flatMap (Enc.enc (α:=α))=cs at hA0'
  generalize hn:l.length=ln at hA0'
  cases hA0' with
  | row b n cap e sz cur vs cs S hh hc hm hs ht hr=>exact ⟨cur,e,hh,rfl,hm,hs⟩
 obtain ⟨cur,e',hh,hlk,hcm,hcs⟩:=hrow
 have hlen:(l'.flatMap (Flat.vals (α:=α))).length=k*Enc.sz α:=by rw[z8,hl]
 have hrun:=zeF (P:=P) (off:=0) (v:=arrV l') (us:=l'.flatMap Flat.vals) hk hh rfl (by rw[hlen,hs'];simp) (zte l') (by rw[hlen];omega)
 have he:(execOp a.eval ⟨none,.store t x y,ty,pos,aft,gd⟩).run P w= .ok .skip (w.setRow b (splice cur.toList 0 (l'.flatMap Flat.vals)).toArray):=by
  simp[execOp,hf.eval hx,hf.eval hy,Instr.storeAt,Instr.sureAddr,hrun]
 have hspl:(splice cur.toList 0 (l'.flatMap (Flat.vals (α:=α)))).length=cur.size:=by
  rw[zfC _ _ _ (by simp only[Array.length_toList];omega),Array.length_toList]
 unfold Oper.wp
 rw[he]
 refine hK () _ ?_
 subst his
 refine hst.upd hi fun A hA hnd=>?_
 have hAb:A= [b]:=by
  have hA':Ow w (arrS b k) (.sl (Enc.sz α) l.length (l.flatMap Enc.enc)) A:=hA
  unfold arrS at hA'
  generalize hcs':l.flatMap (Enc.enc (α:=α))=cs at hA'
  generalize hn:l.length=ln at hA'
  cases hA' with
  | row b n cap e sz cur vs cs S hh hc hm hs ht hr=>
    subst hcs'
    rw[hr.noS (zba l)]
 refine ⟨[b],?_,?_,by simp,fun x hx=>.inl (by rw[hAb];exact hx)⟩
 ·rw[hAb];exact Chg.setRow w b _
 ·show Ow _ (arrS b k) (.sl (Enc.sz α) l'.length (l'.flatMap Enc.enc)) [b]
  rw[hl]
  refine .row b k k e' (Enc.sz α) _ (l'.flatMap Flat.vals) _ [] (setRow_heap w b _ _ e' _ hh) (Nat.le_refl _) hcm (by simpa[hspl] using hcs) ?_ (Ows.of_vals (zba _))
  rw[List.toList_toArray,←hlen]
  unfold splice
  rw[List.take_zero,List.nil_append]
  exact List.take_left
theorem zrq {t:TypeId} {ag:Bool} {s:Nat} (hk:kindB P t=some (ag,s)) (w:World):(isAgg t).run P w= .ok ag w:=by
 obtain ⟨d,i,hu,hi,hsz,hag⟩:=zga hk
 simp[hag]
theorem Y.idx_arr {x y:Operand} {t e k:Nat} {kd:IntKind} {i:Int} {l:List Wrd} {z:Wrd} (ha:arrB P t=some (k,e,1)) (hke:kindB P e=some (false,1)) (hl:l.length=k) (hi:idx l i=some z)
 (hx:ev fr x=some (arrV l)) (hy:ev fr y=some (.int kd i)):Y P w0 S0 n fr is ⟨dst,.index t x y,ty,pos,aft,gd⟩ (.int .u32 z.v):=by
 obtain ⟨hu,ti,hti,hsz⟩:=zjL ha
 obtain ⟨h0,hlt,hz⟩:=zz hi
 intro a w hf hs
 have hlt':i<(k:Int):=by omega
 have hfl: ∀l:List Wrd,l.flatMap (Flat.vals (α:=Wrd))=l.map fun x=>Value.int .u32 x.v:=by
  intro l
  induction l with
  | nil=>rfl
  | cons x l ih=>rw[List.flatMap_cons,ih];rfl
 have hcell:(l.flatMap (Flat.vals (α:=Wrd)))[i.toNat]? =some (.int .u32 z.v):=by rw[hfl,List.getElem?_map,hz];rfl
 simp[execOp,hf.eval hx,hf.eval hy,Instr.index,run_underlying hu,asIntOf,h0,hlt',sizeOf,typeInfo,hti,hsz,arrV,Go.part,zrq hke,hcell]
theorem zlK {f g:Nat→Option (Nat × Nat)} : ∀{ps:List (Nat × Value)} {cur:Array Value},(∀p∈ps,f p.1=g p.1)→Instr.fill f cur ps=Instr.fill g cur ps
 | [],_,_=>rfl
 | (i,v)::ps,cur,h=>by
   simp only[Instr.fill]
   rw[h (i,v) (.head _)]
   cases g i with
   | none=>rfl
   | some x=>
     simp only
     split
     ·rfl
     ·exact zlK fun p hp=>h p (.tail _ hp)
theorem Y.build_arr {t:TypeId} {k e sz:Nat} {ps:List (Nat × Operand)} {zs cells:List Value} {v:Value} (qs:List (Nat × List Value)) (ha:arrB P t=some (k,e,sz)) (hz:zeroB P t=some (.agg zs.toArray)) (hq:Parts w0 S0 is fr ps qs)
 (hlt:ps.all (fun p=>Nat.blt p.1 k)=true) (hf:fills ((List.range k).map fun i=>(i*sz,sz)) zs qs=some cells) (hv:Value.agg cells.toArray=v):Y P w0 S0 n fr is ⟨dst,.build t ps.toArray,ty,pos,aft,gd⟩ v:=by
 obtain ⟨hu,ti,hti,hsz⟩:=zjL ha
 intro a w hfr hs
 subst hv
 have h3:=zlg (place:=(List.range k).map fun i=>(i*sz,sz)) hfr hs hq hf
 have h4:Instr.fill (fun i=>some (i*sz,sz)) zs.toArray (ps.map fun (i,x)=>(i,a.eval x))=some cells.toArray:=by
  rw[←h3]
  refine zlK fun p hp=>?_
  obtain ⟨⟨i,x⟩,hm,rfl⟩:=List.mem_map.1 hp
  have:=List.all_eq_true.1 hlt _ hm
  have hik:i<k:=Nat.le_of_ble_eq_true this
  simp[hik]
 have h5:(Instr.build t (ps.toArray.map fun (i,x)=>(i,a.eval x))).run P w= .ok (.agg cells.toArray) w:=by
  simp only[Instr.build,Sem.run_bind,zfT hz,run_underlying hu,Result.andThen_ok,sizeOf,typeInfo,run_program,hti,Sem.run_pure,hsz,Value.cells,List.map_toArray,h4]
 simp only[execOp,Sem.run_bind,h5,Result.andThen_ok,Sem.run_pure]
theorem RV.cell_arr {α:Type} [Flat α] {p t b k s i:Nat} {l:List α} {r:List ResultVar} {vs:List Value} (h2:lk p fr=some (.pointer (some ⟨b,0,none⟩))) (h1:is[i]? =some (.own (arrS b k) (lc l))) (h3:kindB P t=some (true,s))
 (h4:k*Enc.sz α=s) (hpos:0<k) (h:RV P fr is r vs):RV P fr is (.cell p t::r) (arrV l::vs):=
 ⟨⟨_,h2,fun w0 S0 w hs=>by
   obtain ⟨q1,q2⟩:=zne (Can.own i h1) hs hpos
   exact zcg (P:=P) (v:=arrV l) h3 q2 (.inl ⟨rfl,by rw[z8,q1,h4],rfl⟩)⟩,h⟩
end
end Go.Proofs.YtfgjhefhlabpkaaGreat.Sl
