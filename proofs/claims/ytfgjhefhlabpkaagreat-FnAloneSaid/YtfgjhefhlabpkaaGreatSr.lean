/-
  The rules of the small separation logic, continued: memory, calls, results. Generic: no statement about a given function.
-/
import Derived.Test.YtfgjhefhlabpkaaGreatSl
namespace Go.Proofs.YtfgjhefhlabpkaaGreat.Sl
open Go Go.RowKit
def part (vs:List Value) (off sz:Nat) (ag:Bool):Option Value:=
 bif ag then (bif Nat.ble (off+sz) vs.length then some (.agg ((vs.drop off).take sz).toArray) else none) else vs[off]?
theorem zek {w0 w:World} {S0:List Nat} {is:List Item} {i b bt:Nat} {vs:List Value} (hs:St w0 S0 is w) (hi:is[i]? =some (.box b bt vs)):
 w.heap[b]? =some (.cells vs.toArray bt (0,0)):=by
 obtain ⟨_,_,_,_,_,S,hS,_,_⟩:=hs
 obtain ⟨A,hA,_⟩:=zcr hi hS
 exact hA.2
theorem add_lit (b k j:Nat):(⟨b,k,none⟩:Addr).add j=⟨b,k+j,none⟩:=by unfold Addr.add;split<;>simp_all
theorem add_add (a:Addr) (i j:Nat):(a.add i).add j=a.add (i+j):=by
 unfold Addr.add
 by_cases hi:i=0
 ·subst hi;simp
 ·by_cases hj:j=0
  ·subst hj;simp[hi]
  ·simp[hi,hj,Nat.add_assoc]
theorem zcg {P:Program} {w:World} {a:Addr} {t sz:Nat} {ag:Bool} {us:List Value} {v:Value} (hk:kindB P t=some (ag,sz)) (hc: ∀j,j<us.length→w.cell? (a.add j)=us[j]?)
 (hv:(ag=true∧us.length=sz∧v= .agg us.toArray)∨(ag=false∧us= [v])):(loadVar t a).run P w= .ok v w:=by
 obtain ⟨d,i,hu,hi,hsz,hag⟩:=zga hk
 rcases hv with ⟨rfl,hl,rfl⟩ | ⟨rfl,rfl⟩
 ·have hl':=run_loadCells_list (P:=P) (w:=w) a us (fun j v hv=>by
   rw[hc j (by rcases Nat.lt_or_ge j us.length with h | h;exact h;rw[List.getElem?_eq_none h]at hv;cases hv)];exact hv)
  simp only[loadVar,Sem.run_bind,hag,Result.andThen_ok,if_true,sizeOf,typeInfo,run_program,hi,Sem.run_pure,hsz]
  rw[←hl,hl']
  rfl
 ·have h0:=hc 0 (by simp)
  have ha:a.add 0=a:=by simp[Addr.add]
  rw[ha]at h0
  simp only[List.getElem?_cons_zero]at h0
  simp only[loadVar,Sem.run_bind,hag,Result.andThen_ok,Bool.false_eq_true,if_false]
  simp[load,Sem.run,h0]
section
variable {P:Program} {w0:World} {S0:List Nat} {R:Type} {m:Option R} {n:Nat} {fr:Fr} {is:List Item} {Q:R→Exit→Act→World→Prop}
variable {dst:Option Nat} {ty:TypeId} {pos:String} {aft:Array Edge} {gd:Option (Nat × Bool)}
theorem zma {w:World} {vs:List Value} {b bt off sz:Nat} {ag:Bool} {v:Value} (hh:w.heap[b]? =some (.cells vs.toArray bt (0,0))) (hp:part vs off sz ag=some v):
 ∃us:List Value,(∀j,j<us.length→w.cell? ((⟨b,off,none⟩:Addr).add j)=us[j]?)∧((ag=true∧us.length=sz∧v= .agg us.toArray)∨(ag=false∧us= [v])):=by
 unfold part at hp
 cases ag with
 | true=>
   simp only[cond_true]at hp
   cases hle:Nat.ble (off+sz) vs.length with
   | false=>rw[hle]at hp;cases hp
   | true=>
     rw[hle]at hp
     have hle':off+sz≤vs.length:=Nat.le_of_ble_eq_true hle
     simp only[cond_true,Option.some.injEq]at hp
     subst hp
     refine ⟨(vs.drop off).take sz,?_,.inl ⟨rfl,by simp;omega,rfl⟩⟩
     intro j hj
     have hj':j<sz:=by simp at hj;omega
     rw[add_lit,cell_of_row w b (off+j) _ bt (0,0) hh]
     simp[hj']
 | false=>
   simp only[cond_false]at hp
   refine ⟨[v],?_,.inr ⟨rfl,rfl⟩⟩
   intro j hj
   have:j=0:=by simpa using hj
   subst this
   rw[add_lit,cell_of_row w b (off+0) _ bt (0,0) hh]
   simpa using hp
theorem Y.load_box {x:Operand} {b off bt sz t:Nat} {vs:List Value} {v:Value} {ag:Bool} (i:Nat) (hk:kindB P t=some (ag,sz)) (hi:is[i]? =some (.box b bt vs))
 (hx:ev fr x=some (.pointer (some ⟨b,off,none⟩))) (hp:part vs off sz ag=some v):Y P w0 S0 n fr is ⟨dst,.load t x,ty,pos,aft,gd⟩ v:=by
 intro a w hf hs
 obtain ⟨us,h1,h2⟩:=zma (zek hs hi) hp
 have:=zcg (P:=P) hk h1 h2
 simp[execOp,hf.eval hx,Instr.loadAt,Instr.sureAddr,this]
theorem Y.field_box {x:Operand} {b k o j s f:Nat} (hfd:fieldB P s f=some o) (hj:Nat.add k o=j) (hx:ev fr x=some (.pointer (some ⟨b,k,none⟩))):
 Y P w0 S0 n fr is ⟨dst,.fieldAddr s x f,ty,pos,aft,gd⟩ (.pointer (some ⟨b,j,none⟩)):=by
 intro a w hf hs
 have hj':k+o=j:=hj
 unfold fieldB at hfd
 split at hfd
 ·rename_i fs hu
  split at hfd
  ·rename_i fd hfd1
   split at hfd
   ·rename_i jt hjt
    cases h0:Nat.beq jt.size 0 with
    | true=>rw[h0]at hfd;cases hfd
    | false=>
      rw[h0]at hfd
      have hne:jt.size≠0:=by intro h;rw[h]at h0;cases h0
      simp only[cond_false,Option.some.injEq]at hfd
      simp[execOp,hf.eval hx,Instr.fieldAt,run_underlying hu,hfd1,Instr.sureAddr,fieldPlace,sizeOf,typeInfo,hjt,hne,add_lit,hfd,hj']
   ·cases hfd
  ·cases hfd
 ·cases hfd
theorem Y.nilCheck {x:Operand} {a0:Addr} (hx:ev fr x=some (.pointer (some a0))):Y P w0 S0 n fr is ⟨dst,.nilCheck x,ty,pos,aft,gd⟩ (.pointer (some a0)):=by
 intro a w hf hs;simp[execOp,hf.eval hx]
theorem Y.extract {x:Operand} {vs:List Value} {k:Nat} {v:Value} (hx:ev fr x=some (.tuple vs.toArray)) (hv:vs[k]? =some v):Y P w0 S0 n fr is ⟨dst,.extract x k,ty,pos,aft,gd⟩ v:=by
 intro a w hf hs;simp[execOp,hf.eval hx,Instr.extract,hv]
theorem zfT {t:TypeId} {z:Value} (h:zeroB P t=some z) (w:World):(zeroValue t).run P w= .ok z w:=by
 unfold zeroB at h
 cases hi:P.info? t with
 | none=>rw[hi]at h;cases h
 | some i=>rw[hi]at h;simp only[Option.bind_some]at h;simp[zeroValue,typeInfo,hi,h]
def Ef (P:Program) (w0:World) (S0:List Nat) (n:Nat) (fr:Fr) (is:List Item) (o:Oper) {X:Type} (val:X→Value) (is':X→List Item):Prop:=
 ∀a w (K:Act→World→Prop) (Q:Exit→Act→World→Prop),FrOk n fr a→St w0 S0 is w→(∀x w',St w0 S0 (is' x) w'→K (a.put o.dst (val x)) w')→o.wp P a w K Q
theorem TO.ef {ops:Array Oper} {o:Oper} {rest:List Oper} {d:Nat} {X:Type} {val:X→Value} {is':X→List Item} (h1:Ef P w0 S0 n fr is o val is') (hg:Gd ops fr o true) (hd:o.dst=some d) (hn:Nat.blt d n=true)
 (h: ∀x,TO P w0 S0 m n ((d,val x)::fr) (is' x) ops rest Q):TO P w0 S0 m n fr is ops (o::rest) Q:=by
 intro r hr a w hf hs
 refine zkr (hg.wanted hf) fun K hK=>?_
 refine h1 a w K (Q r) hf hs fun x w' hs'=>?_
 rw[hd]
 exact hK _ _ (h x r hr _ _ (hf.put hn _) hs')
theorem TO.ef0 {ops:Array Oper} {o:Oper} {rest:List Oper} {X:Type} {val:X→Value} {is':X→List Item} (h1:Ef P w0 S0 n fr is o val is') (hg:Gd ops fr o true) (hd:o.dst=none)
 (h: ∀x,TO P w0 S0 m n fr (is' x) ops rest Q):TO P w0 S0 m n fr is ops (o::rest) Q:=by
 intro r hr a w hf hs
 refine zkr (hg.wanted hf) fun K hK=>?_
 refine h1 a w K (Q r) hf hs fun x w' hs'=>?_
 rw[hd]
 exact hK _ _ (h x r hr _ _ hf hs')
def One (w0:World) (S0:List Nat) (is:List Item) (v:Value):Prop:=∀w,St w0 S0 is w→v.oneCell'=true
theorem Rd.one {w:World} {v:Value} {c:C} {S:List Nat} (h:Rd w v c S):v.oneCell'=true:=by cases h<;>first | rfl | assumption
theorem One.plain {w0:World} {S0:List Nat} {is:List Item} {v:Value} (h:v.oneCell'=true):One w0 S0 is v:=fun _ _=>h
theorem One.can {w0:World} {S0:List Nat} {is:List Item} {v:Value} {c:C} (h:Can w0 S0 is v c):One w0 S0 is v:=fun _ hs=>(h.get hs).choose_spec.one
def Ones (w0:World) (S0:List Nat) (is:List Item):List Value→Prop
 | []=>True
 | v::r=>One w0 S0 is v∧Ones w0 S0 is r
theorem Ones.all {w0 w:World} {S0:List Nat} {is:List Item} (hs:St w0 S0 is w): ∀{us:List Value},Ones w0 S0 is us→∀u∈us,u.oneCell'=true
 | _::_,⟨h1,h2⟩,u,hu=>by
   rcases List.mem_cons.1 hu with rfl | hu
   ·exact h1 _ hs
   ·exact Ones.all hs h2 u hu
def Cel (w0:World) (S0:List Nat) (is:List Item) (v:Value) (us:List Value):Prop:=∀w,St w0 S0 is w→v.cells=us.toArray∧∀u∈us,u.oneCell'=true
theorem Cel.plain {w0:World} {S0:List Nat} {is:List Item} {v:Value} {us:List Value} (h:v.cells=us.toArray) (h1:us.all (·.oneCell')=true):Cel w0 S0 is v us:=
 fun _ _=>⟨h,List.all_eq_true.1 h1⟩
theorem Cel.one {w0:World} {S0:List Nat} {is:List Item} {v:Value} (h:One w0 S0 is v):Cel w0 S0 is v [v]:=by
 intro w hs
 have:=h w hs
 refine ⟨?_,by simpa using this⟩
 cases v<;>first | rfl | cases this
theorem Cel.agg {w0:World} {S0:List Nat} {is:List Item} {us:List Value} (h:Ones w0 S0 is us):Cel w0 S0 is (.agg us.toArray) us:=
 fun _ hs=>⟨rfl,h.all hs⟩
theorem Ef.newBox {o:Oper} {t:Nat} {zs:List Value} (hr: ∀a w,FrOk n fr a→St w0 S0 is w→(execOp a.eval o).run P w= .ok (.value (.pointer (some ⟨w.heap.size,0,none⟩))) (w.alloc (.cells zs.toArray t))):
 Ef P w0 S0 n fr is o (fun b:Nat=>.pointer (some ⟨b,0,none⟩)) (fun b=>.box b t zs::is):=by
 intro a w K Q hf hs hK
 unfold Oper.wp
 rw[hr a w hf hs]
 exact hK w.heap.size _ (hs.add (Chg.alloc w _ []) _ [w.heap.size] ⟨rfl,heap_alloc_new w _⟩ (by simp) (by simp))
theorem Ef.alloc {t:Nat} {z:Value} {zs:List Value} (hz:zeroB P t=some z) (hzs:z.cells=zs.toArray):
 Ef P w0 S0 n fr is ⟨dst,.alloc t,ty,pos,aft,gd⟩ (fun b:Nat=>.pointer (some ⟨b,0,none⟩)) (fun b=>.box b t zs::is):=by
 refine Ef.newBox fun a w hf _=>?_
 simp[execOp,Instr.alloc,zfT hz,newVar,newRow,hzs]
theorem Ef.box {t:Nat} {x:Operand} {v:Value} {zs:List Value} (hx:ev fr x=some v) (hzs:Cel w0 S0 is v zs):
 Ef P w0 S0 n fr is ⟨dst,.box t x,ty,pos,aft,gd⟩ (fun b:Nat=>.pointer (some ⟨b,0,none⟩)) (fun b=>.box b t zs::is):=by
 refine Ef.newBox fun a w hf hs=>?_
 simp[execOp,Instr.box,newVar,newRow,hf.eval hx,(hzs w hs).1]
def splice (vs:List Value) (off:Nat) (us:List Value):List Value:=vs.take off++us++vs.drop (off+us.length)
theorem St.upd {w w':World} {i:Nat} {it it':Item} (h:St w0 S0 is w) (hi:is[i]? =some it)
 (hs: ∀A,it.sat w A→A.Nodup→∃A',Chg w w' A∧it'.sat w' A'∧A'.Nodup∧∀b∈A',b∈A∨w.heap.size≤b):St w0 S0 (is.set i it') w':=by
 obtain ⟨os,tape,output,size,base,S,hS,hnd,hin⟩:=h
 have key: ∀(is:List Item) (i:Nat) (S:List Nat),is[i]? =some it→sats w is S→S.Nodup→
  ∃A S',it.sat w A∧(∀b∈A,b∈S)∧Chg w w' A∧sats w' (is.set i it') S'∧S'.Nodup∧∀b∈S',b∈S∨w.heap.size≤b:=by
  intro is
  induction is with
  | nil=>intro i S hi;simp at hi
  | cons x r ih=>
    intro i S hi hS hnd
    obtain ⟨A,B,rfl,h1,h2⟩:=hS
    obtain ⟨hA,hB,hdis⟩:=List.nodup_append.1 hnd
    cases i with
    | zero=>
      simp only[List.getElem?_cons_zero,Option.some.injEq]at hi
      subst hi
      obtain ⟨A',hc,h3,hnd',hsub⟩:=hs A h1 hA
      refine ⟨A,A'++B,h1,fun b hb=>List.mem_append.2 (.inl hb),hc,⟨A',B,rfl,h3,zfP h2 fun b hb=>hc.keep b (zfh h2 b hb) fun hbA=>hdis b hbA b hb rfl⟩,?_,?_⟩
      ·refine List.nodup_append.2 ⟨hnd',hB,fun x hx y hy hxy=>?_⟩
       subst hxy
       rcases hsub x hx with h | h
       ·exact hdis x h x hy rfl
       ·have:=zfh h2 x hy;omega
      ·intro b hb
       rcases List.mem_append.1 hb with hb | hb
       ·exact (hsub b hb).imp (fun h=>List.mem_append.2 (.inl h)) id
       ·exact .inl (List.mem_append.2 (.inr hb))
    | succ i=>
      simp only[List.getElem?_cons_succ]at hi
      obtain ⟨A2,S',h3,hsub,hc,h4,hnd',hS'⟩:=ih i B hi h2 hB
      refine ⟨A2,A++S',h3,fun b hb=>List.mem_append.2 (.inr (hsub b hb)),hc,⟨A,S',rfl,Item.sat_keep h1 fun b hb=>hc.keep b (Item.sat_lt h1 b hb) fun hb2=>hdis b hb b (hsub b hb2) rfl,h4⟩,?_,?_⟩
      ·refine List.nodup_append.2 ⟨hA,hnd',fun x hx y hy hxy=>?_⟩
       subst hxy
       rcases hS' x hy with h | h
       ·exact hdis x hx x h rfl
       ·have:=Item.sat_lt h1 x hx;omega
      ·intro b hb
       rcases List.mem_append.1 hb with hb | hb
       ·exact .inl (List.mem_append.2 (.inl hb))
       ·exact (hS' b hb).imp (fun h=>List.mem_append.2 (.inr h)) id
 obtain ⟨A,S',hA,hsub,hc,h4,hnd',hS'⟩:=key is i S hi hS hnd
 refine ⟨hc.os.trans os,hc.tape.trans tape,hc.output.trans output,Nat.le_trans size hc.size,?_,S',h4,hnd',?_⟩
 ·intro b hb hb0
  rw[hc.keep b (Nat.lt_of_lt_of_le hb size) fun hbA=>?_]
  ·exact base b hb hb0
  ·rcases hin b (hsub b hbA) with h | h
   ·exact hb0 h
   ·omega
 ·intro b hb
  rcases hS' b hb with h | h
  ·exact hin b h
  ·right;omega
theorem Chg.setRow (w:World) (g:Nat) (cs:Array Value):Chg w (w.setRow g cs) [g]:=
 ⟨rfl,rfl,rfl,by simp,fun b _ hb=>setRow_other w g b cs (by simpa using hb)⟩
theorem zeF {w:World} {b t off:Nat} {cur:Array Value} {ty:TypeId} {v:Value} {us:List Value} {ag:Bool} {sz:Nat} (hk:kindB P ty=some (ag,sz))
 (hh:w.heap[b]? =some (.cells cur t (0,0))) (hv:v.cells=us.toArray) (hl:Nat.beq us.length sz=true) (h1: ∀u∈us,u.oneCell'=true) (hle:off+us.length≤cur.size):
 (storeVar ty ⟨b,off,none⟩ v).run P w= .ok () (w.setRow b (splice cur.toList off us).toArray):=by
 obtain ⟨d,i,hu,hi,hsz,_⟩:=zga hk
 have hl':us.length=sz:=by simpa using hl
 have:=run_storeCells_at P b off t us 0 cur w hh (by omega) h1
 simp only[storeVar,Sem.run_bind,sizeOf,typeInfo,run_program,Result.andThen_ok,hi,Sem.run_pure,hv,hsz,List.size_toArray,hl',ne_eq,not_true_eq_false,if_false]
 simp only[Nat.add_zero]at this
 simpa[splice] using this
theorem Ef.store_box {x y:Operand} {b off bt sz t:Nat} {vs us vs':List Value} {v:Value} {ag:Bool} (i:Nat) (hk:kindB P t=some (ag,sz)) (hi:is[i]? =some (.box b bt vs))
 (hx:ev fr x=some (.pointer (some ⟨b,off,none⟩))) (hy:ev fr y=some v) (hv:Cel w0 S0 is v us) (hl:Nat.beq us.length sz=true)
 (hle:Nat.ble (off+us.length) vs.length=true) (hs:splice vs off us=vs') {is':List Item} (his:is.set i (.box b bt vs')=is'):
 Ef P w0 S0 n fr is ⟨none,.store t x y,ty,pos,aft,gd⟩ (fun _:Unit=>undef) (fun _=>is'):=by
 intro a w K Q hf hst hK
 have hh:=zek hst hi
 obtain ⟨hv1,h1⟩:=hv w hst
 have hrun:=zeF (P:=P) hk hh hv1 hl h1 (by simpa using Nat.le_of_ble_eq_true hle)
 have he:(execOp a.eval ⟨none,.store t x y,ty,pos,aft,gd⟩).run P w= .ok .skip (w.setRow b vs'.toArray):=by
  simp only[hs]at hrun
  simp[execOp,hf.eval hx,hf.eval hy,Instr.storeAt,Instr.sureAddr,hrun]
 unfold Oper.wp
 rw[he]
 refine hK () _ ?_
 subst his
 refine hst.upd hi fun A hA hnd=>⟨[b],?_,⟨rfl,?_⟩,by simp,fun x hx=>.inl (by rw[hA.1];exact hx)⟩
 ·rw[hA.1];exact Chg.setRow w b _
 ·exact setRow_heap w b _ _ bt _ hh
end
def Con (P:Program) (f:FuncId) (args:List Value) (pre:List Item) (rds:List (Value × C)) {X:Type} (val:X→Value) (post:X→List Item):Prop:=
 ∀w S,St w S pre w→(∀p∈rds,Base w S p.1 p.2)→Calls P f args.toArray w (fun e w'=>∃x,e= .returned (val x)∧St w S (post x) w')
def callB (P:Program) (f:FuncId):Bool:=match P.funcs[f]? with | some fn=>fn.name != "runtime.NumGoroutine" &&fn.body.isSome | none=>false
theorem zjN {P:Program} {f:FuncId} (h:callB P f=true) (args:Array Value) (w:World):(callFunc f args).run P w= .ok (.enter f args) w:=by
 unfold callB at h
 split at h
 ·rename_i fn hf
  simp only[Bool.and_eq_true,bne_iff_ne,ne_eq]at h
  obtain ⟨h1,h2⟩:=h
  cases hb:fn.body with
  | none=>rw[hb]at h2;cases h2
  | some c=>simp[callFunc,hf,h1,hb]
 ·cases h
theorem St.frame {w0 w:World} {S0:List Nat} {pre rest:List Item} (h:St w0 S0 (pre++rest) w):
 ∃A,St w A pre w∧(∀v c,Can w0 S0 rest v c→Base w A v c)∧∀post w',St w A post w'→St w0 S0 (post++rest) w':=by
 obtain ⟨os,tape,output,size,base,S,hS,hnd,hin⟩:=h
 obtain ⟨A,B,rfl,h1,h2⟩:=zcv.1 hS
 obtain ⟨hA,hB,hdis⟩:=List.nodup_append.1 hnd
 have hAlt:=zfh h1
 have hBlt:=zfh h2
 refine ⟨A,St.start h1 hA,?_,?_⟩
 ·intro v c hc
  obtain ⟨F,hF,hn⟩:=hc w B h2 base
  refine ⟨F,hF,fun b hb hbA=>?_⟩
  rcases hn b hb with ⟨h3,h4⟩ | h3
  ·rcases hin b (List.mem_append.2 (.inl hbA)) with h | h
   ·exact h4 h
   ·omega
  ·exact hdis b hbA b h3 rfl
 ·intro post w' ⟨os',tape',output',size',base',S',hS',hnd',hin'⟩
  have hB':sats w' rest B:=zfP h2 fun b hb=>base' b (hBlt b hb) fun hbA=>hdis b hbA b hb rfl
  refine ⟨os'.trans os,tape'.trans tape,output'.trans output,Nat.le_trans size size',?_,S'++B,zcv.2 ⟨S',B,rfl,hS',hB'⟩,?_,?_⟩
  ·intro b hb hb0
   rw[base' b (Nat.lt_of_lt_of_le hb size) fun hbA=>?_]
   ·exact base b hb hb0
   ·rcases hin b (List.mem_append.2 (.inl hbA)) with h | h
    ·exact hb0 h
    ·omega
  ·refine List.nodup_append.2 ⟨hnd',hB,fun x hx y hy hxy=>?_⟩
   subst hxy
   rcases hin' x hx with h | h
   ·exact hdis x h x hy rfl
   ·have:=hBlt x hy;omega
  ·intro b hb
   rcases List.mem_append.1 hb with hb | hb
   ·rcases hin' b hb with h | h
    ·exact hin b (List.mem_append.2 (.inl h))
    ·right;omega
   ·exact hin b (List.mem_append.2 (.inr hb))
section
variable {P:Program} {w0:World} {S0:List Nat} {R:Type} {m:Option R} {n:Nat} {fr:Fr} {is:List Item} {Q:R→Exit→Act→World→Prop}
variable {ty:TypeId} {pos:String} {aft:Array Edge}
def Cans (w0:World) (S0:List Nat) (is:List Item):List (Value × C)→Prop
 | []=>True
 | (v,c)::r=>Can w0 S0 is v c∧Cans w0 S0 is r
theorem Cans.mem {w0:World} {S0:List Nat} {is:List Item} : ∀{l:List (Value × C)},Cans w0 S0 is l→∀p∈l,Can w0 S0 is p.1 p.2
 | _::_,⟨h1,h2⟩,p,hp=>by
   rcases List.mem_cons.1 hp with rfl | hp
   ·exact h1
   ·exact Cans.mem h2 p hp
theorem Ef.call {X:Type} {val:X→Value} {post:X→List Item} {pre rest:List Item} {rds:List (Value × C)} {f:FuncId} {os:List Operand} {args:List Value} {ats:Array TypeId}
 {dst:Option Nat} {gd:Option (Nat × Bool)} (ks:List Nat) (hc:Con P f args pre rds val post) (hb:callB P f=true) (ha:evs fr os=some args) (hp:pulls ks is=some (pre++rest))
 (hr:Cans w0 S0 rest rds):Ef P w0 S0 n fr is ⟨dst,.call {callee:=.value (.func f),args:=os.toArray,argTypes:=ats},ty,pos,aft,gd⟩ val (fun x=>post x++rest):=by
 intro a w K Q hf hs hK
 obtain ⟨A,hA,hrd,hback⟩:=(hs.pulls ks hp).frame
 have hcall:=hc w A hA fun p hp=>hrd _ _ (hr.mem p hp)
 have he:(execOp a.eval ⟨dst,.call {callee:=.value (.func f),args:=os.toArray,argTypes:=ats},ty,pos,aft,gd⟩).run P w= .ok (.enter f args.toArray) w:=by
  simp[execOp,resolve,Act.eval,Deferred.ofValue,invoke,←hf.evals ha,zjN hb]
 unfold Oper.wp
 rw[he]
 refine hcall.mono ?_
 rintro e w' ⟨x,rfl,hst⟩
 exact hK x _ (hback _ _ hst)
end
theorem Con.intro {P:Program} {f:FuncId} {fn:Func} {c:Code} {args:List Value} {pre:List Item} {rds:List (Value × C)} {X R:Type} {n:Nat} {val:R→X→Value} {post:R→X→List Item} {m:Option R} {r:R}
 (hf:P.funcs[f]? =some fn) (hb:fn.body=some c) (hn:fn.ntmps=n) (hl:Nat.ble args.length n=true) (hm:m=some r)
 (h: ∀w S,(∀p∈rds,Base w S p.1 p.2)→TW P w S m n (argFr 0 args) pre c (fun r=>bodyPost P fn (fun e w'=>∃x,e= .returned (val r x)∧St w S (post r x) w'))):
 Con P f args pre rds (val r) (post r):=by
 subst hn
 intro w S hs hrd
 refine calls_of_wp hf hb ?_
 exact h w S hrd r hm _ w (FrOk.enter args fn.ntmps (Nat.le_of_ble_eq_true hl)) hs
def RV (P:Program) (fr:Fr) (is:List Item):List ResultVar→List Value→Prop
 | [],[]=>True
 | .tmp t::r,v::vs=>lk t fr=some v∧RV P fr is r vs
 | .cell p t::r,v::vs=>(∃a0:Addr,lk p fr=some (.pointer (some a0))∧∀(w0:World) (S0:List Nat) (w:World),St w0 S0 is w→(loadVar t a0).run P w= .ok v w)∧RV P fr is r vs
 | _,_=>False
theorem RV.cell {P:Program} {fr:Fr} {is:List Item} {p t b off bt sz:Nat} {us:List Value} {ag:Bool} {v:Value} {r:List ResultVar} {vs:List Value} (i:Nat) (h1:is[i]? =some (.box b bt us))
 (h2:lk p fr=some (.pointer (some ⟨b,off,none⟩))) (h3:kindB P t=some (ag,sz)) (h4:part us off sz ag=some v) (h:RV P fr is r vs):RV P fr is (.cell p t::r) (v::vs):=
 ⟨⟨_,h2,fun w0 S0 w hs=>by
   obtain ⟨cs,h6,h7⟩:=zma (zek hs h1) h4
   exact zcg (P:=P) h3 h6 h7⟩,h⟩
def resF (a:Act) (x:ResultVar):Sem Value:=
 match x with
 | .tmp t=>pure (a.tmps.getD t undef)
 | .cell p t=>do loadVar t (←asAddr (a.tmps.getD p undef))
theorem zgu {P:Program} {w0 w:World} {S0:List Nat} {n:Nat} {fr:Fr} {is:List Item} {a:Act} (hf:FrOk n fr a) (hs:St w0 S0 is w): ∀{rs:List ResultVar} {vs:List Value},RV P fr is rs vs→
 (rs.mapM (resF a)).run P w= .ok vs w
 | [],[],_=>by simp
 | ResultVar.tmp t::r,v::vs,⟨h1,h2⟩=>by
   have:=zgu hf hs h2
   have hv:a.tmps.getD t undef=v:=by rw[Array.getD_eq_getD_getElem?,hf.get t v h1];rfl
   simp only[List.mapM_cons,Sem.run_bind,resF,hv,Sem.run_pure,Result.andThen_ok,this]
 | ResultVar.cell p t::r,v::vs,⟨⟨a0,h3,h4⟩,h2⟩=>by
   have:=zgu hf hs h2
   have hv:a.tmps.getD p undef= .pointer (some a0):=by rw[Array.getD_eq_getD_getElem?,hf.get p _ h3];rfl
   have hl:=h4 _ _ w hs
   simp only[List.mapM_cons,Sem.run_bind,resF,hv,asAddr,Sem.run_pure,Result.andThen_ok,hl,this]
def retV:List Value→Value
 | [v]=>v
 | vs=>.tuple vs.toArray
theorem zS {P:Program} {w0 w:World} {S0:List Nat} {n:Nat} {fr:Fr} {is:List Item} {a:Act} {fn:Func} {rs:List ResultVar} {vs:List Value} {K:Ending→World→Prop} {e:Exit} (he:e= .ret∨e= .normal) (hres:fn.results=rs.toArray)
 (hrv:RV P fr is rs vs) (hf:FrOk n fr a) (hs:St w0 S0 is w) (hK:K (.returned (retV vs)) w):bodyPost P fn K e a w:=by
 have h3:=zgu hf hs hrv
 have hr:(results fn a.tmps).run P w= .ok (retV vs) w:=by
  have h4:results fn a.tmps=(do let vs ←fn.results.mapM (resF a);pure (if h:vs.size=1 then vs[0] else .tuple vs)):=rfl
  rw[h4,hres]
  simp only[Sem.run_bind,List.mapM_toArray,Sem.run_map,h3,Result.andThen_ok,Sem.run_pure]
  congr 1
  match vs with
  | []=>rfl
  | [v]=>rfl
  | v::u::r=>simp[retV]
 rcases he with rfl | rfl
 ·exact ⟨hf.defers,_,hr,hK⟩
 ·exact ⟨hf.defers,_,hr,hK⟩
end Go.Proofs.YtfgjhefhlabpkaaGreat.Sl
