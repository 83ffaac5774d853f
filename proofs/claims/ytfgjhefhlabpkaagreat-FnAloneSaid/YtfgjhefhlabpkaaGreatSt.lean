/-
  Strings made of bytes: a string's bytes appended to bytes of one's own, a place compared with nil or with itself, the place of one's own as it goes through unsafe.Pointer, a string made of bytes of one's own. Generic: no statement about a given function.
-/
import Derived.Test.YtfgjhefhlabpkaaGreatSq
import Derived.Lib.Builder
import Derived.Lib.UnsafeStr
import Derived.Laws.Externs
namespace Go.Proofs.YtfgjhefhlabpkaaGreat.Sl
open Go RowKit
section
variable {P:Program} {w0:World} {S0:List Nat} {n:Nat} {fr:Fr} {is:List Item} {dst:Option Nat} {ty:TypeId} {pos:String} {aft:Array Edge} {gd:Option (Nat × Bool)}
theorem append_room_str {w:World} {t u e e':TypeId} {i:TypeInfo} (ht:P.underlying t=some (.slice e)) (hu:P.underlying u=some .string) (hi:P.info? e=some i) (hs1:i.size=1)
 (g sLen sCap:Nat) (cur:Array Value) (hg:w.heap[g]? =some (.cells cur e' (0,0))) (s:ByteArray) (hroom:sLen+s.size≤sCap) (hfit:sLen+s.size≤cur.size):
 (Builtin.append_ #[t,u] ty #[.slice (some ⟨g,0,none⟩) sLen sCap,.string s]).run P w=
   .ok (.slice (some ⟨g,0,none⟩) (sLen+s.size) sCap) (w.setRow g (cur.toList.take sLen++Lib.strCells s++cur.toList.drop (sLen+s.size)).toArray):=by
 have hf:=Lib.run_firstCells_string (P:=P) w 1 s
 have hst:=run_storeCells_at P g sLen e' (Lib.strCells s) 0 cur w hg (by simpa[Lib.strCells_length] using hfit) (Lib.strCells_oneCell s)
 simp only[Nat.add_zero,Lib.strCells_length]at hst
 simp[Builtin.append_,run_underlying ht,run_underlying hu,sizeOf,typeInfo,hi,hs1,Builtin.lenOf,hroom,hf,Addr.add_lit,hst]
theorem append_str_raw {w:World} {t u e:TypeId} {ti:TypeInfo} (ht:P.underlying t=some (.slice e)) (hu:P.underlying u=some .string) (hti:P.info? e=some ti) (hzi:ti.zero=some (.int .u8 0)) (hsz:ti.size=1) (hby:ti.bytes=1)
 {v:Value} {n:Nat} {us:List Value} (hown:w.ownsRow 0 e 1 v n us) (s:ByteArray) (h63:n+s.size≤9223372036854775807) (hb:n+s.size≤140737488355328):
 ∃v' w',(Builtin.append_ #[t,u] ty #[v,.string s]).run P w= .ok v' w'∧w'.ownsRow 0 e 1 v' (n+s.size) (us++Lib.strCells s)∧w.grownBy w' v.ownBlock∧∀b∈v'.ownBlock.toList,b∈v.ownBlock.toList∨w.heap.size≤b:=by
 rcases hown.2 with ⟨rfl,rfl⟩ | ⟨g,cap,cur,rfl,_,hg,hnc,hcm,hcs,htake⟩
 ·have hx:us= []:=List.eq_nil_of_length_eq_zero (by simpa using hown.1)
  subst hx
  obtain ⟨v',w',e1,e2,e3,e4⟩:=Lib.run_append_own_string (P:=P) w 0 t u ty e ti ht hu hti hzi hsz hby (.slice none 0 0) 0 [] (World.ownsRow_nil w 0 e 1) s (by simp only[maxLen];exact h63) hb (Nat.zero_le _)
  refine ⟨v',w',e1,e2,e3,?_⟩
  intro b hb'
  have hob:=zgb hb'
  by_cases hm:s.size=0
  ·rw[e4.2 ⟨rfl,hm⟩]at hob
   simp[Value.ownBlock]at hob
  ·have hr:=run_append_nil_string (P:=P) w t u ty e ti (.int .u8 0) ht hu hti hzi s (by omega) (by omega) (by rw[hby];omega)
   rw[e1]at hr
   simp only[Result.ok.injEq]at hr
   rw[hr.1]at hob
   simp only[Value.ownBlock,Option.some.injEq]at hob
   right;omega
 ·have hul:us.length=n:=by simpa using hown.1
  have hlen:(us++Lib.strCells s).length=(n+s.size)*1:=by rw[List.length_append,hul,Lib.strCells_length,Nat.mul_one]
  by_cases hroom:n+s.size≤cap
  ·have hcs':cur.size=cap:=by simpa using hcs
   have hr:=append_room_str (P:=P) (ty:=ty) ht hu hti hsz g n cap cur hg s hroom (by omega)
   refine ⟨_,_,hr,⟨hlen,.inr ⟨g,cap,_,rfl,Nat.zero_le _,setRow_heap w g cur _ e _ hg,hroom,hcm,?_,?_⟩⟩,⟨rfl,rfl,rfl,by simp,fun k _ hk=>setRow_other w g k _ (fun e=>hk (by simp[Value.ownBlock,e]))⟩,fun b hb=>.inl hb⟩
   ·simp only[List.size_toArray,List.length_append,List.length_take,List.length_drop,Array.length_toList,Lib.strCells_length]
    omega
   ·have ht':cur.toList.take n=us:=by simpa using htake
    rw[ht',←hlen]
    exact List.take_left
  ·have holds: ∀j u,us[j]? =some u→w.cell? ((⟨g,0,none⟩:Addr).add j)=some u:=hown.cells (g:=g) rfl
   have hr:=Lib.run_append_grow_string (P:=P) w t u ty e ti (.int .u8 0) ht hu hti hzi ⟨g,0,none⟩ n cap us (by rw[hsz];simpa using hul) holds s (by omega) (by omega) (by rw[hby];exact growslice_fits (by omega) (by omega))
   refine ⟨_,_,hr,⟨hlen,.inr ⟨w.heap.size,_,_,rfl,Nat.zero_le _,heap_alloc_new w.drew _,grownCap_ge w (n+s.size) cap e,grownCap_le_maxLen w (n+s.size) cap e (by simp only[maxLen];exact h63),?_,?_⟩⟩,⟨rfl,rfl,rfl,by simp,fun k hk _=>heap_alloc_old w.drew _ hk⟩,fun b hb'=>?_⟩
   ·have hge:=grownCap_ge w (n+s.size) cap e
    have hz1:(Value.int IntKind.u8 0).cells.size=1:=rfl
    simp only[Array.size_append,List.size_toArray,size_zeroCells,hz1,hul,Lib.strCells_length]
    omega
   ·simp only[Array.toList_append,List.append_assoc]
    rw[←List.append_assoc,←hlen]
    exact List.take_left
   ·have hob:=zgb hb'
    simp only[Value.ownBlock,Option.some.injEq]at hob
    right;omega
theorem Buf.own {w:World} {v:Value} {e:TypeId} {l:List UInt8} {S:List Nat} (h:Buf w v e l S):w.ownsRow 0 e 1 v l.length (l.map fun x=>Value.int .u8 x.toNat)∧S=v.ownBlock.toList:=by
 rcases h with ⟨rfl,rfl,rfl⟩ | ⟨g,cap,cur,rfl,h2,h3,h4,h5,h6,rfl⟩
 ·exact ⟨World.ownsRow_nil w 0 e 1,rfl⟩
 ·refine ⟨⟨by simp,.inr ⟨g,cap,cur,rfl,Nat.zero_le _,h2,h3,h4,by omega,by rw[Nat.mul_one];exact h6⟩⟩,rfl⟩
theorem Buf.of_own {w:World} {v:Value} {e:TypeId} {l:List UInt8} (h:w.ownsRow 0 e 1 v l.length (l.map fun x=>Value.int .u8 x.toNat)):Buf w v e l v.ownBlock.toList:=by
 rcases h.2 with ⟨rfl,h0⟩ | ⟨g,cap,cur,rfl,_,hg,hnc,hcm,hcs,htake⟩
 ·exact .inl ⟨rfl,List.eq_nil_of_length_eq_zero h0,rfl⟩
 ·refine .inr ⟨g,cap,cur,rfl,hg,hnc,hcm,by omega,by rw[Nat.mul_one]at htake;exact htake,rfl⟩
theorem append_go_str {t t2 e:Nat} {l k r:List UInt8} {v:Value} {is':List Item} {w:World} (hs':St w0 S0 (.buf v e l::is') w)
 (hr:app 1 l k=some r) (he:elemB P t=some (e,1,1)) (ht2:isStrB P t2=true) (hz:zeroB P e=some (.int .u8 0)):
 ∃v' w',(Builtin.append_ #[t,t2] ty #[v,strV k]).run P w= .ok v' w'∧St w0 S0 (.buf v' e r::is') w':=by
 obtain ⟨hu,ti,hti,hsz',hby⟩:=zJ he
 have hu2:P.underlying t2=some .string:=by unfold isStrB at ht2;split at ht2<;>simp_all
 obtain ⟨rfl,hb1,hb2⟩:=zjK hr
 have hzi:ti.zero=some (.int .u8 0):=by unfold zeroB at hz;rw[hti]at hz;simpa using hz
 obtain ⟨os,tape,output,size,base,S,hS,hnd,hin⟩:=hs'
 obtain ⟨A,B,hAB,hA,hB⟩:=hS
 obtain ⟨hown,hAT⟩:=Buf.own hA
 have hk:(⟨k.toArray⟩:ByteArray).size=k.length:=by simp[ByteArray.size]
 obtain ⟨v',w',h1,h2,h3,h4⟩:=append_str_raw (P:=P) (ty:=ty) hu hu2 hti hzi hsz' hby hown ⟨k.toArray⟩ (by rw[hk];exact hb2) (by rw[hk];omega)
 have hvals:(l.map fun x=>Value.int .u8 x.toNat)++Lib.strCells ⟨k.toArray⟩=(l++k).map fun x=>Value.int .u8 x.toNat:=by
  rw[List.map_append];rfl
 rw[hk,hvals,←List.length_append]at h2
 refine ⟨v',w',h1,?_⟩
 have hlc:Buf w' v' e (l++k) v'.ownBlock.toList:=Buf.of_own h2
 have hndv: ∀q:Value,q.ownBlock.toList.Nodup:=by intro q;cases q.ownBlock<;>simp
 obtain ⟨hndA,hndB,hdis⟩:=List.nodup_append.1 (hAB ▸ hnd)
 have hBlt:=zfh hB
 have hAin: ∀b∈v.ownBlock.toList,b∈A:=fun b hb=>by rw[hAT];exact hb
 have hc:=Chg.of_grown h3 A hAin
 refine ⟨hc.os.trans os,hc.tape.trans tape,hc.output.trans output,Nat.le_trans size hc.size,?_,v'.ownBlock.toList++B,⟨_,B,rfl,hlc,zfP hB fun b hb=>hc.keep b (hBlt b hb) fun hbA=>hdis b hbA b hb rfl⟩,?_,?_⟩
 ·intro b hb hb0
  rw[hc.keep b (Nat.lt_of_lt_of_le hb size) fun hbA=>?_]
  ·exact base b hb hb0
  ·rcases hin b (by rw[hAB];exact List.mem_append.2 (.inl hbA)) with h | h
   ·exact hb0 h
   ·omega
 ·refine List.nodup_append.2 ⟨hndv _,hndB,fun x hx y hy hxy=>?_⟩
  subst hxy
  rcases h4 x hx with h | h
  ·exact hdis x (hAin x h) x hy rfl
  ·have:=hBlt x hy;omega
 ·intro b hb
  rcases List.mem_append.1 hb with hb | hb
  ·rcases h4 b hb with h | h
   ·exact hin b (by rw[hAB];exact List.mem_append.2 (.inl (hAin b h)))
   ·right;omega
  ·exact hin b (by rw[hAB];exact List.mem_append.2 (.inr hb))
theorem Ef.bufAppend {d:Option Nat} {t t2 e:Nat} {x y:Operand} {l k r:List UInt8} {v:Value} {is':List Item}
 (ks:List Nat) (hr:app 1 l k=some r) (he:elemB P t=some (e,1,1)) (ht2:isStrB P t2=true) (hz:zeroB P e=some (.int .u8 0))
 (hp:pulls ks is=some (.buf v e l::is')) (hx:ev fr x=some v) (hy:ev fr y=some (strV k)):
 Ef P w0 S0 n fr is ⟨d,.call {callee:=.builtin .append,args:=#[x,y],argTypes:=#[t,t2]},ty,pos,aft,gd⟩ (fun v':Value=>v') (fun v'=>.buf v' e r::is'):=by
 intro a w K Q hf hs hK
 obtain ⟨v',w',h1,h2⟩:=append_go_str (ty:=ty) (hs.pulls ks hp) hr he ht2 hz
 have hrun:(execOp a.eval ⟨d,.call {callee:=.builtin .append,args:=#[x,y],argTypes:=#[t,t2]},ty,pos,aft,gd⟩).run P w= .ok (.value v') w':=by
  simp[execOp,resolve,invoke,builtin,hf.eval hx,hf.eval hy,h1]
 unfold Oper.wp
 rw[hrun]
 exact hK v' w' h2
theorem Ef.bufNew {d:Option Nat} {t t2 e:Nat} {x y:Operand} {k r:List UInt8}
 (hr:app 1 [] k=some r) (he:elemB P t=some (e,1,1)) (ht2:isStrB P t2=true) (hz:zeroB P e=some (.int .u8 0)) (hx:ev fr x=some (.slice none 0 0)) (hy:ev fr y=some (strV k)):
 Ef P w0 S0 n fr is ⟨d,.call {callee:=.builtin .append,args:=#[x,y],argTypes:=#[t,t2]},ty,pos,aft,gd⟩ (fun v':Value=>v') (fun v'=>.buf v' e r::is):=by
 intro a w K Q hf hs hK
 have h0:St w0 S0 (.buf (.slice none 0 0) e []::is) w:=hs.add (Chg.refl w []) _ [] (.inl ⟨rfl,rfl,rfl⟩) (by simp) (by simp)
 obtain ⟨v',w',h1,h2⟩:=append_go_str (ty:=ty) h0 hr he ht2 hz
 have hrun:(execOp a.eval ⟨d,.call {callee:=.builtin .append,args:=#[x,y],argTypes:=#[t,t2]},ty,pos,aft,gd⟩).run P w= .ok (.value v') w':=by
  simp[execOp,resolve,invoke,builtin,hf.eval hx,hf.eval hy,h1]
 unfold Oper.wp
 rw[hrun]
 exact hK v' w' h2
theorem ixor8 (p q:UInt8):ixor .u8 ((p.toNat:Nat):Int) ((q.toNat:Nat):Int)=(((p ^^^ q).toNat:Nat):Int):=by
 have hp:=p.toNat_lt
 have hq:=q.toNat_lt
 have hx:=Nat.xor_lt_two_pow (n:=8) hp hq
 unfold ixor
 have e:(BitVec.ofInt IntKind.u8.bits ((p.toNat:Nat):Int) ^^^ BitVec.ofInt IntKind.u8.bits ((q.toNat:Nat):Int)).toNat=p.toNat ^^^ q.toNat:=by
  show (BitVec.ofInt 8 ((p.toNat:Nat):Int) ^^^ BitVec.ofInt 8 ((q.toNat:Nat):Int)).toNat=p.toNat ^^^ q.toNat
  rw[BitVec.ofInt_natCast,BitVec.ofInt_natCast,BitVec.toNat_xor,BitVec.toNat_ofNat,BitVec.toNat_ofNat,Nat.mod_eq_of_lt (by omega),Nat.mod_eq_of_lt (by omega)]
 rw[e,UInt8.toNat_xor]
 simp[IntKind.wrap,IntKind.bits,IntKind.signed]
 omega
theorem Y.xor8 {x y:Operand} {t:TypeId} {t':TypeId} {p q:UInt8} (hx:ev fr x=some (.int .u8 ((p.toNat:Nat):Int))) (hy:ev fr y=some (.int .u8 ((q.toNat:Nat):Int))):
 Y P w0 S0 n fr is ⟨dst,.binOp .xor t x y t',ty,pos,aft,gd⟩ (.int .u8 (((p ^^^ q).toNat:Nat):Int)):=by
 rw[←ixor8]
 exact Y.xor hx hy
def ptrB (P:Program) (t:TypeId):Option (TypeId × Nat):=match P.underlying t with
 | some (.pointer e)=>(P.info? e).map fun i=>(e,i.size)
 | _=>none
theorem zfN {t e k:Nat} (h:ptrB P t=some (e,k)):P.underlying t=some (.pointer e)∧∃j,P.info? e=some j∧j.size=k:=by
 unfold ptrB at h
 split at h
 ·rename_i e' hu
  cases hj:P.info? e' with
  | none=>rw[hj]at h;cases h
  | some j=>
    rw[hj]at h
    simp only[Option.map_some,Option.some.injEq,Prod.mk.injEq]at h
    obtain ⟨rfl,rfl⟩:=h
    exact ⟨hu,j,hj,rfl⟩
 ·cases h
theorem Y.ptr_nil {x y:Operand} {t e k:Nat} {t':TypeId} (h:ptrB P t=some (e,k)) (hx:ev fr x=some (.pointer none)) (hy:ev fr y=some (.pointer none)):
 Y P w0 S0 n fr is ⟨dst,.binOp .eql t x y t',ty,pos,aft,gd⟩ (.bool true):=by
 obtain ⟨hu,j,hj,_⟩:=zfN h
 intro a w hf _
 have h1: ∀d:Nat,(Op.equalIn (d+1) t (.pointer none) (.pointer none)).run P w= .ok true w:=fun d=>by simp[Op.equalIn,run_underlying hu]
 simp[execOp,hf.eval hx,hf.eval hy,eqGuard,binOp,Op.equal,Op.maxDepth,h1 9999]
theorem Y.ptr_some {x y:Operand} {t e k:Nat} {t':TypeId} {b:Addr} (h:ptrB P t=some (e,k)) (hx:ev fr x=some (.pointer (some b))) (hy:ev fr y=some (.pointer none)):
 Y P w0 S0 n fr is ⟨dst,.binOp .eql t x y t',ty,pos,aft,gd⟩ (.bool false):=by
 obtain ⟨hu,j,hj,_⟩:=zfN h
 intro a w hf _
 have h1: ∀d:Nat,(Op.equalIn (d+1) t (.pointer (some b)) (.pointer none)).run P w= .ok false w:=fun d=>by simp[Op.equalIn,run_underlying hu]
 simp[execOp,hf.eval hx,hf.eval hy,eqGuard,binOp,Op.equal,Op.maxDepth,h1 9999]
theorem Y.ptr_self {x y:Operand} {t e k:Nat} {t':TypeId} {b:Addr} (h:ptrB P t=some (e,k)) (hx:ev fr x=some (.pointer (some b))) (hy:ev fr y=some (.pointer (some b))):
 Y P w0 S0 n fr is ⟨dst,.binOp .neq t x y t',ty,pos,aft,gd⟩ (.bool false):=by
 obtain ⟨hu,j,hj,_⟩:=zfN h
 intro a w hf _
 have h2:=Lib.run_neq_ptr_same (P:=P) w b hu hj
 simp[execOp,hf.eval hx,hf.eval hy,eqGuard,h2]
def unsB (P:Program) (t:TypeId):Bool:=match P.underlying t with
 | some .unsafePointer=>true
 | _=>false
theorem znJ {t:Nat} (h:unsB P t=true):P.underlying t=some .unsafePointer:=by unfold unsB at h;split at h<;>simp_all
theorem znf {w:World} {i b t:Nat} {vs:List Value} (hs:St w0 S0 is w) (hi:is[i]? =some (.box b t vs)):w.shape? b=some (t,vs.length):=by
 have:=zek hs hi
 simp[World.shape?,this]
theorem Y.toUnsafe {x:Operand} {src tgt e k b t:Nat} {vs:List Value} (i:Nat) (h1:ptrB P src=some (e,k)) (h0:Nat.beq k 0=false) (h2:unsB P tgt=true) (hi:is[i]? =some (.box b t vs)) (hl:Nat.blt 0 vs.length=true)
 (hx:ev fr x=some (.pointer (some ⟨b,0,none⟩))):Y P w0 S0 n fr is ⟨dst,.convert src tgt x,ty,pos,aft,gd⟩ (.pointer (some ⟨b,0,none⟩)):=by
 obtain ⟨hu,j,hj,hk⟩:=zfN h1
 intro a w hf hs
 have hsh:=znf hs hi
 have hr:=Lib.run_to_unsafe (P:=P) w ⟨b,0,none⟩ hu (znJ h2) hj (by rw[hk];intro e;rw[e]at h0;cases h0) hsh (by simpa using hl)
 simp[execOp,hf.eval hx,hr]
theorem Y.fromUnsafe {x:Operand} {src tgt e k b t:Nat} {vs:List Value} (i:Nat) (h1:ptrB P tgt=some (e,k)) (h2:unsB P src=true) (hi:is[i]? =some (.box b t vs)) (hl:liesAt P P.depth t (vs.length / P.cellsOf t) 0 e 1=true)
 (hx:ev fr x=some (.pointer (some ⟨b,0,none⟩))):Y P w0 S0 n fr is ⟨dst,.convert src tgt x,ty,pos,aft,gd⟩ (.pointer (some ⟨b,0,none⟩)):=by
 obtain ⟨hu,j,hj,hk⟩:=zfN h1
 intro a w hf hs
 have hsh:=znf hs hi
 have hr:=Lib.run_from_unsafe (P:=P) w ⟨b,0,none⟩ (znJ h2) hu hj hsh hl
 simp[execOp,hf.eval hx,hr]
theorem Y.noEscape {f:FuncId} {fn:Func} {x:Operand} {v:Value} {ts:Array TypeId} (hf0:P.funcs[f]? =some fn) (hname:(fn.name == "runtime.NumGoroutine")=false) (hb:fn.body.isNone=true) (hn:Extern.findNext fn=none) (he:Extern.find fn=some Extern.AbiNoEscape.same)
 (hx:ev fr x=some v):Y P w0 S0 n fr is ⟨dst,.call {callee:=.value (.func f),args:=#[x],argTypes:=ts},ty,pos,aft,gd⟩ v:=by
 intro a w hf _
 have h1:=run_callFunc_extern hf0 hname hb hn he #[v] w
 rw[Lib.run_noEscape]at h1
 have h2:(callFunc f #[v]).run P w= .ok (.value v) w:=h1
 obtain rfl:a.eval x=v:=hf.eval hx
 have h3:(execOp a.eval ⟨dst,.call {callee:=.value (.func f),args:=#[x],argTypes:=ts},ty,pos,aft,gd⟩).run P w=(callFunc f #[a.eval x]).run P w:=by
  simp[execOp,resolve,Act.eval,Deferred.ofValue,invoke]
 rw[h3]
 exact h2
theorem TW.fact {R:Type} {m:Option R} {Q:R→Exit→Act→World→Prop} {p:Prop} {c:Code} (g: ∀w,St w0 S0 is w→p) (h:p→TW P w0 S0 m n fr is c Q):TW P w0 S0 m n fr is c Q:=
 fun r hr a w hf hs=>h (g w hs) r hr a w hf hs
theorem zmx {w:World} {i e:Nat} {v:Value} {l:List UInt8} (hs:St w0 S0 is w) (hi:is[i]? =some (.buf v e l)): ∃A,Buf w v e l A:=by
 obtain ⟨_,_,_,_,_,S,hS,_,_⟩:=hs
 have key: ∀(is:List Item) (i:Nat) (S:List Nat),is[i]? =some (.buf v e l)→sats w is S→∃A,Buf w v e l A:=by
  intro is
  induction is with
  | nil=>intro i S hi;simp at hi
  | cons x r ih=>
    intro i S hi hS
    obtain ⟨A,B,rfl,h1,h2⟩:=hS
    cases i with
    | zero=>
      simp only[List.getElem?_cons_zero,Option.some.injEq]at hi
      subst hi
      exact ⟨A,h1⟩
    | succ i=>exact ih i B (by simpa using hi) h2
 exact key is i S hi hS
theorem zq7 {i e:Nat} {v:Value} {l:List UInt8} (hi:is[i]? =some (.buf v e l)) (hl:l≠[]): ∀w,St w0 S0 is w→∃g c,v= .slice (some ⟨g,0,none⟩) l.length c∧c≠0:=by
 intro w hs
 obtain ⟨A,h⟩:=zmx hs hi
 rcases h with ⟨_,h,_⟩ | ⟨g,cap,cur,h1,h2,h3,_⟩
 ·exact absurd h hl
 ·have:=List.length_pos_iff.2 hl
  exact ⟨g,cap,h1,by omega⟩
theorem One.buf {i e:Nat} {v:Value} {l:List UInt8} (hi:is[i]? =some (.buf v e l)):One w0 S0 is v:=by
 intro w hs
 obtain ⟨A,h⟩:=zmx hs hi
 rcases h with ⟨rfl,_⟩ | ⟨g,cap,cur,rfl,_⟩<;>rfl
def strOf (l:List UInt8):Option (List UInt8):=if l= [] then none else some l
theorem zs1 {l r:List UInt8} (h:strOf l=some r):l≠[]∧l=r:=by
 unfold strOf at h
 split at h
 ·cases h
 ·exact ⟨by assumption,Option.some.inj h⟩
theorem Y.sliceData {x:Operand} {b:Addr} {k c:Nat} {ts:Array TypeId} (hc:c≠0) (hx:ev fr x=some (.slice (some b) k c)):Y P w0 S0 n fr is ⟨dst,.call {callee:=.builtin .unsafeSliceData,args:=#[x],argTypes:=ts},ty,pos,aft,gd⟩ (.pointer (some b)):=by
 intro a w hf _
 have h1:=Lib.run_unsafeSliceData_row (P:=P) w ts ty b k c hc
 simp[execOp,resolve,invoke,builtin,hf.eval hx,h1]
theorem Y.lenV {x:Operand} {b:Option Addr} {k c t e sz by_:Nat} (he:elemB P t=some (e,sz,by_)) (hx:ev fr x=some (.slice b k c)):Y P w0 S0 n fr is ⟨dst,.call {callee:=.builtin .len,args:=#[x],argTypes:=#[t]},ty,pos,aft,gd⟩ (.int .i64 k):=by
 obtain ⟨hu,_⟩:=zJ he
 intro a w hf _
 simp[execOp,resolve,invoke,builtin,hf.eval hx,Builtin.len_,run_underlying hu,goInt]
theorem Ef.takeStr {d:Option Nat} {x y:Operand} {g c pt it e k:Nat} {l:List UInt8} {is':List Item}
 (ks:List Nat) (hl:l≠[]) (hpt:ptrB P pt=some (e,k)) (hce:Nat.beq (P.cellsOf e) 1=true) (hp:pulls ks is=some (.buf (.slice (some ⟨g,0,none⟩) l.length c) e l::is')) (hx:ev fr x=some (.pointer (some ⟨g,0,none⟩))) (hy:ev fr y=some (.int .i64 l.length)):
 Ef P w0 S0 n fr is ⟨d,.call {callee:=.builtin .unsafeString,args:=#[x,y],argTypes:=#[pt,it]},ty,pos,aft,gd⟩ (fun _:Unit=>strV l) (fun _=>is'):=by
 obtain ⟨hu,j,hj,_⟩:=zfN hpt
 intro a w K Q hf hs hK
 have hs':=hs.pulls ks hp
 obtain ⟨A,hA⟩:=zmx hs' (i:=0) rfl
 rcases hA with ⟨h,_⟩ | ⟨g',cap,cur,h1,h2,h3,h4,h5,h6,h7⟩
 ·cases h
 ·simp only[Value.slice.injEq,Option.some.injEq,Addr.mk.injEq,true_and,and_true]at h1
  obtain ⟨rfl,rfl⟩:=h1
  have hsh:w.shape? g=some (e,cur.size):=by simp[World.shape?,h2]
  have hcell: ∀j x,l[j]? =some x→w.cell? ((⟨g,0,none⟩:Addr).add j)=some (.int .u8 x.toNat):=by
   intro j x hjx
   have hadd:(⟨g,0,none⟩:Addr).add j=⟨g,j,none⟩:=by unfold Addr.add;split<;>simp_all
   obtain ⟨hj,_⟩:=List.getElem?_eq_some_iff.1 hjx
   have h8:=congrArg (fun q=>q[j]?) h6
   simp only[List.getElem?_map,hjx,Option.map_some]at h8
   rw[List.getElem?_take,if_pos hj]at h8
   rw[hadd,cell_of_row w g j cur e (0,0) h2]
   simpa using h8
  have h63:l.length≤9223372036854775807:=by simp only[maxLen]at h4;omega
  have hr:=Lib.run_unsafeString_row (P:=P) w pt it ty e hu (Nat.eq_of_beq_eq_true hce) g cur.size hsh l hl (by omega) h63 hcell
  have hrun:(execOp a.eval ⟨d,.call {callee:=.builtin .unsafeString,args:=#[x,y],argTypes:=#[pt,it]},ty,pos,aft,gd⟩).run P w= .ok (.value (strV l)) (w.freeze ⟨g,0,none⟩ l.length):=by
   simp[execOp,resolve,invoke,builtin,hf.eval hx,hf.eval hy,hr,strV]
  unfold Oper.wp
  rw[hrun]
  refine hK () _ ?_
  refine St.step (is:=[.buf (.slice (some ⟨g,0,none⟩) l.length c) e l]) (js:=[]) (r:=is') hs' fun A hA hnd=>⟨[],?_,rfl,List.nodup_nil,fun b hb=>by cases hb⟩
  obtain ⟨A1,B1,rfl,hA1,hB1⟩:=hA
  have hg:g∈A1:=by
   rcases hA1 with ⟨h,_⟩ | ⟨g',_,_,h1,_,_,_,_,_,rfl⟩
   ·cases h
   ·simp only[Value.slice.injEq,Option.some.injEq,Addr.mk.injEq,true_and,and_true]at h1
    rw[h1.1];exact List.mem_singleton.2 rfl
  unfold World.freeze
  split
  ·exact Chg.refl w _
  ·refine ⟨rfl,rfl,rfl,by simp,fun b hb hn=>?_⟩
   have:g≠b:=fun e=>hn (by rw[←e];exact List.mem_append.2 (.inl hg))
   simp only[Array.getElem?_modify]
   rw[if_neg this]
end
end Go.Proofs.YtfgjhefhlabpkaaGreat.Sl
