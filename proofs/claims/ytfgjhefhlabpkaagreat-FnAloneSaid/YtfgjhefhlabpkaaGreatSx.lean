/-
  Elements moved out of a slice, one by one: a list of which some places are empty. Pieces of such a list put behind another. Generic: no statement about a given function.
-/
import Derived.Test.YtfgjhefhlabpkaaGreatSz
import Derived.Lib.Bytealg
namespace Go.Proofs.YtfgjhefhlabpkaaGreat.Sl
open Go Go.RowKit
instance {α:Type} [Enc α]:Enc (Option α):=⟨Enc.sz α,fun x=>match x with | some x=>Enc.enc x | none=>List.replicate (Enc.sz α) .any,fun x=>by cases x<;>simp[Enc.len],Enc.pos⟩
theorem zsu {α:Type} [Enc α] (l:List α):(l.map some).flatMap (Enc.enc (α:=Option α))=l.flatMap Enc.enc:=by
 induction l with
 | nil=>rfl
 | cons x l ih=>rw[List.map_cons,List.flatMap_cons,List.flatMap_cons,ih];rfl
theorem zpR {α:Type} [Enc α] (l:List α):lc (l.map some)=lc l:=by
 unfold lc
 rw[zsu,List.length_map]
 rfl
def allO {α:Type} :List (Option α)→Option (List α)
 | []=>some []
 | x::l=>x.bind fun x=>(allO l).map fun l=>x::l
theorem zpy {α:Type} : ∀{ls:List (Option α)} {l:List α},allO ls=some l→ls=l.map some
 | [],l,h=>by cases h;rfl
 | none::ls,l,h=>by cases h
 | some x::ls,l,h=>by
   simp only[allO,Option.bind_some]at h
   cases h1:allO ls with
   | none=>rw[h1]at h;cases h
   | some k=>rw[h1]at h;cases h;rw[zpy h1];rfl
theorem znd {α:Type} : ∀(l:List α),allO (l.map some)=some l
 | []=>rfl
 | x::l=>by simp only[List.map_cons,allO,Option.bind_some,znd l,Option.map_some]
theorem zgq {α:Type} {ls:List (Option α)} {i:Int} {z:Option α} {x:α} (h:idx ls i=some z) (hz:z=some x):idx ls i=some (some x):=by rw[h,hz]
section
variable {P:Program} {w0:World} {S0:List Nat} {R:Type} {m:Option R} {n:Nat} {fr:Fr} {is:List Item} {Q:R→Exit→Act→World→Prop} {α:Type}
variable {ty:TypeId} {pos:String} {aft:Array Edge}
theorem Cd {c:C} {cs:List C} {is:List Item} {ds:List C} (h:Cls cs is ds) (hg:goneC c=true:=by exact r):Cls (c::cs) is (.any::ds):=.drop hg h
theorem Hm [Enc α] {l:List α} {v:Value} {rest:List Item} (ks:List Nat) (hp:takeP ks is=some ([.own v (lc l)],rest)): ∀w,St w0 S0 is w→St w0 S0 (.own v (lc (l.map some))::rest) w:=by
 intro w h
 rw[zpR]
 exact h.takeP hp
theorem Hv [Enc α] {ls:List (Option α)} {l:List α} {v:Value} {rest:List Item} (ks:List Nat) (hz:allO ls=some l) (hp:takeP ks is=some ([.own v (lc ls)],rest)): ∀w,St w0 S0 is w→St w0 S0 (.own v (lc l)::rest) w:=by
 intro w h
 rw[←zpR,←zpy hz]
 exact h.takeP hp
def cmpS (s u:List UInt8):Int:=Lib.compareBytes s u
theorem Es {d:Option Nat} {gd:Option (Nat × Bool)} {f:FuncId} {fn:Func} {x y:Operand} {s u:List UInt8} {ats:Array TypeId} (hf0:P.funcs[f]? =some fn) (hx:ev fr x=some (strV s)) (hy:ev fr y=some (strV u))
 (hname:(fn.name == "runtime.NumGoroutine")=false:=by kernel_rfl) (hbody:fn.body.isNone=true:=by kernel_rfl) (hnext:Extern.findNext fn=none:=by kernel_rfl) (hext:Extern.find fn=some Extern.BytealgCompare.compare:=by kernel_rfl):
 Ef P w0 S0 n fr is ⟨d,.call {callee:=.value (.func f),args:=#[x,y],argTypes:=ats},ty,pos,aft,gd⟩ (fun _:Unit=>.int .i64 (cmpS s u)) (fun _=>is):=by
 intro a w K Q hf hst hK
 have hrun:(execOp a.eval ⟨d,.call {callee:=.value (.func f),args:=#[x,y],argTypes:=ats},ty,pos,aft,gd⟩).run P w= .ok (.value (.int .i64 (cmpS s u))) w:=by
  have h1:=run_callFunc_extern hf0 hname hbody hnext hext #[strV s,strV u] w
  have h3:(Extern.BytealgCompare.compare #[strV s,strV u]).run P w= .ok (.int .i64 (cmpS s u)) w:=Lib.run_compareString ⟨s.toArray⟩ ⟨u.toArray⟩ w
  rw[h3]at h1
  simp only[Result.andThen_ok]at h1
  have h2:a.eval (.func f)= .func (.func f) #[] #[]:=rfl
  simp[execOp,resolve,h2,Deferred.ofValue,invoke,hf.eval hx,hf.eval hy]
  simpa using h1
 unfold Oper.wp
 rw[hrun]
 exact hK () w hst
theorem Nc {l:List α} {v:Value} {sz' c:Nat} {cs':List C} {x:Operand} {i:Int} {z:α} {dst:Option Nat} {gd:Option (Nat × Bool)} (hc:Can w0 S0 is v (.sl sz' l.length cs')) (hz:idx l i=some z) (hx:ev fr x=some (elP v c)):
 Y P w0 S0 n fr is ⟨dst,.nilCheck x,ty,pos,aft,gd⟩ (elP v c):=by
 intro a w hf hs
 obtain ⟨_,hlt,_⟩:=zz hz
 rcases hc.row hs with ⟨h1,_,rfl⟩ | ⟨a0,cap,vs,S,rfl,_⟩
 ·omega
 ·simp[execOp,hf.eval hx,elP]
def ptrOk (v:Value):Prop:=match v with
 | .slice (some _) _ _=>True
 | _=>False
theorem zgc {l:List α} {v:Value} {sz':Nat} {cs':List C} {i:Int} {z:α} (hc:Can w0 S0 is v (.sl sz' l.length cs')) (hz:idx l i=some z): ∀w,St w0 S0 is w→ptrOk v:=by
 intro w hs
 obtain ⟨_,hlt,_⟩:=zz hz
 rcases hc.row hs with ⟨h1,_,rfl⟩ | ⟨a0,cap,vs,S,rfl,_⟩
 ·omega
 ·trivial
theorem Np {v:Value} {c:Nat} {x:Operand} {dst:Option Nat} {gd:Option (Nat × Bool)} (hp:ptrOk v) (hx:ev fr x=some (elP v c)):
 Y P w0 S0 n fr is ⟨dst,.nilCheck x,ty,pos,aft,gd⟩ (elP v c):=by
 intro a w hf hs
 unfold ptrOk at hp
 split at hp
 ·simp[execOp,hf.eval hx,elP]
 ·cases hp
theorem Fp {v:Value} {x:Operand} {o sz s f c:Nat} {k:Nat} {dst:Option Nat} {gd:Option (Nat × Bool)} (hfd:fieldB P s f=some o) (hp:ptrOk v) (hx:ev fr x=some (elP v (k*sz+c))):
 Y P w0 S0 n fr is ⟨dst,.fieldAddr s x f,ty,pos,aft,gd⟩ (elP v (k*sz+Nat.add c o)):=by
 intro a w hf hs
 unfold ptrOk at hp
 split at hp
 ·unfold fieldB at hfd
  split at hfd
  ·rename_i fs hu
   split at hfd
   ·rename_i fd hfd1
    split at hfd
    ·rename_i jt hjt
     cases h0:Nat.beq jt.size 0 with
     | true=>rw[h0]at hfd;cases hfd
     | false=>
       rw[h0]at hfd
       have hne:jt.size≠0:=by intro h;rw[h]at h0;cases h0
       simp only[cond_false,Option.some.injEq]at hfd
       simp[execOp,hf.eval hx,Instr.fieldAt,run_underlying hu,hfd1,Instr.sureAddr,fieldPlace,sizeOf,typeInfo,hjt,hne,hfd,elP,add_add,Nat.add_assoc]
    ·cases hfd
   ·cases hfd
  ·cases hfd
 ·cases hp
theorem Ows.raws {w:World} : ∀{us:List Value},(∀u∈us,u.oneCell'=true)→Ows w us (us.map .raw) []
 | [],_=>.nil
 | u::us,h=>.cons u (.raw u) [] us _ [] (.raw u (h u (by simp))) (Ows.raws fun v hv=>h v (by simp[hv]))
theorem Ow.raws {w:World} {v:Value} {sz n:Nat} {pre cs post:List C} {A:List Nat} (h:Ow w v (.sl sz n (pre++(cs++post))) A):
 ∃(us:List Value) (A':List Nat),us.length=cs.length∧Ow w v (.sl sz n (pre++(us.map .raw++post))) A'∧A'.Sublist A:=by
 generalize hg:pre++(cs++post)=ds at h
 cases h with
 | nil=>
   have h1:pre= []:=by cases pre<;>simp_all
   have h2:cs= []:=by subst h1;cases cs<;>simp_all
   have h3:post= []:=by subst h1 h2;simpa using hg
   subst h1 h2 h3
   exact ⟨[],[],rfl,.nil sz,.slnil⟩
 | row b n cap e sz cur vs _ S hh hc hm hs ht hr=>
   subst hg
   obtain ⟨S1,S2,rfl,h1,h2⟩:=hr.split
   obtain ⟨S3,S4,rfl,h3,h4⟩:=h2.split
   refine ⟨(vs.drop pre.length).take cs.length,b::(S1++([]++S4)),h3.length,.row b n cap e sz cur vs _ _ hh hc hm hs ht ?_,?_⟩
   ·have:=h1.append ((Ows.raws h3.oneCells).append h4)
    rwa [List.take_append_drop,List.take_append_drop]at this
   ·refine List.Sublist.cons_cons _ (List.Sublist.append (List.Sublist.refl _) ?_)
    exact List.Sublist.append (List.nil_sublist _) (List.Sublist.refl _)
theorem Hw [Enc α] {l:List α} {x:α} {v:Value} {rest:List Item} {i:Int} (q:Nat) {isf:Tup q→List Item} (ks:List Nat) (hz:idx l i=some x) (hp:takeP ks is=some ([.own v (lc l)],rest))
 (h1: ∀X:Tup q,(.own v (hl l i.toNat ((tupL q X).map .raw))::rest)=isf X) (hq:Enc.sz α=q:=by exact r):Gh w0 S0 is isf:=by
 intro w h
 obtain ⟨os,tape,output,size,base,S,hS,hnd,hin⟩:=h.takeP hp
 rw[List.singleton_append,zkt (zz hz).2.2]at hS
 obtain ⟨A,B,rfl,hA,hB⟩:=hS
 obtain ⟨us,A',hlen,hO,hsub⟩:=Ow.raws hA
 obtain ⟨X,rfl⟩:=zkH q us (by rw[hlen,Enc.len,hq])
 have hs2:(A'++B).Sublist (A++B):=hsub.append (List.Sublist.refl _)
 refine ⟨X,?_⟩
 rw[←h1 X]
 exact ⟨os,tape,output,size,base,A'++B,⟨A',B,rfl,hO,hB⟩,hs2.nodup hnd,fun b hb=>hin b (hs2.subset hb)⟩
end
section
variable {P:Program} {w0:World} {S0:List Nat} {R:Type} {m:Option R} {n:Nat} {fr:Fr} {is isH:List Item} {Q:R→Exit→Act→World→Prop} {ops:Array Oper} {fuel:Nat} {listed:Array Bool}
theorem A4 (i j k l:Nat) (h1:TX P w0 S0 m n fr is isH ops fuel listed Q i) (h2:TX P w0 S0 m n fr is isH ops fuel listed Q j) (h3:TX P w0 S0 m n fr is isH ops fuel listed Q k) (h4:TX P w0 S0 m n fr is isH ops fuel listed Q l)
 (hr:Region.ready .any ops listed= [i,j,k,l]:=by kernel_rfl):TA P w0 S0 m n fr is isH ops (fuel+1) listed Q:=
 TA.all [i,j,k,l] hr (by simp) fun q hq=>by
  simp only[List.mem_cons,List.not_mem_nil,or_false]at hq
  rcases hq with rfl | rfl | rfl | rfl
  ·exact h1
  ·exact h2
  ·exact h3
  ·exact h4
end
section
variable {P:Program} {w0:World} {R:Type} {n:Nat} {fr:Fr} {is:List Item}
theorem Rz:RV P fr is [] []:=trivial
theorem Rt {t:Nat} {v:Value} {rs:List ResultVar} {vs:List Value} (h1:lk t fr=some v) (h:RV P fr is rs vs):RV P fr is (.tmp t::rs) (v::vs):=⟨h1,h⟩
theorem Rf {S1:List Nat} {fn:Func} {X:Type} {val:R→X→Value} {post:R→X→List Item} {q:R} {e:Exit} {vs:List Value} (x:X) (ks:List Nat) (h2:RV P fr is fn.results.toList vs)
 (he:backE e=true:=by exact r) (h3:retV vs=val q x:=by exact r) (hi:pulls ks is=some (post q x):=by exact r):
 TE w0 S1 (some q) n fr is e (fun q=>bodyPost P fn (fun e w'=>∃x,e= .returned (val q x)∧St w0 S1 (post q x) w')):=
 TE.leaf fun _ _ hf hs=>zS (by cases e<;>first | exact .inl rfl | exact .inr rfl | cases he) (Array.toArray_toList).symm h2 hf hs ⟨x,by rw[h3],hs.pulls ks hi⟩
end
end Go.Proofs.YtfgjhefhlabpkaaGreat.Sl
