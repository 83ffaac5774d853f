/-
  The rules of the small separation logic, continued: slices. Generic: no statement about a given function.
-/
import Derived.Test.YtfgjhefhlabpkaaGreatSr
namespace Go.Proofs.YtfgjhefhlabpkaaGreat.Sl
open Go Go.RowKit
class Enc (α:Type) where
 sz:Nat
 enc:α→List C
 len: ∀x,(enc x).length=sz
 pos:0<sz
instance:Enc Int:=⟨1,fun n=>[.int .i64 n],fun _=>rfl,Nat.one_pos⟩
instance:Enc UInt8:=⟨1,fun n=>[.int .u8 n.toNat],fun _=>rfl,Nat.one_pos⟩
instance:Enc Bool:=⟨1,fun b=>[.bool b],fun _=>rfl,Nat.one_pos⟩
instance:Enc (List UInt8):=⟨1,fun s=>[.str s],fun _=>rfl,Nat.one_pos⟩
def lc {α:Type} [Enc α] (l:List α):C:=.sl (Enc.sz α) l.length (l.flatMap Enc.enc)
theorem zbM {α:Type} [Enc α] (l:List α):(l.flatMap (Enc.enc (α:=α))).length=l.length*Enc.sz α:=by
 induction l with
 | nil=>simp
 | cons x l ih=>simp[ih,Enc.len,Nat.add_mul,Nat.add_comm]
theorem zhX {α:Type} [Enc α]: ∀(l:List α) (k j:Nat) (x:α),l[k]? =some x→j≤Enc.sz α→∃r,(l.flatMap (Enc.enc (α:=α))).drop (k*Enc.sz α+j)=(Enc.enc x).drop j++r
 | [],_,_,_,h,_=>by simp at h
 | y::l,0,j,x,h,hj=>by
   simp only[List.getElem?_cons_zero,Option.some.injEq]at h
   subst h
   refine ⟨l.flatMap Enc.enc,?_⟩
   simp only[Nat.zero_mul,Nat.zero_add,List.flatMap_cons]
   rw[List.drop_append_of_le_length (by rw[Enc.len];exact hj)]
 | y::l,k+1,j,x,h,hj=>by
   simp only[List.getElem?_cons_succ]at h
   obtain ⟨r,hr⟩:=zhX l k j x h hj
   refine ⟨r,?_⟩
   rw[←hr,List.flatMap_cons,List.drop_append,List.drop_of_length_le (by rw[Enc.len,Nat.add_mul];omega),List.nil_append,Enc.len]
   congr 1
   rw[Nat.add_mul];omega
def valC:C→Option Value
 | .int k n=>some (.int k n)
 | .bool b=>some (.bool b)
 | .str s=>some (strV s)
 | .raw v=>bif v.oneCell' then some v else none
 | .any=>none
 | .sl ..=>none
def valR:C→Option Value
 | .int k n=>some (.int k n)
 | .bool b=>some (.bool b)
 | .str s=>some (strV s)
 | .raw v=>some v
 | .any=>none
 | .sl ..=>none
def valsR:List C→Option (List Value)
 | []=>some []
 | c::r=>match valR c,valsR r with
   | some v,some vs=>some (v::vs)
   | _,_=>none
def valsC:List C→Option (List Value)
 | []=>some []
 | c::r=>match valC c,valsC r with
   | some v,some vs=>some (v::vs)
   | _,_=>none
theorem Rd.val {w:World} {v u:Value} {c:C} {S:List Nat} (h:Rd w v c S) (hv:valC c=some u):v=u:=by
 cases h<;>simp_all[valC]
theorem Rds.vals {w:World} : ∀{vs us:List Value} {cs:List C} {S:List Nat},Rds w vs cs S→valsC cs=some us→vs=us
 | _,us,[],_,h,hv=>by cases h;simpa[valsC] using hv
 | _,us,c::cs,_,h,hv=>by
   cases h with
   | cons v c S vs cs T h1 h2=>
     unfold valsC at hv
     cases h3:valC c with
     | none=>rw[h3]at hv;simp at hv
     | some u=>
       cases h4:valsC cs with
       | none=>rw[h3,h4]at hv;simp at hv
       | some us'=>
         rw[h3,h4]at hv
         simp only[Option.some.injEq]at hv
         subst hv
         rw[h1.val h3,Rds.vals h2 h4]
theorem Rd.valR {w:World} {v u:Value} {c:C} {S:List Nat} (h:Rd w v c S) (hv:valR c=some u):v=u:=by
 cases h<;>simp_all[Sl.valR]
theorem Rds.valsR {w:World} : ∀{vs us:List Value} {cs:List C} {S:List Nat},Rds w vs cs S→valsR cs=some us→vs=us
 | _,us,[],_,h,hv=>by cases h;simpa[Sl.valsR] using hv
 | _,us,c::cs,_,h,hv=>by
   cases h with
   | cons v c S vs cs T h1 h2=>
     unfold Sl.valsR at hv
     cases h3:Sl.valR c with
     | none=>rw[h3]at hv;simp at hv
     | some u=>
       cases h4:Sl.valsR cs with
       | none=>rw[h3,h4]at hv;simp at hv
       | some us'=>
         rw[h3,h4]at hv
         simp only[Option.some.injEq]at hv
         subst hv
         rw[h1.valR h3,Rds.valsR h2 h4]
theorem Rd.oneCell {w:World} {v:Value} {c:C} {S:List Nat} (h:Rd w v c S):v.oneCell'=true:=by
 cases h<;>first | rfl | assumption
theorem Rds.oneCells {w:World} : ∀{vs:List Value} {cs:List C} {S:List Nat},Rds w vs cs S→∀v∈vs,v.oneCell'=true
 | _,[],_,h,v,hv=>by cases h;cases hv
 | _,c::cs,_,h,v,hv=>by
   cases h with
   | cons u c S vs cs T h1 h2=>
     rcases List.mem_cons.1 hv with rfl | hv
     ·exact h1.oneCell
     ·exact Rds.oneCells h2 v hv
theorem Ow.oneCell {w:World} {v:Value} {c:C} {S:List Nat} (h:Ow w v c S):v.oneCell'=true:=by
 cases h<;>first | rfl | assumption
theorem Ows.oneCells {w:World} : ∀{vs:List Value} {cs:List C} {S:List Nat},Ows w vs cs S→∀v∈vs,v.oneCell'=true
 | _,[],_,h,v,hv=>by cases h;cases hv
 | _,c::cs,_,h,v,hv=>by
   cases h with
   | cons u c S vs cs T h1 h2=>
     rcases List.mem_cons.1 hv with rfl | hv
     ·exact h1.oneCell
     ·exact Ows.oneCells h2 v hv
theorem zhM {c:C} {v:Value} (h:valC c=some v):v.oneCell'=true:=by
 cases c with
 | raw u=>
   have h:(bif u.oneCell' then some u else none)=some v:=h
   cases hu:u.oneCell' with
   | true=>rw[hu]at h;simp at h;subst h;exact hu
   | false=>rw[hu]at h;simp at h
 | sl a b d=>simp[valC]at h
 | any=>simp[valC]at h
 | int k n=>simp[valC]at h;subst h;rfl
 | bool b=>simp[valC]at h;subst h;rfl
 | str s=>simp[valC]at h;subst h;rfl
theorem zjB: ∀{cs:List C} {vs:List Value},valsC cs=some vs→∀v∈vs,v.oneCell'=true
 | [],vs,h,v,hv=>by simp[valsC]at h;subst h;cases hv
 | c::cs,vs,h,v,hv=>by
   unfold valsC at h
   cases h3:valC c with
   | none=>rw[h3]at h;simp at h
   | some u=>
     cases h4:valsC cs with
     | none=>rw[h3,h4]at h;simp at h
     | some us'=>
       rw[h3,h4]at h
       simp only[Option.some.injEq]at h
       subst h
       rcases List.mem_cons.1 hv with rfl | hv
       ·exact zhM h3
       ·exact zjB h4 v hv
theorem Ow.of_val {w:World} {c:C} {v:Value} (h:valC c=some v):Ow w v c []:=by
 have h1:=zhM h
 cases c with
 | raw u=>
   have h:(bif u.oneCell' then some u else none)=some v:=h
   cases hu:u.oneCell' with
   | true=>rw[hu]at h;simp at h;subst h;exact .raw _ hu
   | false=>rw[hu]at h;simp at h
 | sl a b d=>simp[valC]at h
 | any=>simp[valC]at h
 | int k n=>simp[valC]at h;subst h;exact .int _ _
 | bool b=>simp[valC]at h;subst h;exact .bool _
 | str s=>simp[valC]at h;subst h;exact .str _
theorem Ows.of_vals {w:World} : ∀{cs:List C} {vs:List Value},valsC cs=some vs→Ows w vs cs []
 | [],vs,h=>by simp[valsC]at h;subst h;exact .nil
 | c::cs,vs,h=>by
   unfold valsC at h
   cases h3:valC c with
   | none=>rw[h3]at h;simp at h
   | some u=>
     cases h4:valsC cs with
     | none=>rw[h3,h4]at h;simp at h
     | some us'=>
       rw[h3,h4]at h
       simp only[Option.some.injEq]at h
       subst h
       exact .cons u c [] us' cs [] (Ow.of_val h3) (Ows.of_vals h4)
theorem zkp: ∀{cs ds:List C} {vs us:List Value},valsC cs=some vs→valsC ds=some us→valsC (cs++ds)=some (vs++us)
 | [],ds,vs,us,h,k=>by simp[valsC]at h;subst h;exact k
 | c::cs,ds,vs,us,h,k=>by
   unfold valsC at h
   cases h3:valC c with
   | none=>rw[h3]at h;simp at h
   | some u=>
     cases h4:valsC cs with
     | none=>rw[h3,h4]at h;simp at h
     | some us'=>
       rw[h3,h4]at h
       simp only[Option.some.injEq]at h
       subst h
       simp[valsC,h3,zkp h4 k]
class Flat (α:Type) extends Enc α where
 vals:α→List Value
 flat: ∀x,valsC (enc x)=some (vals x)
instance:Flat Int:={vals:=fun n=>[.int .i64 n],flat:=fun _=>rfl}
instance:Flat UInt8:={vals:=fun n=>[.int .u8 n.toNat],flat:=fun _=>rfl}
instance:Flat Bool:={vals:=fun b=>[.bool b],flat:=fun _=>rfl}
instance:Flat (List UInt8):={vals:=fun s=>[strV s],flat:=fun _=>rfl}
theorem zba {α:Type} [Flat α]: ∀l:List α,valsC (l.flatMap Enc.enc)=some (l.flatMap Flat.vals)
 | []=>rfl
 | x::l=>by
   simp only[List.flatMap_cons]
   exact zkp (Flat.flat x) (zba l)
theorem zfz {α:Type} [Flat α] (x:α):(Flat.vals x).length=Enc.sz α:=by
 have h:=Flat.flat x
 have:=(Ows.of_vals (w:=default) h).length
 rw[this,Enc.len]
def elP (v:Value) (c:Nat):Value:=
 match v with
 | .slice (some a) _ _=>.pointer (some (a.add c))
 | _=>undef
def idx {α:Type} (l:List α) (i:Int):Option α:=if 0≤i then l[i.toNat]? else none
theorem zz {α:Type} {l:List α} {i:Int} {x:α} (h:idx l i=some x):0≤i∧i<l.length∧l[i.toNat]? =some x:=by
 unfold idx at h
 split at h
 ·rename_i h0
  refine ⟨h0,?_,h⟩
  rcases Nat.lt_or_ge i.toNat l.length with h1 | h1
  ·omega
  ·rw[List.getElem?_eq_none h1]at h;cases h
 ·cases h
theorem Can.row {w0 w:World} {S0:List Nat} {is:List Item} {v:Value} {sz n:Nat} {cs:List C} (h:Can w0 S0 is v (.sl sz n cs)) (hs:St w0 S0 is w):
 (n=0∧cs= []∧v= .slice none 0 0)∨∃a cap vs S,v= .slice (some a) n cap∧n≤cap∧vs.length=n*sz∧(∀j,j<n*sz→w.cell? (a.add j)=vs[j]?)∧Rds w vs cs S:=by
 obtain ⟨F,hF⟩:=h.get hs
 cases hF with
 | nil=>exact .inl ⟨rfl,rfl,rfl⟩
 | row a n cap sz vs cs S h1 h2 h3 h4=>exact .inr ⟨a,cap,vs,S,rfl,h2,h1,h3,h4⟩
section
variable {P:Program} {w0:World} {S0:List Nat} {R:Type} {m:Option R} {n:Nat} {fr:Fr} {is:List Item} {Q:R→Exit→Act→World→Prop}
variable {dst:Option Nat} {ty:TypeId} {pos:String} {aft:Array Edge} {gd:Option (Nat × Bool)}
variable {α:Type} {l:List α} {v:Value}
theorem Y.len {sz':Nat} {cs':List C} {x:Operand} {t e' sz by_:Nat} {ty':TypeId} (he:elemB P t=some (e',sz,by_)) (hc:Can w0 S0 is v (.sl sz' l.length cs')) (hx:ev fr x=some v):
 Y P w0 S0 n fr is ⟨dst,.call {callee:=.builtin .len,args:=#[x],argTypes:=#[t]},ty',pos,aft,gd⟩ (.int .i64 l.length):=by
 obtain ⟨hu,_⟩:=zJ he
 intro a w hf hs
 rcases hc.row hs with ⟨h1,_,rfl⟩ | ⟨a0,cap,vs,S,rfl,_⟩
 ·have:l= []:=List.eq_nil_of_length_eq_zero h1
  subst this
  simp[execOp,resolve,invoke,builtin,hf.eval hx,Builtin.len_,run_underlying hu,goInt]
 ·simp[execOp,resolve,invoke,builtin,hf.eval hx,Builtin.len_,run_underlying hu,goInt]
theorem Y.index {sz':Nat} {cs':List C} {x y:Operand} {t e' sz by_:Nat} {k:IntKind} {i:Int} {z:α} (he:elemB P t=some (e',sz,by_)) (hc:Can w0 S0 is v (.sl sz' l.length cs')) (hi:idx l i=some z) (hx:ev fr x=some v) (hy:ev fr y=some (.int k i)):
 Y P w0 S0 n fr is ⟨dst,.indexAddr t x y,ty,pos,aft,gd⟩ (elP v (i.toNat*sz+0)):=by
 obtain ⟨hu,ti,hti,hsz,_⟩:=zJ he
 obtain ⟨h0,hlt,hz⟩:=zz hi
 intro a w hf hs
 rcases hc.row hs with ⟨h1,_,rfl⟩ | ⟨a0,cap,vs,S,rfl,_⟩
 ·have:l= []:=List.eq_nil_of_length_eq_zero h1
  subst this
  simp at hlt
  omega
 ·simp[execOp,hf.eval hx,hf.eval hy,Instr.indexAt,run_underlying hu,asIntOf,h0,hlt,sizeOf,typeInfo,hti,hsz,elP]
theorem Y.field_el {sz':Nat} {cs':List C} {x:Operand} {o j k sz s f c:Nat} {z:α} (hfd:fieldB P s f=some o) (hc:Can w0 S0 is v (.sl sz' l.length cs')) (hz:l[k]? =some z) (hj:Nat.add c o=j) (hx:ev fr x=some (elP v (k*sz+c))):
 Y P w0 S0 n fr is ⟨dst,.fieldAddr s x f,ty,pos,aft,gd⟩ (elP v (k*sz+j)):=by
 intro a w hf hs
 have hj':c+o=j:=hj
 rcases hc.row hs with ⟨h1,_,rfl⟩ | ⟨a0,cap,vs,S,rfl,_⟩
 ·have:l= []:=List.eq_nil_of_length_eq_zero h1
  subst this
  simp at hz
 ·unfold fieldB at hfd
  split at hfd
  ·rename_i fs hu
   split at hfd
   ·rename_i fd hfd1
    split at hfd
    ·rename_i jt hjt
     cases h0:Nat.beq jt.size 0 with
     | true=>rw[h0]at hfd;cases hfd
     | false=>
       rw[h0]at hfd
       have hne:jt.size≠0:=by intro h;rw[h]at h0;cases h0
       simp only[cond_false,Option.some.injEq]at hfd
       simp[execOp,hf.eval hx,Instr.fieldAt,run_underlying hu,hfd1,Instr.sureAddr,fieldPlace,sizeOf,typeInfo,hjt,hne,hfd,elP,add_add,←hj',Nat.add_assoc]
    ·cases hfd
   ·cases hfd
  ·cases hfd
variable [Enc α]
theorem zst {w:World} {k c:Nat} {z:α} {cs r:List C} {sz:Nat} (hsz:Enc.sz α=sz) (hc:Can w0 S0 is v (lc l)) (hs:St w0 S0 is w) (hz:l[k]? =some z) (hcs:(Enc.enc z).drop c=cs++r):
 ∃a us S,(∃n' cap,v= .slice (some a) n' cap)∧(∀j,j<us.length→w.cell? ((a.add (k*sz+c)).add j)=us[j]?)∧Rds w us cs S:=by
 subst hsz
 have hlt:k<l.length:=by
  rcases Nat.lt_or_ge k l.length with h | h
  ·exact h
  ·rw[List.getElem?_eq_none h]at hz;cases hz
 rcases hc.row hs with ⟨h1,_,_⟩ | ⟨a0,cap,vs,S,rfl,hcap,hlen,hcell,hr⟩
 ·omega
 ·by_cases hcz:c≤Enc.sz α
  ·obtain ⟨r',hr'⟩:=zhX l k c z hz hcz
   have hsplit:l.flatMap (Enc.enc (α:=α))=(l.flatMap (Enc.enc (α:=α))).take (k*Enc.sz α+c)++(cs++(r++r')):=by
    conv=>lhs;rw[←List.take_append_drop (k*Enc.sz α+c) (l.flatMap (Enc.enc (α:=α)))]
    rw[hr',hcs,List.append_assoc]
   rw[hsplit]at hr
   obtain ⟨S1,S2,_,_,hr2⟩:=hr.split
   obtain ⟨S3,S4,_,hr3,_⟩:=hr2.split
   have hlen2:((l.flatMap (Enc.enc (α:=α))).take (k*Enc.sz α+c)).length=k*Enc.sz α+c:=by
    rw[List.length_take,zbM]
    have:k*Enc.sz α+Enc.sz α≤l.length*Enc.sz α:=by rw[←Nat.succ_mul];exact Nat.mul_le_mul_right _ hlt
    omega
   rw[hlen2]at hr3
   refine ⟨a0,_,_,⟨_,_,rfl⟩,?_,hr3⟩
   intro j hj
   rw[add_add,List.getElem?_take]
   simp only[List.length_take,List.length_drop]at hj
   rw[if_pos (by omega),hcell _ (by omega)]
   simp
  ·have:(Enc.enc z).drop c= []:=List.drop_of_length_le (by rw[Enc.len];omega)
   rw[this]at hcs
   have hcs0:cs= []:=by cases cs with | nil=>rfl | cons x y=>cases hcs
   subst hcs0
   exact ⟨a0,[],[],⟨_,_,rfl⟩,by simp,.nil⟩
def loaded (ag:Bool) (us:List Value):Option Value:=bif ag then some (.agg us.toArray) else us[0]?
theorem Y.load_el {x:Operand} {t k sz c s:Nat} {z:α} {ag:Bool} {us:List Value} {u:Value} (hk:kindB P t=some (ag,s)) (hsz:Enc.sz α=sz) (hc:Can w0 S0 is v (lc l)) (hz:l[k]? =some z)
 (hx:ev fr x=some (elP v (k*sz+c))) (hus:valsR (((Enc.enc z).drop c).take s)=some us) (hl:Nat.beq us.length s=true) (ha:(ag||Nat.beq s 1)=true) (hu:loaded ag us=some u):
 Y P w0 S0 n fr is ⟨dst,.load t x,ty,pos,aft,gd⟩ u:=by
 intro a w hf hs
 obtain ⟨a0,us',S,⟨n',cap,rfl⟩,h1,h2⟩:=zst (cs:=((Enc.enc z).drop c).take s) (r:=((Enc.enc z).drop c).drop s) hsz hc hs hz (List.take_append_drop _ _).symm
 have he:=h2.valsR hus
 subst he
 have hl':us'.length=s:=by simpa using hl
 have hv:(ag=true∧us'.length=s∧u= .agg us'.toArray)∨(ag=false∧us'= [u]):=by
  unfold loaded at hu
  cases ag with
  | true=>left;simp only[cond_true,Option.some.injEq]at hu;exact ⟨rfl,hl',hu.symm⟩
  | false=>
    right
    simp only[cond_false]at hu
    have h1:s=1:=by simpa using ha
    refine ⟨rfl,?_⟩
    match us',hl',hu with
    | [q],_,hu=>simp at hu;rw[hu]
    | [],hl',_=>simp at hl';omega
    | _::_::_,hl',_=>simp at hl';omega
 have:=zcg (P:=P) hk h1 hv
 simp[execOp,hf.eval hx,elP,Instr.loadAt,Instr.sureAddr,this]
end
end Go.Proofs.YtfgjhefhlabpkaaGreat.Sl
