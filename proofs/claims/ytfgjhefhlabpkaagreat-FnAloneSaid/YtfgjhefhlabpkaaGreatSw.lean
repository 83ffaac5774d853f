/-
  The rules of the small separation logic, continued: what a law's arguments read as, and what its statement asks. Generic: no statement about a given function.
-/
import Derived.Test.YtfgjhefhlabpkaaGreatSp
import Derived.Test.YtfgjhefhlabpkaaGreatSu
import Derived.ProofKit
import Derived.OpenShut
import Derived.ShutString
import Derived.ChangeOld
import Derived.Below
namespace Go.Proofs.YtfgjhefhlabpkaaGreat.Sl
open Go Go.RowKit
inductive Ce where
 | int (k:IntKind)
 | bool
 | str
 | sl (sz:Nat) (s:List Ce)
mutual
inductive Fit:Ce→C→Prop
 | int (k:IntKind) (n:Int):(Lit.int k n).wf=true→Fit (.int k) (.int k n)
 | bool (b:Bool):Fit .bool (.bool b)
 | str (s:List UInt8):s.length≤maxLen→Fit .str (.str s)
 | sl (sz n:Nat) (s:List Ce) (cs:List C):n≤maxLen→Rep s n cs→Fit (.sl sz s) (.sl sz n cs)
inductive Fits:List Ce→List C→Prop
 | nil:Fits [] []
 | cons (c:Ce) (d:C) (cs:List Ce) (ds:List C):Fit c d→Fits cs ds→Fits (c::cs) (d::ds)
inductive Rep:List Ce→Nat→List C→Prop
 | nil (s:List Ce):Rep s 0 []
 | cons (s:List Ce) (n:Nat) (c r:List C):Fits s c→Rep s n r→Rep s (n+1) (c++r)
end
theorem Fits.append {a b:List Ce} {x y:List C} (h:Fits a x) (k:Fits b y):Fits (a++b) (x++y):=by
 induction a generalizing x with
 | nil=>cases h;exact k
 | cons c a ih=>cases h with | cons c d cs ds h1 h2=>exact .cons _ _ _ _ h1 (ih h2)
def fieldsB (P:Program) (r:TypeId→Option (List Ce)) (tot:Nat):Nat→List Field→Option (List Ce)
 | off,[]=>bif Nat.beq off tot then some [] else none
 | off,f::fs=>bif Nat.beq f.offset off then (match r f.type,fieldsB P r tot (off+P.cellsOf f.type) fs with
   | some s,some q=>some (s++q)
   | _,_=>none) else none
def shB (P:Program):Nat→TypeId→Option (List Ce)
 | 0,_=>none
 | n+1,t=>match P.underlying t with
   | some (.int k)=>some [.int k]
   | some .bool=>some [.bool]
   | some .string=>some [.str]
   | some (.slice e)=>(shB P n e).map fun s=>[.sl (P.cellsOf e) s]
   | some (.struct fs)=>fieldsB P (shB P n) (P.cellsOf t) 0 fs.toList
   | _=>none
section
variable {H:Type} {enc:TypeId × Value→H} {P:Program} {w:World} {base:Nat} {spare:Nat→Bool} {held:Bool}
theorem zlJ {r:TypeId→Option (List Ce)} {cs:List Value} {tot:Nat} (hl:cs.length=tot): ∀{fs:List Field} {off:Nat} {s:List Ce},fieldsB P r tot off fs=some s→off≤tot→
 (∀f∈fs,∀s,r f.type=some s→∃Cs S,Rds w ((cs.drop f.offset).take (P.cellsOf f.type)) Cs S∧Fits s Cs)→∃Cs S,Rds w (cs.drop off) Cs S∧Fits s Cs
 | [],off,s,h,ho,_=>by
   unfold fieldsB at h
   cases hb:Nat.beq off tot with
   | false=>rw[hb]at h;cases h
   | true=>
     rw[hb]at h
     have:off=tot:=by simpa using hb
     cases h
     subst this
     rw[List.drop_of_length_le (by omega)]
     exact ⟨[],[],.nil,.nil⟩
 | f::fs,off,s,h,ho,hf=>by
   unfold fieldsB at h
   cases hb:Nat.beq f.offset off with
   | false=>rw[hb]at h;cases h
   | true=>
     rw[hb]at h
     have hoff:f.offset=off:=by simpa using hb
     simp only[cond_true]at h
     cases h1:r f.type with
     | none=>rw[h1]at h;cases h
     | some s1=>
       cases h2:fieldsB P r tot (off+P.cellsOf f.type) fs with
       | none=>rw[h1,h2]at h;cases h
       | some s2=>
         rw[h1,h2]at h
         cases h
         obtain ⟨C1,S1,hr1,hf1⟩:=hf f (by simp) s1 h1
         have hle:off+P.cellsOf f.type≤tot∨tot<off+P.cellsOf f.type:=by omega
         rcases hle with hle | hle
         ·obtain ⟨C2,S2,hr2,hf2⟩:=zlJ hl h2 hle fun g hg=>hf g (by simp[hg])
          refine ⟨C1++C2,S1++S2,?_,hf1.append hf2⟩
          rw[hoff]at hr1
          have:=hr1.append hr2
          rw[←List.drop_drop,List.take_append_drop]at this
          exact this
         ·exfalso
          have key: ∀(fs:List Field) (o:Nat) (s:List Ce),fieldsB P r tot o fs=some s→o≤tot:=by
           intro fs
           induction fs with
           | nil=>
             intro o s h
             unfold fieldsB at h
             cases hb:Nat.beq o tot with
             | false=>rw[hb]at h;cases h
             | true=>have:o=tot:=by simpa using hb
                     omega
           | cons f fs ih=>
             intro o s h
             unfold fieldsB at h
             cases hb:Nat.beq f.offset o with
             | false=>rw[hb]at h;cases h
             | true=>
               rw[hb]at h
               simp only[cond_true]at h
               cases h1:r f.type with
               | none=>rw[h1]at h;cases h
               | some s1=>
                 cases h2:fieldsB P r tot (o+P.cellsOf f.type) fs with
                 | none=>rw[h1,h2]at h;cases h
                 | some s2=>have:=ih _ _ h2;omega
          have:=key _ _ _ h2
          omega
theorem znh {a:Addr} {s:List Ce} {sz:Nat} : ∀(n k:Nat),(∀i,i<n→∃us Cs S,us.length=sz∧(∀j,j<sz→w.cell? (a.add ((k+i)*sz+j))=us[j]?)∧Rds w us Cs S∧Fits s Cs)→
 ∃vs Cs S,vs.length=n*sz∧(∀j,j<n*sz→w.cell? (a.add (k*sz+j))=vs[j]?)∧Rds w vs Cs S∧Rep s n Cs
 | 0,k,_=>⟨[],[],[],by simp,fun j hj=>by simp at hj,.nil,.nil s⟩
 | n+1,k,h=>by
   obtain ⟨us,C1,S1,hl1,hc1,hr1,hf1⟩:=h 0 (by omega)
   obtain ⟨vs,C2,S2,hl2,hc2,hr2,hf2⟩:=znh (a:=a) (s:=s) (sz:=sz) n (k+1) fun i hi=>by
    obtain ⟨us,Cs,S,h1,h2,h3,h4⟩:=h (i+1) (by omega)
    refine ⟨us,Cs,S,h1,fun j hj=>?_,h3,h4⟩
    rw[←h2 j hj,show k+1+i=k+(i+1) by omega]
   refine ⟨us++vs,C1++C2,S1++S2,by rw[List.length_append,hl1,hl2,Nat.succ_mul];omega,?_,hr1.append hr2,.cons s n C1 C2 hf1 hf2⟩
   intro j hj
   by_cases h1:j<sz
   ·rw[List.getElem?_append_left (by omega),←hc1 j h1,Nat.add_zero]
   ·rw[List.getElem?_append_right (by omega),hl1,←hc2 (j - sz) (by rw[Nat.succ_mul]at hj;omega)]
    congr 2
    rw[Nat.succ_mul];omega
theorem zko: ∀(fuel n:Nat) (t:TypeId) (cs:List Value) (x:DataW H × List MemPlace) (s:List Ce),shB P n t=some s→DataW.trod enc P w base spare held fuel t cs=some x→∃Cs S,Rds w cs Cs S∧Fits s Cs
 | 0,_,_,_,_,_,_,h=>by simp[DataW.trod]at h
 | _,0,_,_,_,_,hs,_=>by simp[shB]at hs
 | fuel+1,n+1,t,cs,x,s,hs,h=>by
   unfold shB at hs
   split at hs
   ·rename_i k hu
    cases hs
    obtain ⟨m,rfl,_,hw⟩:=DataW.trod_int hu h
    exact ⟨[.int k m],[]++ [],.cons _ _ _ _ _ _ (.int k m) .nil,.cons _ _ _ _ (.int k m hw) .nil⟩
   ·rename_i hu
    cases hs
    obtain ⟨b,rfl,_⟩:=DataW.trod_bool hu h
    exact ⟨[.bool b],[]++ [],.cons _ _ _ _ _ _ (.bool b) .nil,.cons _ _ _ _ (.bool b) .nil⟩
   ·rename_i hu
    cases hs
    obtain ⟨b,rfl,_,hw⟩:=DataW.trod_string hu h
    obtain ⟨⟨b⟩⟩:=b
    exact ⟨[.str b],[]++ [],.cons _ _ _ _ _ _ (.str b) .nil,.cons _ _ _ _ (.str b hw) .nil⟩
   ·rename_i e hu
    cases he:shB P n e with
    | none=>rw[he]at hs;cases hs
    | some s'=>
      rw[he]at hs
      cases hs
      rcases DataW.trod_slice hu h with ⟨rfl,_⟩ | ⟨a,len,cap,elems,rest,m,hm,rfl,_,_,hlc,hcm,hel,hget,_,_⟩
      ·exact ⟨[.sl (P.cellsOf e) 0 []],[]++ [],.cons _ _ _ _ _ _ (.nil _) .nil,.cons _ _ _ _ (.sl _ 0 s' [] (by simp[maxLen]) (.nil s')) .nil⟩
      ·obtain rfl:fuel=m:=by omega
       obtain ⟨vs,Cs,S,h1,h2,h3,h4⟩:=znh (w:=w) (a:=a) (s:=s') (sz:=P.cellsOf e) len 0 fun i hi=>by
        have hg:=hget i hi
        rw[List.getElem?_eq_getElem (by omega)]at hg
        obtain ⟨us,hus,htr⟩:=Option.bind_eq_some_iff.1 hg
        obtain ⟨_,hul,huc⟩:=World.cells?_some hus
        obtain ⟨Cs,S,hr,hf⟩:=zko fuel n e us _ s' he htr
        refine ⟨us,Cs,S,hul,fun j hj=>?_,hr,hf⟩
        rw[←huc j hj,add_add,Nat.zero_add]
       refine ⟨[.sl (P.cellsOf e) len Cs],_++ [],.cons _ _ _ _ _ _ (.row a len cap (P.cellsOf e) vs Cs S h1 hlc ?_ h3) .nil,.cons _ _ _ _ (.sl _ len s' Cs (by omega) h4) .nil⟩
       intro j hj
       rw[←h2 j hj,Nat.zero_mul,Nat.zero_add]
   ·rename_i fs hu
    obtain ⟨xs,m,hm,_,hlen,hxs,hget⟩:=DataW.trod_struct hu h
    obtain rfl:fuel=m:=by omega
    have:=zlJ (w:=w) hlen hs (Nat.zero_le _) (by
     intro f hf s' hs'
     obtain ⟨i,hi⟩:=List.getElem?_of_mem hf
     have hi':fs[i]? =some f:=by simpa using hi
     have hg:=hget i f hi'
     have hilt:i<xs.length:=by
      rw[hxs]
      exact (Array.getElem?_eq_some_iff.1 hi').1
     rw[List.getElem?_eq_getElem hilt]at hg
     exact zko fuel n f.type _ _ s' hs' hg)
    simpa using this
   ·cases hs
end
theorem Fits.nil_inv {cs:List C} (h:Fits [] cs):cs= []:=by cases h;rfl
theorem Fits.cons_inv {c:Ce} {s:List Ce} {cs:List C} (h:Fits (c::s) cs): ∃d ds,cs=d::ds∧Fit c d∧Fits s ds:=by
 cases h with | cons c d s ds h1 h2=>exact ⟨d,ds,rfl,h1,h2⟩
class Dec (α:Type) extends Enc α where
 sh:List Ce
 ok:α→Prop
 dec: ∀cs,Fits sh cs→∃x,cs=enc x∧ok x
def okl {α:Type} [Dec α] (l:List α):Prop:=l.length≤9223372036854775807∧∀x∈l,Dec.ok x
theorem Fit.int_inv {k:IntKind} {c:C} (h:Fit (.int k) c): ∃n,c= .int k n∧(Lit.int k n).wf=true:=by cases h;exact ⟨_,rfl,by assumption⟩
theorem Fit.bool_inv {c:C} (h:Fit .bool c): ∃b,c= .bool b:=by cases h;exact ⟨_,rfl⟩
theorem Fit.str_inv {c:C} (h:Fit .str c): ∃s,c= .str s∧s.length≤9223372036854775807:=by cases h;exact ⟨_,rfl,by assumption⟩
theorem Rep.dec {α:Type} [Dec α]: ∀{n:Nat} {cs:List C},Rep (Dec.sh α) n cs→∃l:List α,l.length=n∧cs=l.flatMap Enc.enc∧∀x∈l,Dec.ok x
 | 0,cs,h=>by cases h;exact ⟨[],rfl,rfl,by simp⟩
 | n+1,cs,h=>by
   cases h with
   | cons s n c r h1 h2=>
     obtain ⟨x,rfl,hx⟩:=Dec.dec _ h1
     obtain ⟨l,hl,rfl,hok⟩:=Rep.dec h2
     exact ⟨x::l,by simp[hl],rfl,fun y hy=>by
      rcases List.mem_cons.1 hy with rfl | hy
      ·exact hx
      ·exact hok y hy⟩
theorem Fit.sl_inv {α:Type} [Dec α] {sz:Nat} {c:C} (h:Fit (.sl sz (Dec.sh α)) c) (hsz:Enc.sz α=sz): ∃l:List α,c=lc l∧okl l:=by
 subst hsz
 cases h with
 | sl sz n s cs h1 h2=>
   obtain ⟨l,rfl,rfl,hok⟩:=h2.dec
   exact ⟨l,rfl,h1,hok⟩
def okI (n:Int):Prop:=-9223372036854775808≤n∧n≤9223372036854775807
theorem zbm {n:Int} (h:(Lit.int .i64 n).wf=true):okI n:=by
 simp only[Lit.wf,Bool.and_eq_true,decide_eq_true_eq]at h
 have h1:IntKind.i64.min= -9223372036854775808:=rfl
 have h2:IntKind.i64.max=9223372036854775807:=rfl
 unfold okI
 omega
instance:Dec Int where
 sh:=[.int .i64]
 ok:=okI
 dec cs h:=by
  obtain ⟨d,ds,rfl,h1,h2⟩:=h.cons_inv
  obtain rfl:=h2.nil_inv
  obtain ⟨n,rfl,hw⟩:=h1.int_inv
  exact ⟨n,rfl,zbm hw⟩
instance:Dec UInt8 where
 sh:=[.int .u8]
 ok:=fun _=>True
 dec cs h:=by
  obtain ⟨d,ds,rfl,h1,h2⟩:=h.cons_inv
  obtain rfl:=h2.nil_inv
  obtain ⟨n,rfl,hw⟩:=h1.int_inv
  simp only[Lit.wf,Bool.and_eq_true,decide_eq_true_eq]at hw
  have e1:IntKind.u8.min=0:=rfl
  have e2:IntKind.u8.max=255:=rfl
  refine ⟨UInt8.ofNat n.toNat,?_,trivial⟩
  show _= [C.int .u8 ((UInt8.ofNat n.toNat).toNat:Int)]
  rw[UInt8.toNat_ofNat']
  congr 2
  omega
instance:Dec Bool where
 sh:=[.bool]
 ok:=fun _=>True
 dec cs h:=by
  obtain ⟨d,ds,rfl,h1,h2⟩:=h.cons_inv
  obtain rfl:=h2.nil_inv
  obtain ⟨n,rfl⟩:=h1.bool_inv
  exact ⟨n,rfl,trivial⟩
instance:Dec (List UInt8) where
 sh:=[.str]
 ok:=fun s=>s.length≤9223372036854775807
 dec cs h:=by
  obtain ⟨d,ds,rfl,h1,h2⟩:=h.cons_inv
  obtain rfl:=h2.nil_inv
  obtain ⟨n,rfl,hw⟩:=h1.str_inv
  exact ⟨n,rfl,hw⟩
section
variable {H:Type} {enc:TypeId × Value→H} {P:Program} {w:World} {base:Nat} {spare:Nat→Bool} {held:Bool}
theorem zsg {t:TypeId} {v:Value} {d:DataW H} {p:List MemPlace} {s:List Ce} (n:Nat) (hs:shB P n t=some s) (h:DataW.Trod enc P w base spare held t v d p): ∃Cs S,Rds w v.cells.toList Cs S∧Fits s Cs:=by
 obtain ⟨fuel,hf⟩:=h
 exact zko fuel n t _ _ s hs hf
theorem Rds.nil_inv {vs:List Value} {S:List Nat} (h:Rds w vs [] S):vs= []:=by cases h;rfl
theorem Rds.cons_inv {vs:List Value} {c:C} {cs:List C} {S:List Nat} (h:Rds w vs (c::cs) S): ∃v r,vs=v::r∧Base w [] v c∧∃T,Rds w r cs T:=by
 cases h with | cons v c S1 vs cs T h1 h2=>exact ⟨v,vs,rfl,⟨S1,h1,by simp⟩,T,h2⟩
theorem Base.val {S0:List Nat} {v u:Value} {c:C} (h:Base w S0 v c) (hu:valC c=some u):v=u:=by
 obtain ⟨F,hF,_⟩:=h
 exact hF.val hu
theorem zo5 {e:TypeId} {t:TypeId} {r:Reach} {b:Nat} {v:Value} (ht:P.underlying t=some (.slice e)) (h:Value.okWide P w r b t v):v.cells.toList= [v]:=by
 obtain ⟨a,l,c,rfl⟩:=Go.WideShapes.okWide_slice ht h;rfl
theorem Con.below {f:FuncId} {args:List Value} {rds:List (Value × C)} {b:Bool} {W:World} (h:Con P f args [] rds (fun _:Unit=>.bool b) (fun _=>[])) (hb: ∀p∈rds,Base W [] p.1 p.2):
 Calls P f args.toArray W fun e w'=>e= .returned (.bool b)∧Below W.heap.size W w':=by
 refine (h W [] (St.nil W) hb).mono ?_
 rintro e w' ⟨_,rfl,hs⟩
 exact ⟨rfl,hs.os,hs.tape,hs.output,hs.size,fun k hk=>hs.base k hk (by simp)⟩
end
end Go.Proofs.YtfgjhefhlabpkaaGreat.Sl
