/-
  The rules of the small separation logic, continued: slices whose elements bear slices. An element is opened: its slices become items of their own; later it is closed again. Generic: no statement about a given function.
-/
import Derived.Test.YtfgjhefhlabpkaaGreatSb
namespace Go.Proofs.YtfgjhefhlabpkaaGreat.Sl
open Go Go.RowKit
def slN:List C→Nat
 | []=>0
 | c::r=>(match c with | .sl ..=>1 | _=>0)+slN r
def opnC:List C→List Value→List C
 | [],_=>[]
 | c::r,Vs=>match c with
   | .sl _ _ _=>match Vs with
     | V::Vs=>.raw V::opnC r Vs
     | []=>c::opnC r []
   | _=>c::opnC r Vs
def opnI:List C→List Value→List Item
 | [],_=>[]
 | c::r,Vs=>match c with
   | .sl _ _ _=>match Vs with
     | V::Vs=>.own V c::opnI r Vs
     | []=>opnI r []
   | _=>opnI r Vs
theorem Ows.opn {w:World} : ∀{us:List Value} {cs:List C} {S:List Nat},Ows w us cs S→∃Vs,Vs.length=slN cs∧Ows w us (opnC cs Vs) []∧sats w (opnI cs Vs) S
 | _,[],_,h=>by cases h;exact ⟨[],rfl,.nil,rfl⟩
 | _,c::cs,_,h=>by
   cases h with
   | cons u c S us cs T h1 h2=>
     obtain ⟨Vs,hl,h3,h4⟩:=Ows.opn h2
     cases c with
     | sl sz n ds=>exact ⟨u::Vs,by simp[slN,hl,Nat.add_comm],.cons u _ [] _ _ [] (.raw u h1.oneCell) h3,S,T,rfl,h1,h4⟩
     | int k n=>cases h1;exact ⟨Vs,by simp[slN,hl],.cons _ _ [] _ _ [] (.int k n) h3,h4⟩
     | bool b=>cases h1;exact ⟨Vs,by simp[slN,hl],.cons _ _ [] _ _ [] (.bool b) h3,h4⟩
     | str s=>cases h1;exact ⟨Vs,by simp[slN,hl],.cons _ _ [] _ _ [] (.str s) h3,h4⟩
     | raw v=>cases h1 with | raw _ ho=>exact ⟨Vs,by simp[slN,hl],.cons _ _ [] _ _ [] (.raw _ ho) h3,h4⟩
     | any=>cases h1 with | any _ ho=>exact ⟨Vs,by simp[slN,hl],.cons _ _ [] _ _ [] (.any _ ho) h3,h4⟩
def goneC:C→Bool
 | .sl ..=>false
 | _=>true
theorem Ow.gone {w:World} {u:Value} {c:C} {S:List Nat} (h:Ow w u c S) (hg:goneC c=true):S= []:=by cases h<;>first | rfl | cases hg
inductive Cls:List C→List Item→List C→Prop
 | nil:Cls [] [] []
 | keep {c:C} {cs:List C} {is:List Item} {ds:List C} :Cls cs is ds→Cls (c::cs) is (c::ds)
 | fill {V:Value} {c:C} {cs:List C} {is:List Item} {ds:List C} :Cls cs is ds→Cls (.raw V::cs) (.own V c::is) (c::ds)
 | drop {c:C} {cs:List C} {is:List Item} {ds:List C} :goneC c=true→Cls cs is ds→Cls (c::cs) is (.any::ds)
theorem Ows.cls {w:World} {cs:List C} {is:List Item} {ds:List C} (hc:Cls cs is ds): ∀{us:List Value} {S A:List Nat},Ows w us cs S→sats w is A→∃S',Ows w us ds S'∧S'.Perm (S++A):=by
 induction hc with
 | nil=>intro us S A h hA;cases h;rw[show A= [] from hA];exact ⟨[],.nil,.refl _⟩
 | keep _ ih=>
   intro us S A h hA
   cases h with
   | cons u c S1 us cs T h1 h2=>
     obtain ⟨S',h3,hp⟩:=ih h2 hA
     exact ⟨S1++S',.cons u _ S1 us _ S' h1 h3,by rw[List.append_assoc];exact List.Perm.append_left _ hp⟩
 | fill _ ih=>
   intro us S A h hA
   obtain ⟨A1,A2,rfl,hA1,hA2⟩:=hA
   cases h with
   | cons u c S1 us cs T h1 h2=>
     obtain ⟨S',h3,hp⟩:=ih h2 hA2
     cases h1 with
     | raw v ho=>
       refine ⟨A1++S',.cons _ _ A1 us _ S' hA1 h3,?_⟩
       rw[List.nil_append]
       exact (List.Perm.append_left A1 hp).trans (by rw[←List.append_assoc,←List.append_assoc];exact List.Perm.append_right _ List.perm_append_comm)
 | drop hg _ ih=>
   intro us S A h hA
   cases h with
   | cons u c S1 us cs T h1 h2=>
     obtain ⟨S',h3,hp⟩:=ih h2 hA
     have h0:=h1.gone hg
     subst h0
     exact ⟨S',.cons u .any [] us _ S' (.any _ h1.oneCell) h3,hp⟩
theorem St.trade {w0 w:World} {S0:List Nat} {is js r:List Item} (h:St w0 S0 (is++r) w) (hs: ∀A,sats w is A→∃A',sats w js A'∧A'.Perm A):St w0 S0 (js++r) w:=
 h.step fun A hA hn=>by
  obtain ⟨A',h1,hp⟩:=hs A hA
  exact ⟨A',Chg.refl w A,h1,hp.symm.nodup hn,fun b hb=>.inl (hp.mem_iff.1 hb)⟩
theorem St.opn {w0 w:World} {S0:List Nat} {v:Value} {sz n:Nat} {pre cs post:List C} {r:List Item} (h:St w0 S0 (.own v (.sl sz n (pre++(cs++post)))::r) w):
 ∃Vs,Vs.length=slN cs∧St w0 S0 (.own v (.sl sz n (pre++(opnC cs Vs++post)))::(opnI cs Vs++r)) w:=by
 have key: ∀A,Ow w v (.sl sz n (pre++(cs++post))) A→∃Vs,Vs.length=slN cs∧∃A1 A2,Ow w v (.sl sz n (pre++(opnC cs Vs++post))) A1∧sats w (opnI cs Vs) A2∧(A1++A2).Perm A:=by
  intro A hA
  generalize hg:pre++(cs++post)=ds at hA
  cases hA with
  | nil=>
    have h1:pre= []:=by cases pre<;>simp_all
    have h2:cs= []:=by subst h1;cases cs<;>simp_all
    have h3:post= []:=by subst h1 h2;simpa using hg
    subst h1 h2 h3
    exact ⟨[],rfl,[],[],.nil sz,rfl,.refl _⟩
  | row b n cap e sz cur vs _ S hh hc hm hs ht hr=>
    subst hg
    obtain ⟨S1,S2,rfl,h1,h2⟩:=hr.split
    obtain ⟨S3,S4,rfl,h3,h4⟩:=h2.split
    obtain ⟨Vs,hl,h5,h6⟩:=h3.opn
    refine ⟨Vs,hl,b::(S1++([]++S4)),S3,?_,h6,?_⟩
    ·refine .row b n cap e sz cur vs _ _ hh hc hm hs ht ?_
     have:=h1.append (h5.append h4)
     rwa [List.take_append_drop,List.take_append_drop]at this
    ·rw[List.cons_append,List.nil_append]
     refine List.Perm.cons _ ?_
     rw[List.append_assoc]
     exact List.Perm.append_left _ List.perm_append_comm
 obtain ⟨os,tape,output,size,base,S,hS,hnd,hin⟩:=h
 obtain ⟨A,B,rfl,hA,hB⟩:=hS
 obtain ⟨Vs,hl,A1,A2,h1,h2,hp⟩:=key A hA
 refine ⟨Vs,hl,os,tape,output,size,base,A1++(A2++B),⟨A1,A2++B,rfl,h1,zcv.2 ⟨A2,B,rfl,h2,hB⟩⟩,?_,?_⟩
 ·have:(A1++(A2++B)).Perm (A++B):=by rw[←List.append_assoc];exact List.Perm.append_right _ hp
  exact this.symm.nodup hnd
 ·intro b hb
  refine hin b ?_
  rw[←List.append_assoc]at hb
  exact (List.Perm.append_right B hp).mem_iff.1 hb
theorem Ow.cls {w:World} {v:Value} {sz n:Nat} {pre cs post ds:List C} {js:List Item} {A B:List Nat} (hc:Cls cs js ds) (hA:Ow w v (.sl sz n (pre++(cs++post))) A) (hB:sats w js B):
 ∃S',Ow w v (.sl sz n (pre++(ds++post))) S'∧S'.Perm (A++B):=by
 generalize hg:pre++(cs++post)=xs at hA
 cases hA with
 | nil=>
   have h1:pre= []:=by cases pre<;>simp_all
   have h2:cs= []:=by subst h1;cases cs<;>simp_all
   have h3:post= []:=by subst h1 h2;simpa using hg
   subst h1 h2 h3
   cases hc
   rw[show B= [] from hB]
   exact ⟨[],.nil sz,.refl _⟩
 | row b n cap e sz cur vs _ S hh hcp hm hs ht hr=>
   subst hg
   obtain ⟨S1,S2,rfl,h1,h2⟩:=hr.split
   obtain ⟨S3,S4,rfl,h3,h4⟩:=h2.split
   obtain ⟨S',h5,hp⟩:=Ows.cls hc h3 hB
   refine ⟨b::(S1++(S'++S4)),?_,?_⟩
   ·refine .row b n cap e sz cur vs _ _ hh hcp hm hs ht ?_
    have h6:=h5.length
    have h7:=h1.append (h5.append h4)
    have h8:=h3.length
    rwa [List.take_append_drop,List.take_append_drop]at h7
   ·rw[List.cons_append]
    refine List.Perm.cons _ ?_
    rw[List.append_assoc]
    refine List.Perm.append_left _ ?_
    have h7:(S'++S4).Perm ((S3++B)++S4):=List.Perm.append_right _ hp
    refine h7.trans ?_
    rw[List.append_assoc,List.append_assoc]
    exact List.Perm.append_left _ List.perm_append_comm
theorem St.cls {w0 w:World} {S0:List Nat} {v:Value} {sz n:Nat} {pre cs post ds:List C} {js r:List Item} (hc:Cls cs js ds) (h:St w0 S0 (.own v (.sl sz n (pre++(cs++post)))::(js++r)) w):
 St w0 S0 (.own v (.sl sz n (pre++(ds++post)))::r) w:=by
 have h':St w0 S0 ((.own v (.sl sz n (pre++(cs++post)))::js)++r) w:=h
 refine St.trade (js:=[.own v (.sl sz n (pre++(ds++post)))]) h' fun A hA=>?_
 obtain ⟨A1,A2,rfl,h1,h2⟩:=hA
 obtain ⟨S',h3,hp⟩:=Ow.cls hc h1 h2
 exact ⟨S',⟨S',[],by simp,h3,rfl⟩,hp⟩
def hl {α:Type} [Enc α] (l:List α) (k:Nat) (zs:List C):C:=.sl (Enc.sz α) l.length ((l.take k).flatMap Enc.enc++(zs++(l.drop (k+1)).flatMap Enc.enc))
theorem zpH {α:Type} [Enc α] {l:List α} {k:Nat} {x:α} (hx:l[k]? =some x):l.flatMap (Enc.enc (α:=α))=(l.take k).flatMap Enc.enc++(Enc.enc x++(l.drop (k+1)).flatMap Enc.enc):=by
 obtain ⟨hk,rfl⟩:=List.getElem?_eq_some_iff.1 hx
 have h:l=l.take k++l[k]::l.drop (k+1):=by rw[←List.drop_eq_getElem_cons hk,List.take_append_drop]
 conv=>lhs;rw[h]
 rw[List.flatMap_append,List.flatMap_cons]
theorem zkt {α:Type} [Enc α] {l:List α} {k:Nat} {x:α} (hx:l[k]? =some x):lc l=hl l k (Enc.enc x):=by
 unfold lc hl
 rw[zpH hx]
theorem ztN {α:Type} [Enc α] {l:List α} {k:Nat} {x y:α} (hx:l[k]? =some x):lc (l.set k y)=hl l k (Enc.enc y):=by
 have hk:=(List.getElem?_eq_some_iff.1 hx).1
 have hy:(l.set k y)[k]? =some y:=by rw[List.getElem?_set,if_pos rfl,if_pos hk]
 unfold lc hl
 rw[zpH hy,List.length_set,List.drop_set_of_lt (by omega),List.take_set_of_le (Nat.le_refl _)]
def Tup:Nat→Type
 | 0=>Unit
 | 1=>Value
 | n+2=>Value × Tup (n+1)
def tupL:(n:Nat)→Tup n→List Value
 | 0,_=>[]
 | 1,(v:Value)=>[v]
 | n+2,(x:Value × Tup (n+1))=>x.1::tupL (n+1) x.2
theorem zkH: ∀(n:Nat) (Vs:List Value),Vs.length=n→∃X:Tup n,tupL n X=Vs
 | 0,Vs,h=>⟨(),by simp only[List.length_eq_zero_iff]at h;rw[h];rfl⟩
 | 1,[V],_=>⟨(V:Value),rfl⟩
 | n+2,V::Vs,h=>by
   obtain ⟨X,hX⟩:=zkH (n+1) Vs (by simpa using h)
   exact ⟨((V,X):Value × Tup (n+1)),by show V::tupL (n+1) X=_;rw[hX]⟩
section
variable {P:Program} {w0:World} {S0:List Nat} {R:Type} {m:Option R} {n:Nat} {fr:Fr} {is:List Item} {Q:R→Exit→Act→World→Prop}
variable {dst:Option Nat} {ty:TypeId} {pos:String} {aft:Array Edge} {gd:Option (Nat × Bool)}
def Gh (w0:World) (S0:List Nat) (is:List Item) {X:Type} (is':X→List Item):Prop:=∀w,St w0 S0 is w→∃x,St w0 S0 (is' x) w
theorem TO.ghost {X:Type} {is':X→List Item} {ops:Array Oper} {l:List Oper} (g:Gh w0 S0 is is') (h: ∀x,TO P w0 S0 m n fr (is' x) ops l Q):TO P w0 S0 m n fr is ops l Q:=by
 intro r hr a w hf hs
 obtain ⟨x,hx⟩:=g w hs
 exact h x r hr a w hf hx
theorem TW.ghost {X:Type} {is':X→List Item} {c:Code} (g:Gh w0 S0 is is') (h: ∀x,TW P w0 S0 m n fr (is' x) c Q):TW P w0 S0 m n fr is c Q:=by
 intro r hr a w hf hs
 obtain ⟨x,hx⟩:=g w hs
 exact h x r hr a w hf hx
theorem TE.ghost {X:Type} {is':X→List Item} {e:Exit} (g:Gh w0 S0 is is') (h: ∀x,TE w0 S0 m n fr (is' x) e Q):TE w0 S0 m n fr is e Q:=by
 intro r hr a w hf hs
 obtain ⟨x,hx⟩:=g w hs
 exact h x r hr a w hf hx
theorem TA.ghost {X:Type} {is':X→List Item} {isH:List Item} {ops:Array Oper} {fuel:Nat} {listed:Array Bool} (g:Gh w0 S0 is is') (h: ∀x,TA P w0 S0 m n fr (is' x) isH ops fuel listed Q):TA P w0 S0 m n fr is isH ops fuel listed Q:=by
 intro r hr a w hf hs
 obtain ⟨x,hx⟩:=g w hs
 exact h x r hr a w hf hx
theorem Gh.open {α:Type} [Enc α] {l:List α} {x:α} {v:Value} {r:List Item} (q:Nat) (k:Nat) (ks:List Nat) (hp:pulls ks is=some (.own v (lc l)::r)) (hx:l[k]? =some x) (hq:slN (Enc.enc x)=q):
 Gh w0 S0 is (fun X:Tup q=>.own v (hl l k (opnC (Enc.enc x) (tupL q X)))::(opnI (Enc.enc x) (tupL q X)++r)):=by
 intro w h
 have h':=h.pulls ks hp
 rw[zkt hx]at h'
 obtain ⟨Vs,hlen,h2⟩:=St.opn h'
 obtain ⟨X,rfl⟩:=zkH q Vs (hlen.trans hq)
 exact ⟨X,h2⟩
theorem Gh.nilItem (sz:Nat):Gh w0 S0 is (fun _:Unit=>.own (.slice none 0 0) (.sl sz 0 [])::is):=fun _ h=>⟨(),h.nilItem sz⟩
theorem Y.load_hole {α:Type} [Enc α] {l:List α} {z:α} {v u:Value} {x:Operand} {t k sz c s i:Nat} {zs:List C} {ag:Bool} {us:List Value} (hk:kindB P t=some (ag,s)) (hsz:Enc.sz α=sz) (hi:is[i]? =some (.own v (hl l k zs))) (hz:l[k]? =some z)
 (hx:ev fr x=some (elP v (k*sz+c))) (hus:valsR ((zs.drop c).take s)=some us) (hln:Nat.beq us.length s=true) (ha:(ag||Nat.beq s 1)=true) (hu:loaded ag us=some u) (hzs:Nat.beq zs.length sz=true):
 Y P w0 S0 n fr is ⟨dst,.load t x,ty,pos,aft,gd⟩ u:=by
 subst hsz
 intro a w hf hs
 have hkl:=(List.getElem?_eq_some_iff.1 hz).1
 have hlow:k*Enc.sz α+Enc.sz α≤l.length*Enc.sz α:=by rw[←Nat.succ_mul];exact Nat.mul_le_mul_right _ hkl
 have hzl:zs.length=Enc.sz α:=by simpa using hzs
 have hpre:((l.take k).flatMap (Enc.enc (α:=α))).length=k*Enc.sz α:=by rw[zbM,List.length_take,Nat.min_eq_left (by omega)]
 obtain ⟨A,hA,_⟩:=zcr hi hs.own.choose_spec.1
 obtain ⟨T,hT,_⟩:=Ow.rd hA
 unfold hl at hT
 generalize hg:(l.take k).flatMap (Enc.enc (α:=α))++(zs++(l.drop (k+1)).flatMap Enc.enc)=cs at hT
 generalize hln':l.length=ln at hT hlow
 cases hT with
 | nil=>omega
 | row a0 n' cap _ vs _ S h1 h2 h3 h4=>
   subst hg
   have h5:=h4.length
   obtain ⟨S1,S2,rfl,_,h6⟩:=h4.split
   rw[hpre]at h6
   have hsplit:zs++(l.drop (k+1)).flatMap (Enc.enc (α:=α))=zs.take c++((zs.drop c).take s++((zs.drop c).drop s++(l.drop (k+1)).flatMap Enc.enc)):=by
    conv=>lhs;rw[←List.take_append_drop c zs,←List.take_append_drop s (zs.drop c)]
    simp
   rw[hsplit]at h6
   obtain ⟨S3,S4,rfl,_,h7⟩:=h6.split
   obtain ⟨S5,S6,rfl,h8,_⟩:=h7.split
   have he:=h8.valsR hus
   have hl':us.length=s:=by simpa using hln
   have h9:=h8.length
   rw[←he]at hl' hu
   by_cases hs0:s=0
   ·subst hs0
    have:ag=true:=by simpa using ha
    subst this
    have hnil:us= []:=List.eq_nil_of_length_eq_zero (by rw[he]at hl';exact hl')
    subst hnil
    have:=zcg (P:=P) (w:=w) (a:=a0.add (k*Enc.sz α+c)) (us:=[]) (v:=.agg #[]) hk (by simp) (.inl ⟨rfl,rfl,rfl⟩)
    rw[he]at hu
    simp only[loaded,cond_true,Option.some.injEq]at hu
    subst hu
    simp[execOp,hf.eval hx,elP,Instr.loadAt,Instr.sureAddr,this]
   ·have hc2:c≤zs.length:=by
     rcases Nat.le_total c zs.length with h | h
     ·exact h
     ·have h10:(zs.drop c).take s= []:=by rw[List.drop_of_length_le h,List.take_nil]
      have h11:=hl'.symm.trans (h9.trans (by rw[h10];rfl:_=0))
      omega
    have hct:(zs.take c).length=c:=by rw[List.length_take];omega
    rw[hct]at h8 hl' he h9 hu
    have hv:(ag=true∧us.length=s∧u= .agg us.toArray)∨(ag=false∧us= [u]):=by
     rw[←he]
     unfold loaded at hu
     cases ag with
     | true=>left;simp only[cond_true,Option.some.injEq]at hu;exact ⟨rfl,hl',hu.symm⟩
     | false=>
       right
       simp only[cond_false]at hu
       have h1:s=1:=by simpa using ha
       refine ⟨rfl,?_⟩
       generalize hq:List.take ((zs.drop c).take s).length (List.drop c (List.drop (k*Enc.sz α) vs))=q at hl' hu
       match q,hl',hu with
       | [q],_,hu=>simp at hu;rw[hu]
       | [],hl',_=>simp at hl';omega
       | _::_::_,hl',_=>simp at hl';omega
    have hcell: ∀j,j<us.length→w.cell? ((a0.add (k*Enc.sz α+c)).add j)=us[j]?:=by
     intro j hj
     have hj2:j<((zs.drop c).take s).length:=by rw[←h9,he];exact hj
     rw[add_add,←he,List.getElem?_take,if_pos hj2,List.getElem?_drop,List.getElem?_drop]
     rw[h3 _ (by
      simp only[List.length_take,List.length_drop]at hj2
      omega)]
     congr 1
     omega
    have:=zcg (P:=P) hk hcell hv
    simp[execOp,hf.eval hx,elP,Instr.loadAt,Instr.sureAddr,this]
theorem Ows.of_valsR {w:World} : ∀{cs:List C} {vs:List Value},valsR cs=some vs→(∀v∈vs,v.oneCell'=true)→Ows w vs cs []
 | [],vs,h,_=>by simp[valsR]at h;subst h;exact .nil
 | c::cs,vs,h,ho=>by
   unfold valsR at h
   cases h3:valR c with
   | none=>rw[h3]at h;simp at h
   | some u=>
     cases h4:valsR cs with
     | none=>rw[h3,h4]at h;simp at h
     | some us'=>
       rw[h3,h4]at h
       simp only[Option.some.injEq]at h
       subst h
       have h5:Ow w u c []:=by
        cases c with
        | int k n=>simp[valR]at h3;subst h3;exact .int k n
        | bool b=>simp[valR]at h3;subst h3;exact .bool b
        | str s=>simp[valR]at h3;subst h3;exact .str s
        | raw v=>simp[valR]at h3;subst h3;exact .raw v (ho v (by simp))
        | any=>simp[valR]at h3
        | sl a b c=>simp[valR]at h3
       exact .cons u c [] us' cs [] h5 (Ows.of_valsR h4 fun v hv=>ho v (by simp[hv]))
theorem Ow.noSR {w:World} {u v:Value} {c:C} {S:List Nat} (h:Ow w u c S) (hv:valR c=some v):S= []:=by
 cases h<;>simp_all[valR]
theorem Ows.noSR {w:World} : ∀{us vs:List Value} {cs:List C} {S:List Nat},Ows w us cs S→valsR cs=some vs→S= []
 | _,_,[],_,h,_=>by cases h;rfl
 | _,vs,c::cs,_,h,hv=>by
   cases h with
   | cons v c S vs' cs T h1 h2=>
     unfold valsR at hv
     cases h3:valR c with
     | none=>rw[h3]at hv;simp at hv
     | some u=>
       cases h4:valsR cs with
       | none=>rw[h3,h4]at hv;simp at hv
       | some us'=>rw[h1.noSR h3,Ows.noSR h2 h4];rfl
theorem zqR (p z q us:List Value) (c:Nat) (h:c+us.length≤z.length):splice (p++(z++q)) (p.length+c) us=p++(splice z c us++q):=by
 rw[zfl,ziT _ _ _ _ h]
theorem Ef.store_hole {α:Type} [Enc α] {l:List α} {z:α} {v u:Value} {x y:Operand} {t k sz c s:Nat} {zs zs':List C} {ag:Bool} {us zv:List Value} (i:Nat) (hk:kindB P t=some (ag,s)) (hsz:Enc.sz α=sz) (hi:is[i]? =some (.own v (hl l k zs))) (hz:l[k]? =some z)
 (hx:ev fr x=some (elP v (k*sz+c))) (hy:ev fr y=some u) (hv:Cel w0 S0 is u us) (hln:Nat.beq us.length s=true) (hzs:Nat.beq zs.length sz=true) (hle:Nat.ble (c+us.length) sz=true)
 (hzv:valsR zs=some zv) (hzv':valsR zs'=some (splice zv c us)) {is':List Item} (his:is.set i (.own v (hl l k zs'))=is'):
 Ef P w0 S0 n fr is ⟨none,.store t x y,ty,pos,aft,gd⟩ (fun _:Unit=>undef) (fun _=>is'):=by
 subst hsz
 have hle':c+us.length≤Enc.sz α:=Nat.le_of_ble_eq_true hle
 have hzl:zs.length=Enc.sz α:=by simpa using hzs
 intro a w K Q hf hst hK
 obtain ⟨hv1,h1⟩:=hv w hst
 have hkl:=(List.getElem?_eq_some_iff.1 hz).1
 have hlow:k*Enc.sz α+Enc.sz α≤l.length*Enc.sz α:=by rw[←Nat.succ_mul];exact Nat.mul_le_mul_right _ hkl
 have hpre:((l.take k).flatMap (Enc.enc (α:=α))).length=k*Enc.sz α:=by rw[zbM,List.length_take,Nat.min_eq_left (by omega)]
 have hrow: ∀A,Ow w v (hl l k zs) A→∃b cap cur e' p q S1 S2,v= .slice (some ⟨b,0,none⟩) l.length cap∧A=b::(S1++S2)∧w.heap[b]? =some (.cells cur e' (0,0))∧l.length≤cap∧cap≤maxLen∧cap*Enc.sz α≤cur.size∧
  cur.toList.take (l.length*Enc.sz α)=p++(zv++q)∧p.length=k*Enc.sz α∧(∀u∈zv,u.oneCell'=true)∧Ows w p ((l.take k).flatMap Enc.enc) S1∧Ows w q ((l.drop (k+1)).flatMap Enc.enc) S2:=by
  intro A hA
  unfold hl at hA
  generalize hg:(l.take k).flatMap (Enc.enc (α:=α))++(zs++(l.drop (k+1)).flatMap Enc.enc)=cs at hA
  generalize hn:l.length=ln at hA
  cases hA with
  | nil=>omega
  | row b n cap e sz cur vs cs S hh hc hm hs ht hr=>
    subst hg
    subst hn
    obtain ⟨S1,S2,rfl,k1,k2⟩:=hr.split
    obtain ⟨S3,S4,rfl,k3,k4⟩:=k2.split
    have k5:=k3.length
    obtain ⟨T,hT,_⟩:=k3.rds
    have k6:=hT.valsR hzv
    have k7:=k3.noSR hzv
    subst k7
    rw[k6]at k3
    refine ⟨b,cap,cur,e,_,_,S1,S4,rfl,by simp,hh,hc,hm,hs,?_,?_,k3.oneCells,k1,k4⟩
    ·rw[ht,←k6,List.take_append_drop,List.take_append_drop]
    ·rw[List.length_take,hpre]
     have:=hr.length
     rw[List.length_append,hpre]at this
     omega
 obtain ⟨A0,hA0,_⟩:=zcr hi hst.own.choose_spec.1
 obtain ⟨b,cap,cur,e',p,q,S1,S2,rfl,_,hh,hlc,hcm,hcs,ht,hpl,hone,_,_⟩:=hrow A0 hA0
 have hzvl:zv.length=Enc.sz α:=by
  have h2:=congrArg List.length ht
  have:(Ows.of_valsR (w:=w) hzv hone).length=_:=rfl
  rw[(Ows.of_valsR (w:=w) hzv hone).length,hzl]
 have hcap:l.length*Enc.sz α≤cap*Enc.sz α:=Nat.mul_le_mul_right _ hlc
 have hfit:k*Enc.sz α+c+us.length≤cur.toList.length:=by rw[Array.length_toList (xs:=cur)];omega
 have hrun:=zeF (P:=P) (off:=k*Enc.sz α+c) hk hh hv1 hln h1 (by rw[←Array.length_toList (xs:=cur)];exact hfit)
 have he:(execOp a.eval ⟨none,.store t x y,ty,pos,aft,gd⟩).run P w= .ok .skip (w.setRow b (splice cur.toList (k*Enc.sz α+c) us).toArray):=by
  simp[execOp,hf.eval hx,hf.eval hy,elP,Instr.storeAt,Instr.sureAddr,add_lit,hrun]
 unfold Oper.wp
 rw[he]
 refine hK () _ ?_
 subst his
 refine hst.upd hi fun A hA hnd=>?_
 obtain ⟨b2,cap2,cur2,e2,p2,q2,T1,T2,hb2,rfl,hh2,_,_,_,ht2,hpl2,_,k1,k2⟩:=hrow A hA
 obtain ⟨rfl,rfl⟩:b2=b∧cap2=cap:=by
  have:=congrArg (fun v:Value=>match v with | .slice (some a) _ c=>(a.block,c) | _=>(0,0)) hb2
  simp only[Prod.mk.injEq]at this
  exact ⟨this.1.symm,this.2.symm⟩
 obtain ⟨rfl,rfl⟩:cur2=cur∧e2=e':=by rw[hh]at hh2;cases hh2;exact ⟨rfl,rfl⟩
 have hpq:p2=p:=by
  have h2:=congrArg (List.take (k*Enc.sz α)) (ht2.symm.trans ht)
  rwa [List.take_append_of_le_length (by omega),List.take_append_of_le_length (by omega),List.take_of_length_le (by omega),List.take_of_length_le (by omega)]at h2
 subst hpq
 have hq2:q2=q:=by
  have:=ht2.symm.trans ht
  rw[List.append_cancel_left_eq,List.append_cancel_left_eq]at this
  exact this
 subst hq2
 have hbn: ∀x∈T1++T2,x≠b2:=by
  intro y hy e
  subst e
  exact (List.nodup_cons.1 hnd).1 hy
 have hkeep: ∀x∈T1++T2,(w.setRow b2 (splice cur2.toList (k*Enc.sz α+c) us).toArray).heap[x]? =w.heap[x]?:=fun x hx=>(Chg.setRow w b2 _).keep x (by
  rcases List.mem_append.1 hx with h | h
  ·exact k1.lt x h
  ·exact k2.lt x h) (by simpa using hbn x hx)
 refine ⟨b2::(T1++([]++T2)),?_,?_,by simpa using hnd,fun x hx=>.inl (by simpa using hx)⟩
 ·refine ⟨(Chg.setRow w b2 _).os,(Chg.setRow w b2 _).tape,(Chg.setRow w b2 _).output,(Chg.setRow w b2 _).size,fun x hx hn=>(Chg.setRow w b2 _).keep x hx ?_⟩
  intro hxb
  exact hn (by simp at hxb;subst hxb;simp)
 ·have hlen:(splice cur2.toList (k*Enc.sz α+c) us).length=cur2.size:=by
   rw[zfC _ _ _ hfit,Array.length_toList]
  show Ow _ _ (hl l k zs') _
  unfold hl
  refine .row b2 l.length cap2 e2 (Enc.sz α) _ (p2++(splice zv c us++q2)) _ _ (setRow_heap w b2 _ _ e2 _ hh) hlc hcm (by simpa[hlen] using hcs) ?_ ?_
  ·rw[List.toList_toArray,zk5 _ _ _ _ (by omega) (by rw[Array.length_toList (xs:=cur2)];exact Nat.le_trans hcap hcs),ht,←hpl,zqR _ _ _ _ _ (by omega)]
  ·have k3:=k1.keep (w':=w.setRow b2 (splice cur2.toList (k*Enc.sz α+c) us).toArray) fun x hx=>hkeep x (by simp[hx])
   have k4:=k2.keep (w':=w.setRow b2 (splice cur2.toList (k*Enc.sz α+c) us).toArray) fun x hx=>hkeep x (by simp[hx])
   refine k3.append ((Ows.of_valsR hzv' ?_).append k4)
   intro u hu
   simp only[splice,List.mem_append]at hu
   rcases hu with (h | h) | h
   ·exact hone u (List.mem_of_mem_take h)
   ·exact h1 u h
   ·exact hone u (List.mem_of_mem_drop h)
def elv (w:World) (v:Value) (j:Nat):Value:=match v with
 | .slice (some a) _ _=>(w.cell? (a.add j)).getD undef
 | _=>undef
def bvals (w:World) (v:Value) (b:Nat):Nat→List C→List Value
 | _,[]=>[]
 | j,c::r=>(match valR c with | some u=>u | none=>elv w v (b+j))::bvals w v b (j+1) r
theorem zoe {w w':World} {v:Value} {b:Nat} : ∀{us:List Value} {cs:List C} {S:List Nat} {j:Nat},Rds w' us cs S→(∀i u,us[i]? =some u→elv w v (b+(j+i))=u)→us=bvals w v b j cs
 | _,[],_,_,h,_=>by cases h;rfl
 | _,c::cs,_,j,h,hu=>by
   cases h with
   | cons u c S us cs T h1 h2=>
     unfold bvals
     have ih:=zoe (w:=w) (v:=v) (b:=b) (j:=j+1) h2 fun i u hi=>by
      have:=hu (i+1) u (by simpa using hi)
      rwa [show j+(i+1)=j+1+i by omega]at this
     rw[←ih]
     congr 1
     cases h3:valR c with
     | some q=>exact h1.valR h3
     | none=>exact (hu 0 u (by simp)).symm
theorem Base.row {v:Value} {sz k:Nat} {cs:List C} (h:Base w0 S0 v (.sl sz k cs)) (hk:0<k*sz): ∃a cap vs S,v= .slice (some a) k cap∧vs.length=k*sz∧(∀j,j<k*sz→w0.cell? (a.add j)=vs[j]?)∧Rds w0 vs cs S∧(∀b∈S,b∉S0)∧a.block<w0.heap.size∧a.block∉S0:=by
 obtain ⟨F,hF,hn⟩:=h
 have hlt:=hF.lt
 cases hF with
 | nil=>omega
 | row a n cap sz vs cs S h1 h2 h3 h4=>
   rw[if_neg (by omega)]at hn hlt
   exact ⟨a,cap,vs,S,rfl,h1,h3,h4,fun b hb=>hn b (by simp[hb]),hlt _ (by simp),hn _ (by simp)⟩
theorem Rds.at {w:World} : ∀{vs:List Value} {cs:List C} {S:List Nat} {j:Nat} {c:C},Rds w vs cs S→cs[j]? =some c→∃v T,vs[j]? =some v∧Rd w v c T∧∀b∈T,b∈S
 | _,[],_,_,_,_,h=>by simp at h
 | _,c::cs,_,0,d,h,hj=>by
   cases h with
   | cons u c S us cs T h1 h2=>
     simp only[List.getElem?_cons_zero,Option.some.injEq]at hj
     subst hj
     exact ⟨u,S,rfl,h1,fun b hb=>List.mem_append.2 (.inl hb)⟩
 | _,c::cs,_,j+1,d,h,hj=>by
   cases h with
   | cons u c S us cs T h1 h2=>
     simp only[List.getElem?_cons_succ]at hj
     obtain ⟨v,U,h3,h4,h5⟩:=Rds.at h2 hj
     exact ⟨v,U,by simpa using h3,h4,fun b hb=>List.mem_append.2 (.inr (h5 b hb))⟩
theorem Base.el {α:Type} [Enc α] {l:List α} {v:Value} {k c sz:Nat} {x:α} {d:C} (hb:Base w0 S0 v (lc l)) (hx:l[k]? =some x) (hsz:Enc.sz α=sz) (hd:(Enc.enc x)[c]? =some d):Base w0 S0 (elv w0 v (k*sz+c)) d:=by
 subst hsz
 have hkl:=(List.getElem?_eq_some_iff.1 hx).1
 have hc:c<Enc.sz α:=by rw[←Enc.len x];exact (List.getElem?_eq_some_iff.1 hd).1
 have hlow:k*Enc.sz α+Enc.sz α≤l.length*Enc.sz α:=by rw[←Nat.succ_mul];exact Nat.mul_le_mul_right _ hkl
 obtain ⟨a,cap,vs,S,rfl,h1,h2,h3,h4,_,_⟩:=hb.row (by omega)
 obtain ⟨r,hr⟩:=zhX l k c x hx (Nat.le_of_lt hc)
 have hj:(l.flatMap (Enc.enc (α:=α)))[k*Enc.sz α+c]? =some d:=by
  have:=congrArg (fun q:List C=>q[0]?) hr
  simp only[List.getElem?_drop,Nat.add_zero]at this
  rw[this,List.getElem?_append_left (by rw[List.length_drop,Enc.len];omega),List.getElem?_drop]
  exact hd
 obtain ⟨u,T,h5,h6,h7⟩:=h3.at hj
 refine ⟨T,?_,fun b hb=>h4 b (h7 b hb)⟩
 have:elv w0 (.slice (some a) l.length cap) (k*Enc.sz α+c)=u:=by
  unfold elv
  simp only
  rw[h2 _ (by omega),h5]
  rfl
 rw[this]
 exact h6
theorem Y.load_base {α:Type} [Enc α] {l:List α} {x:Operand} {v:Value} {t k sz c s:Nat} {z:α} {ag:Bool} {u:Value} (hk:kindB P t=some (ag,s)) (hsz:Enc.sz α=sz) (hb:Base w0 S0 v (lc l)) (hz:l[k]? =some z)
 (hx:ev fr x=some (elP v (k*sz+c))) (hl:Nat.beq (((Enc.enc z).drop c).take s).length s=true) (hs0:Nat.blt 0 s=true) (ha:(ag||Nat.beq s 1)=true) (hu:loaded ag (bvals w0 v (k*sz) c (((Enc.enc z).drop c).take s))=some u):
 Y P w0 S0 n fr is ⟨dst,.load t x,ty,pos,aft,gd⟩ u:=by
 subst hsz
 intro a w hf hs
 have hkl:=(List.getElem?_eq_some_iff.1 hz).1
 have hlow:k*Enc.sz α+Enc.sz α≤l.length*Enc.sz α:=by rw[←Nat.succ_mul];exact Nat.mul_le_mul_right _ hkl
 have hs0':0<s:=by simpa using hs0
 have hl':(((Enc.enc z).drop c).take s).length=s:=by simpa using hl
 have hcs:c+s≤Enc.sz α:=by
  rw[List.length_take,List.length_drop,Enc.len]at hl'
  omega
 obtain ⟨a0,cap,vs,S,rfl,h1,h2,h3,h4,h5,h6⟩:=hb.row (by omega)
 have hheap:=hs.base _ h5 h6
 have hcell: ∀j,j<l.length*Enc.sz α→w.cell? (a0.add j)=vs[j]?:=by
  intro j hj
  rw[←h2 j hj]
  refine zjO ?_
  rw[add_block]
  exact hheap
 obtain ⟨r,hr⟩:=zhX l k c z hz (by omega)
 have hsplit:l.flatMap (Enc.enc (α:=α))=(l.flatMap (Enc.enc (α:=α))).take (k*Enc.sz α+c)++(((Enc.enc z).drop c).take s++(((Enc.enc z).drop c).drop s++r)):=by
  conv=>lhs;rw[←List.take_append_drop (k*Enc.sz α+c) (l.flatMap (Enc.enc (α:=α)))]
  rw[hr]
  conv=>lhs;rw[←List.take_append_drop s ((Enc.enc z).drop c)]
  simp
 have hlen2:((l.flatMap (Enc.enc (α:=α))).take (k*Enc.sz α+c)).length=k*Enc.sz α+c:=by
  rw[List.length_take,zbM];omega
 rw[hsplit]at h3
 obtain ⟨S1,S2,rfl,_,h7⟩:=h3.split
 obtain ⟨S3,S4,rfl,h8,_⟩:=h7.split
 rw[hlen2]at h8
 have h9:=h8.length
 rw[hl']at h8 h9
 have he:((vs.drop (k*Enc.sz α+c)).take s)=bvals w0 (.slice (some a0) l.length cap) (k*Enc.sz α) c (((Enc.enc z).drop c).take s):=by
  refine zoe h8 fun i q hi=>?_
  have hi2:i<s:=by
   have:=(List.getElem?_eq_some_iff.1 hi).1
   omega
  rw[List.getElem?_take,if_pos hi2,List.getElem?_drop]at hi
  unfold elv
  simp only
  rw[h2 _ (by omega),show k*Enc.sz α+(c+i)=k*Enc.sz α+c+i by omega,hi]
  rfl
 rw[←he]at hu
 have hv:(ag=true∧((vs.drop (k*Enc.sz α+c)).take s).length=s∧u= .agg ((vs.drop (k*Enc.sz α+c)).take s).toArray)∨(ag=false∧((vs.drop (k*Enc.sz α+c)).take s)= [u]):=by
  generalize hq:(vs.drop (k*Enc.sz α+c)).take s=q at hu h9
  unfold loaded at hu
  cases ag with
  | true=>left;simp only[cond_true,Option.some.injEq]at hu;exact ⟨rfl,h9,hu.symm⟩
  | false=>
    right
    simp only[cond_false]at hu
    have h1:s=1:=by simpa using ha
    refine ⟨rfl,?_⟩
    match q,h9,hu with
    | [q],_,hu=>simp at hu;rw[hu]
    | [],h9,_=>simp at h9;omega
    | _::_::_,h9,_=>simp at h9;omega
 have:=zcg (P:=P) (a:=a0.add (k*Enc.sz α+c)) hk (fun j hj=>by
  have hj2:j<s:=by simp only[List.length_take]at hj;omega
  rw[add_add,hcell _ (by omega),List.getElem?_take,if_pos hj2,List.getElem?_drop]) hv
 simp[execOp,hf.eval hx,elP,Instr.loadAt,Instr.sureAddr,this]
def Cels (w0:World) (S0:List Nat) (is:List Item):List Value→List (List Value)→Prop
 | [],[]=>True
 | V::Vs,us::uss=>Cel w0 S0 is V us∧Cels w0 S0 is Vs uss
 | _,_=>False
theorem Cels.get {w:World} (hs:St w0 S0 is w): ∀{Vs:List Value} {uss:List (List Value)},Cels w0 S0 is Vs uss→Vs.map (fun V=>V.cells.toList)=uss∧∀us∈uss,∀u∈us,u.oneCell'=true
 | [],[],_=>⟨rfl,by simp⟩
 | V::Vs,us::uss,h=>by
   obtain ⟨h1,h2⟩:=h
   obtain ⟨h3,h4⟩:=h1 w hs
   obtain ⟨h5,h6⟩:=Cels.get hs h2
   refine ⟨by simp[h3,h5],fun q hq=>?_⟩
   rcases List.mem_cons.1 hq with rfl | hq
   ·exact h4
   ·exact h6 q hq
 | [],_::_,h=>h.elim
 | _::_,[],h=>h.elim
theorem Ef.buildSliceR {d:Option Nat} {gd:Option (Nat × Bool)} {t e sz by_ len:Nat} {ps:List (Nat × Operand)} {Vs:List Value} {z:Value} (uss:List (List Value)) (cs:List C)
 (he:elemB P t=some (e,sz,by_)) (hz:zeroB P e=some z) (hps:partVs fr 0 ps=some Vs) (hlen:Nat.beq Vs.length len=true) (hsz:uss.all (fun us=>Nat.beq us.length sz)=true) (hbig:Nat.ble (len*sz) 16777216=true) (hpos:Nat.blt 0 sz=true)
 (hv:Cels w0 S0 is Vs uss) (hcs:valsR cs=some uss.flatten):
 Ef P w0 S0 n fr is ⟨d,.buildSlice t len ps.toArray,ty,pos,aft,gd⟩ (fun b:Nat=>.slice (some ⟨b,0,none⟩) len len) (fun b=>.own (.slice (some ⟨b,0,none⟩) len len) (.sl sz len cs)::is):=by
 obtain ⟨hu,ti,hti,hsz',_⟩:=zJ he
 have hVl:Vs.length=len:=by simpa using hlen
 intro a w K Q hf hs hK
 obtain ⟨hmap,hone⟩:=hv.get hs
 have hul: ∀us∈uss,us.length=sz:=fun us h=>by simpa using List.all_eq_true.1 hsz us h
 have hVs: ∀V∈Vs,V.cells.size=sz:=by
  intro V hV
  have:V.cells.toList∈uss:=by rw[←hmap];exact List.mem_map.2 ⟨V,hV,rfl⟩
  rw[←Array.length_toList,hul _ this]
 have hfl:Vs.flatMap (fun V=>V.cells.toList)=uss.flatten:=by rw[List.flatMap_def,hmap]
 have hflen:uss.flatten.length=len*sz:=by
  rw[←hfl]
  have: ∀(l:List Value),(∀V∈l,V.cells.size=sz)→(l.flatMap (fun V=>V.cells.toList)).length=l.length*sz:=by
   intro l
   induction l with
   | nil=>intro _;simp
   | cons x l ih=>intro h;rw[List.flatMap_cons,List.length_append,ih fun V hV=>h V (by simp[hV]),Array.length_toList,h x (by simp),List.length_cons,Nat.succ_mul];omega
  rw[this Vs hVs,hVl]
 have hbig': ¬len*sz>2 ^ 24:=by have:=Nat.le_of_ble_eq_true hbig;omega
 have hcur: ∀zc:Array Value,((Array.range (len*sz)).map (zc[·% zc.size]!)).size=len*sz:=fun zc=>by simp
 have hfill: ∀zc:Array Value,Instr.fill (fun i=>some (i*sz,sz)) ((Array.range (len*sz)).map (zc[·% zc.size]!)) (ps.map fun (i,x)=>(i,a.eval x))=some (uss.flatten).toArray:=by
  intro zc
  rw[zjh hf hps,zjS sz Vs 0 _ hVs (by simp[hVl])]
  congr 2
  rw[hfl]
  simp only[splice,Nat.zero_mul,List.take_zero,List.nil_append,Nat.zero_add]
  rw[List.drop_of_length_le (by rw[Array.length_toList,hcur,hflen];exact Nat.le_refl _),List.append_nil]
 have hrun:(execOp a.eval ⟨d,.buildSlice t len ps.toArray,ty,pos,aft,gd⟩).run P w= .ok (.value (.slice (some ⟨w.heap.size,0,none⟩) len len)) (w.alloc (.cells (uss.flatten).toArray e)):=by
  by_cases h0:len*sz=0
  ·simp only[execOp,Instr.buildSlice,Sem.run_bind,run_underlying hu,Result.andThen_ok,sizeOf,typeInfo,run_program,hti,Sem.run_pure,hsz',if_neg hbig',if_pos h0]
   have:=hfill #[]
   simp only[List.map_toArray]
   rw[this]
   simp[newRow]
  ·simp only[execOp,Instr.buildSlice,Sem.run_bind,run_underlying hu,Result.andThen_ok,sizeOf,typeInfo,run_program,hti,Sem.run_pure,hsz',if_neg hbig',if_neg h0,zfT hz]
   have:=hfill z.cells
   simp only[List.map_toArray]
   rw[this]
   simp[newRow]
 unfold Oper.wp
 rw[hrun]
 refine hK w.heap.size _ ?_
 have hmax:len≤maxLen:=by
  have h1:=Nat.le_of_ble_eq_true hbig
  have h2:len≤len*sz:=Nat.le_mul_of_pos_right _ (by simpa using hpos)
  simp only[maxLen];omega
 refine hs.add (Chg.alloc w _ []) _ [w.heap.size] ?_ (by simp) (by simp)
 refine .row w.heap.size len len e _ _ _ _ [] (heap_alloc_new w _) (Nat.le_refl _) hmax (Nat.le_of_eq (by rw[List.size_toArray,hflen]:_=_).symm) rfl ?_
 rw[List.toList_toArray,List.take_of_length_le (by rw[hflen];exact Nat.le_refl _)]
 refine Ows.of_valsR hcs fun u hu=>?_
 obtain ⟨us,h1,h2⟩:=List.mem_flatten.1 hu
 exact hone us h1 u h2
theorem Ef.appendN {d:Option Nat} {gd:Option (Nat × Bool)} {t e sz by_ k j:Nat} {x y:Operand} {z:Value} {cs ds:List C} {v u:Value} {is':List Item}
 (ks:List Nat) (hb1:(k+j)*by_≤140737488355328) (hb2:k+j≤9223372036854775807) (he:elemB P t=some (e,sz,by_)) (hz:zeroB P e=some z) (hzs:Nat.beq z.cells.size sz=true) (hpos:Nat.blt 0 sz=true)
 (hp:pulls ks is=some (.own v (.sl sz k cs):: .own u (.sl sz j ds)::is')) (hx:ev fr x=some v) (hy:ev fr y=some u):
 Ef P w0 S0 n fr is ⟨d,.call {callee:=.builtin .append,args:=#[x,y],argTypes:=#[t,t]},ty,pos,aft,gd⟩ (fun v':Value=>v') (fun v'=>.own v' (.sl sz (k+j) (cs++ds))::is'):=by
 obtain ⟨hu,ti,hti,hsz',hby⟩:=zJ he
 have hzi:ti.zero=some z:=by unfold zeroB at hz;rw[hti]at hz;simpa using hz
 intro a w K Q hf hs hK
 have hs':St w0 S0 ([.own v (.sl sz k cs),.own u (.sl sz j ds)]++is') w:=hs.pulls ks hp
 have key: ∀A,sats w [.own v (.sl sz k cs),.own u (.sl sz j ds)] A→A.Nodup→
  ∃v' w',(Builtin.append_ #[t,t] ty #[v,u]).run P w= .ok v' w'∧∃A',Chg w w' A∧sats w' [.own v' (.sl sz (k+j) (cs++ds))] A'∧A'.Nodup∧∀b∈A',b∈A∨w.heap.size≤b:=by
  rintro A ⟨A1,A2,rfl,h1,A3,A4,rfl,h2,h3⟩ hnd
  rw[show A4= [] from h3,List.append_nil]at hnd ⊢
  obtain ⟨us,T1,e1,hown,ho1,rfl⟩:=Ow.ownsRow h1
  cases h2 with
  | nil=>
    have hrun:=append_none_any (P:=P) (ty:=ty) hu hti v k us hown
    refine ⟨v,w,hrun,v.ownBlock.toList++T1,Chg.refl _ _,⟨v.ownBlock.toList++T1,[],by rw[List.append_nil],?_,rfl⟩,by simpa using hnd,fun b hb=>.inl (by simpa using hb)⟩
    show Ow w v (.sl sz (k+0) (cs++ [])) _
    rw[List.append_nil]
    exact h1
  | row b n2 cap2 e2 sz2 cur vs _ T2 hh hc hm hsz2 ht hr=>
    have hle:j*sz≤cap2*sz:=Nat.mul_le_mul_right _ hc
    have hvl:vs.length=j*sz:=by rw[←ht,List.length_take,Array.length_toList];omega
    have hcell: ∀i q,vs[i]? =some q→w.cell? ((⟨b,0,none⟩:Addr).add i)=some q:=by
     intro i q hq
     have hi:i<j*sz:=by rw[←hvl];exact (List.getElem?_eq_some_iff.1 hq).1
     have hadd:(⟨b,0,none⟩:Addr).add i=⟨b,i,none⟩:=by unfold Addr.add;split<;>simp_all
     rw[hadd,cell_of_row w b i cur e2 (0,0) hh,←hq,←ht,List.getElem?_take,if_pos hi]
     simp
    obtain ⟨v',w',f,r1,r2,r3,r4⟩:=append_raw (P:=P) (ty:=ty) hu hti hzi hsz' hby (by simpa using hzs) (by simpa using hpos) hown ⟨b,0,none⟩ j cap2 vs hvl hcell hr.oneCells hb2 hb1
    obtain ⟨hndL,hndR,hdis⟩:=List.nodup_append.1 hnd
    obtain ⟨hndV,hndT,hdisV⟩:=List.nodup_append.1 hndL
    obtain ⟨hnb,hndT2⟩:=List.nodup_cons.1 hndR
    have hlt1:=ho1.lt
    have hlt2:=hr.lt
    have hkeep: ∀q∈T1++T2,w'.heap[q]? =w.heap[q]?:=by
     intro q hq
     refine r3.block q ?_ ?_
     ·rcases List.mem_append.1 hq with h | h
      ·exact hlt1 q h
      ·exact hlt2 q h
     ·intro e
      have hqv:q∈v.ownBlock.toList:=by rw[←e];simp
      rcases List.mem_append.1 hq with h | h
      ·exact hdisV q hqv q h rfl
      ·exact hdis q (List.mem_append.2 (.inl hqv)) q (List.mem_cons.2 (.inr h)) rfl
    have hO:=(ho1.append hr).keep hkeep
    have hc':Chg w w' ((v.ownBlock.toList++T1)++(b::T2)):=Chg.of_grown r3 _ fun q hq=>by simp only[List.mem_append];exact .inl (.inl hq)
    refine ⟨v',w',r1,v'.ownBlock.toList++(T1++T2),hc',⟨_,[],by simp,Ow.of_ownsRow r2 hO,rfl⟩,?_,?_⟩
    ·refine List.nodup_append.2 ⟨by cases v'.ownBlock<;>simp,List.nodup_append.2 ⟨hndT,hndT2,fun x hx y hy e=>hdis x (List.mem_append.2 (.inr hx)) y (List.mem_cons.2 (.inr hy)) e⟩,?_⟩
     intro q hq y hy e
     subst e
     rcases r4 q hq with h | h
     ·rcases List.mem_append.1 hy with h5 | h5
      ·exact hdisV q h q h5 rfl
      ·exact hdis q (List.mem_append.2 (.inl h)) q (List.mem_cons.2 (.inr h5)) rfl
     ·rcases List.mem_append.1 hy with h5 | h5
      ·have:=hlt1 q h5;omega
      ·have:=hlt2 q h5;omega
    ·intro q hq
     rcases List.mem_append.1 hq with h | h
     ·rcases r4 q h with h | h
      ·exact .inl (by simp[h])
      ·exact .inr h
     ·rcases List.mem_append.1 h with h | h
      ·exact .inl (by simp[h])
      ·exact .inl (by simp[h])
 obtain ⟨SA,hSA⟩:=hs'.own
 obtain ⟨A,B,rfl,hA,hB⟩:=zcv.1 hSA.1
 obtain ⟨v',w',h1,_⟩:=key A hA (List.nodup_append.1 hSA.2.1).1
 have hst:St w0 S0 ([.own v' (.sl sz (k+j) (cs++ds))]++is') w':=hs'.step fun A hA hn=>by
  obtain ⟨v2,w2,h2,h3⟩:=key A hA hn
  rw[h1]at h2
  cases h2
  exact h3
 have hrun:(execOp a.eval ⟨d,.call {callee:=.builtin .append,args:=#[x,y],argTypes:=#[t,t]},ty,pos,aft,gd⟩).run P w= .ok (.value v') w':=by
  simp[execOp,resolve,invoke,builtin,hf.eval hx,hf.eval hy,h1]
 unfold Oper.wp
 rw[hrun]
 exact hK v' w' hst
theorem Ef.appN {α:Type} [Enc α] {d:Option Nat} {gd:Option (Nat × Bool)} {t e sz by_:Nat} {x y:Operand} {z:Value} {l k r:List α} {v u:Value} {is':List Item}
 (ks:List Nat) (hr:app by_ l k=some r) (he:elemB P t=some (e,sz,by_)) (hz:zeroB P e=some z) (hzs:Nat.beq z.cells.size sz=true) (hsz:Enc.sz α=sz)
 (hp:pulls ks is=some (.own v (lc l):: .own u (lc k)::is')) (hx:ev fr x=some v) (hy:ev fr y=some u):
 Ef P w0 S0 n fr is ⟨d,.call {callee:=.builtin .append,args:=#[x,y],argTypes:=#[t,t]},ty,pos,aft,gd⟩ (fun v':Value=>v') (fun v'=>.own v' (lc r)::is'):=by
 subst hsz
 obtain ⟨rfl,hb1,hb2⟩:=zjK hr
 have:=Ef.appendN (P:=P) (w0:=w0) (S0:=S0) (n:=n) (fr:=fr) (is:=is) (ty:=ty) (pos:=pos) (aft:=aft) (d:=d) (gd:=gd) (t:=t) (e:=e) (x:=x) (y:=y) (cs:=l.flatMap Enc.enc) (ds:=k.flatMap Enc.enc) ks hb1 hb2 he hz hzs (by simpa using Enc.pos (α:=α)) hp hx hy
 unfold lc
 rw[List.length_append,List.flatMap_append]
 exact this
end
end Go.Proofs.YtfgjhefhlabpkaaGreat.Sl
