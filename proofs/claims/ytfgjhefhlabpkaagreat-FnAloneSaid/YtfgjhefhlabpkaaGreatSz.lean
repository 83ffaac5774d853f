/-
  Short forms of the rules: runs of simple operations reckoned at once, items and frames written out by reckoning. Generic: no statement about a given function.
-/
import Derived.Test.YtfgjhefhlabpkaaGreatSu
namespace Go.Proofs.YtfgjhefhlabpkaaGreat.Sl
open Go Go.RowKit
theorem r.{u} {α:Sort u} {a:α} :a=a:=rfl
theorem r1.{u,v} {X:Sort u} {α:Sort v} {f:X→α} : ∀x,f x=f x:=fun _=>rfl
theorem r2.{u,v,t} {T:Sort t} {X:Sort u} {α:Sort v} {f:T→X→α} : ∀t x,f t x=f t x:=fun _ _=>rfl
abbrev iv (n:Int):Value:=.int .i64 n
abbrev ic (n:Int):C:=.int .i64 n
abbrev pt (b:Nat):Value:=.pointer (some ⟨b,0,none⟩)
def pullK {β:Type} :Nat→List Item→(Item→List Item→Option β)→Option β
 | _,[],_=>none
 | 0,i::s,k=>k i s
 | n+1,i::s,k=>pullK n s fun j t=>k j (i::t)
def takeK {β:Type} :List Nat→List Item→(List Item→List Item→Option β)→Option β
 | [],is,k=>k [] is
 | n::ns,is,k=>pullK n is fun i s=>takeK ns s fun js t=>k (i::js) t
def appK {β:Type} :List Item→List Item→(List Item→Option β)→Option β
 | [],js,k=>k js
 | i::is,js,k=>appK is js fun s=>k (i::s)
def setK {β:Type} :Nat→List Item→Item→(List Item→Option β)→Option β
 | _,[],_,_=>none
 | 0,_::s,j,k=>k (j::s)
 | n+1,i::s,j,k=>setK n s j fun t=>k (i::t)
def keepK {β:Type} :List Nat→Fr→Fr→(Fr→Option β)→Option β
 | [],_,ex,k=>k ex
 | d::ds,fr,ex,k=>match lk d fr with
   | some v=>keepK ds fr ex fun t=>k ((d,v)::t)
   | none=>none
def takeI (ks:List Nat) (is ex:List Item):Option (List Item):=takeK ks is fun pre _=>appK pre ex some
def takeP (ks:List Nat) (is:List Item):Option (List Item × List Item):=takeK ks is fun pre rest=>some (pre,rest)
theorem zsP {β:Type} {n:Nat} {is:List Item} {k:Item→List Item→Option β} {b:β} (h:pullK n is k=some b): ∃i s,pull n is=some (i,s)∧k i s=some b:=by
 induction n generalizing is k with
 | zero=>
   cases is with
   | nil=>cases h
   | cons i s=>exact ⟨i,s,rfl,h⟩
 | succ n ih=>
   cases is with
   | nil=>cases h
   | cons i s=>
     obtain ⟨j,t,h1,h2⟩:=ih h
     exact ⟨j,i::t,by simp only[pull,h1],h2⟩
theorem zs6 {β:Type} {ks:List Nat} {is:List Item} {k:List Item→List Item→Option β} {b:β} (h:takeK ks is k=some b):
 ∃pre rest,k pre rest=some b∧∀w S,sats w is S→∃T,sats w (pre++rest) T∧T.Perm S:=by
 induction ks generalizing is k with
 | nil=>exact ⟨[],is,h,fun w S hS=>⟨S,hS,.refl _⟩⟩
 | cons n ks ih=>
   obtain ⟨i,s,h1,h2⟩:=zsP h
   obtain ⟨pre,rest,h3,h4⟩:=ih h2
   refine ⟨i::pre,rest,h3,fun w S hS=>?_⟩
   obtain ⟨A,B,hA,hB,hp⟩:=znC h1 hS
   obtain ⟨T,hT,hp2⟩:=h4 w B hB
   exact ⟨A++T,⟨A,T,rfl,hA,hT⟩,(List.Perm.append_left A hp2).trans hp⟩
theorem St.takeK {β:Type} {w0 w:World} {S0:List Nat} {ks:List Nat} {is:List Item} {k:List Item→List Item→Option β} {b:β} (h:Sl.takeK ks is k=some b):
 ∃pre rest,k pre rest=some b∧∀w,St w0 S0 is w→St w0 S0 (pre++rest) w:=by
 obtain ⟨pre,rest,h1,h2⟩:=zs6 h
 refine ⟨pre,rest,h1,fun w ⟨os,tape,output,size,base,S,hS,hnd,hin⟩=>?_⟩
 obtain ⟨T,hT,hp⟩:=h2 w S hS
 exact ⟨os,tape,output,size,base,T,hT,hp.nodup_iff.2 hnd,fun b hb=>hin b (hp.mem_iff.1 hb)⟩
theorem zmv {β:Type} {is js:List Item} {k:List Item→Option β} :appK is js k=k (is++js):=by
 induction is generalizing k with
 | nil=>rfl
 | cons i is ih=>exact ih
theorem zmZ {β:Type} {n:Nat} {is:List Item} {j:Item} {k:List Item→Option β} {b:β} (h:setK n is j k=some b):k (is.set n j)=some b:=by
 induction n generalizing is k with
 | zero=>
   cases is with
   | nil=>cases h
   | cons i s=>exact h
 | succ n ih=>
   cases is with
   | nil=>cases h
   | cons i s=>exact ih h
theorem St.takeP {w0 w:World} {S0:List Nat} {ks:List Nat} {is pre rest:List Item} (h:Sl.takeP ks is=some (pre,rest)) (hs:St w0 S0 is w):St w0 S0 (pre++rest) w:=by
 obtain ⟨p,q,h1,h2⟩:=St.takeK (w0:=w0) (w:=w) (S0:=S0) h
 cases h1
 exact h2 w hs
def kq:IntKind→IntKind→Bool
 | .i64,.i64=>true
 | .u8,.u8=>true
 | .u32,.u32=>true
 | .u64,.u64=>true
 | _,_=>false
theorem kq_eq {k k':IntKind} (h:kq k k'=true):k=k':=by
 cases k<;>cases k'<;>first | rfl | cases h
def iop (o:BinOp) (k:IntKind) (p q:Int):Option Value:=match o with
 | .add=>some (.int k (k.wrap (p+q)))
 | .sub=>some (.int k (k.wrap (p - q)))
 | .mul=>some (.int k (k.wrap (p*q)))
 | .lss=>some (.bool (decide (p<q)))
 | .leq=>some (.bool (decide (p≤q)))
 | .gtr=>some (.bool (decide (p>q)))
 | .geq=>some (.bool (decide (p≥q)))
 | .eql=>some (.bool (decide (p=q)))
 | .neq=>some (.bool (!decide (p=q)))
 | .and=>some (.int k (iand k p q))
 | .or=>some (.int k (ior k p q))
 | .xor=>some (.int k (ixor k p q))
 | _=>none
def sop (o:BinOp) (s u:List UInt8):Option Value:=match o with
 | .eql=>some (.bool (decide (s=u)))
 | .neq=>some (.bool (!decide (s=u)))
 | .lss=>some (.bool (sLt s u))
 | .leq=>some (.bool (sLt s u||decide (s=u)))
 | .gtr=>some (.bool (!(sLt s u||decide (s=u))))
 | .geq=>some (.bool (!sLt s u))
 | _=>none
def bop (o:BinOp):Option Value→Option Value→Option Value
 | some (.int k p),some (.int k' q)=>match kq k k' with
   | true=>iop o k p q
   | false=>none
 | some (.string ⟨⟨s⟩⟩),some (.string ⟨⟨u⟩⟩)=>sop o s u
 | _,_=>none
def sval (fr:Fr):Op→Option Value
 | .move x=>ev fr x
 | .assign x=>ev fr x
 | .binOp o _ x y _=>bop o (ev fr x) (ev fr y)
 | .unOp .not _ x=>match ev fr x with
   | some (.bool b)=>some (.bool (!b))
   | _=>none
 | .unOp .neg _ x=>match ev fr x with
   | some (.int k p)=>some (.int k (k.wrap (0 - p)))
   | _=>none
 | .extract x k=>match ev fr x with
   | some (.tuple ⟨vs⟩)=>vs[k]?
   | _=>none
 | .nilCheck x=>match ev fr x with
   | some (.pointer (some a))=>some (.pointer (some a))
   | _=>none
 | _=>none
section
variable {P:Program} {w0:World} {S0:List Nat} {n:Nat} {fr:Fr} {is:List Item}
variable {dst:Option Nat} {ty:TypeId} {pos:String} {aft:Array Edge} {gd:Option (Nat × Bool)}
theorem Y.bop {o:BinOp} {t t':TypeId} {x y:Operand} {v:Value} (h:Sl.bop o (ev fr x) (ev fr y)=some v):Y P w0 S0 n fr is ⟨dst,.binOp o t x y t',ty,pos,aft,gd⟩ v:=by
 cases hx:ev fr x with
 | none=>rw[hx]at h;cases h
 | some vx=>
   cases hy:ev fr y with
   | none=>rw[hx,hy]at h;unfold Sl.bop at h;split at h<;>first | cases h | (rename_i h1 h2;cases h2)
   | some vy=>
     rw[hx,hy]at h
     unfold Sl.bop at h
     split at h
     ·rename_i k p k' q h1 h2
      cases h1;cases h2
      split at h
      ·rename_i hk
       obtain rfl:=kq_eq hk
       cases o<;>first | (cases h;first | exact Y.add hx hy | exact Y.sub hx hy | exact Y.mul hx hy | exact Y.lss hx hy | exact Y.leq hx hy | exact Y.gtr hx hy | exact Y.geq hx hy | exact Y.eql hx hy | exact Y.neq hx hy | exact Y.and hx hy | exact Y.or hx hy | exact Y.xor hx hy) | cases h
      ·cases h
     ·rename_i s u h1 h2
      cases h1;cases h2
      cases o<;>first | (cases h;first | exact Y.seql hx hy | exact Y.sneq hx hy | exact Y.slss hx hy | exact Y.sleq hx hy | exact Y.sgtr hx hy | exact Y.sgeq hx hy) | cases h
     ·cases h
theorem Y.sval {o:Op} {v:Value} (h:Sl.sval fr o=some v):Y P w0 S0 n fr is ⟨dst,o,ty,pos,aft,gd⟩ v:=by
 unfold Sl.sval at h
 split at h
 ·exact Y.move h
 ·exact Y.assign h
 ·exact Y.bop h
 ·split at h
  ·rename_i hx;cases h;exact Y.not hx
  ·cases h
 ·split at h
  ·rename_i hx;cases h;exact Y.neg hx
  ·cases h
 ·split at h
  ·rename_i hx;exact Y.extract (vs:=_) hx h
  ·cases h
 ·split at h
  ·rename_i hx;cases h;exact Y.nilCheck hx
  ·cases h
 ·cases h
end
def qrun (n:Nat):Nat→List Oper→Fr→Option (List Oper × Fr)
 | 0,l,fr=>some (l,fr)
 | k+1,⟨some d,o,_,_,_,none⟩::l,fr=>match Nat.blt d n with
   | true=>match sval fr o with
     | some v=>qrun n k l ((d,v)::fr)
     | none=>none
   | false=>none
 | _,_,_=>none
def grun (n j:Nat) (want:Bool) (dj:Nat):Nat→List Oper→Fr→Option (List Oper × Fr)
 | 0,l,fr=>some (l,fr)
 | k+1,⟨some d,o,_,_,_,some (j',want')⟩::l,fr=>match Nat.blt d n&&(Nat.beq j' j&&(want' == want&& !Nat.beq dj d)) with
   | true=>match sval fr o with
     | some v=>grun n j want dj k l ((d,v)::fr)
     | none=>none
   | false=>none
 | _,_,_=>none
def orun (n j:Nat) (want:Bool) (dj:Nat):Nat→List Oper→Fr→Option (List Oper × Fr)
 | 0,l,fr=>some (l,fr)
 | k+1,⟨some d,_,_,_,_,some (j',want')⟩::l,fr=>match Nat.blt d n&&(Nat.beq j' j&&(want' == want&& !Nat.beq dj d)) with
   | true=>orun n j want dj k l ((d,undef)::fr)
   | false=>none
 | _,_,_=>none
section
variable {P:Program} {w0:World} {S0:List Nat} {R:Type} {m:Option R} {n:Nat} {fr:Fr} {is:List Item} {Q:R→Exit→Act→World→Prop}
variable {d:Nat} {o:Op} {ty:TypeId} {pos:String} {aft:Array Edge} {gd:Option (Nat × Bool)} {ops:Array Oper} {l:List Oper}
theorem Qs (k:Nat) {l':List Oper} {fr':Fr} (h0:qrun n k l fr=some (l',fr')) (h:TO P w0 S0 m n fr' is ops l' Q):TO P w0 S0 m n fr is ops l Q:=by
 induction k generalizing l fr with
 | zero=>cases h0;exact h
 | succ k ih=>
   unfold qrun at h0
   split at h0
   ·rename_i h1;cases h1
   ·rename_i k' d o ty pos aft l0 h1
    cases h1
    split at h0
    ·rename_i hn
     split at h0
     ·rename_i v hv
      exact TO.y (Y.sval hv) rfl rfl hn (ih h0)
     ·cases h0
    ·cases h0
   ·cases h0
theorem zhF {d dj:Nat} {v:Value} (h:Nat.beq dj d=false):lk dj ((d,v)::fr)=lk dj fr:=by
 simp only[lk,h,cond_false]
theorem Qg (k:Nat) {j dj:Nat} {want b:Bool} {l':List Oper} {fr':Fr} (hb:(b == want)=true) (h0:(l.head?.bind (·.guard),(ops[j]?).bind (·.dst),lk dj fr)=(some (j,want),some dj,some (.bool b)))
 (h1:grun n j want dj k l fr=some (l',fr')) (h:TO P w0 S0 m n fr' is ops l' Q):TO P w0 S0 m n fr is ops l Q:=by
 obtain ⟨-,h3,h4⟩:_∧_∧_:=by simpa using h0
 clear h0
 induction k generalizing l fr with
 | zero=>cases h1;exact h
 | succ k ih=>
   unfold grun at h1
   split at h1
   ·rename_i e;cases e
   ·rename_i k' d o ty pos aft j' want' l0 e
    cases e
    split at h1
    ·rename_i hn
     simp only[Bool.and_eq_true,Bool.not_eq_true']at hn
     obtain ⟨hn,hj,hw,hd⟩:=hn
     have hj':j'=j:=by simpa using hj
     have hw':want'=want:=by simpa using hw
     subst hj' hw'
     split at h1
     ·rename_i v hv
      refine TO.y (Y.sval hv) (Gd.at _ _ dj b rfl h3 h4 hb) rfl hn (ih h1 ?_)
      rw[zhF hd];exact h4
     ·cases h1
    ·cases h1
   ·cases h1
theorem Of (k:Nat) {j dj:Nat} {want b:Bool} {l':List Oper} {fr':Fr} (hb:(b == want)=false) (h0:(l.head?.bind (·.guard),(ops[j]?).bind (·.dst),lk dj fr)=(some (j,want),some dj,some (.bool b)))
 (h1:orun n j want dj k l fr=some (l',fr')) (h:TO P w0 S0 m n fr' is ops l' Q):TO P w0 S0 m n fr is ops l Q:=by
 obtain ⟨-,h3,h4⟩:_∧_∧_:=by simpa using h0
 clear h0
 induction k generalizing l fr with
 | zero=>cases h1;exact h
 | succ k ih=>
   unfold orun at h1
   split at h1
   ·rename_i e;cases e
   ·rename_i k' d o ty pos aft j' want' l0 e
    cases e
    split at h1
    ·rename_i hn
     simp only[Bool.and_eq_true,Bool.not_eq_true']at hn
     obtain ⟨hn,hj,hw,hd⟩:=hn
     have hj':j'=j:=by simpa using hj
     have hw':want'=want:=by simpa using hw
     subst hj' hw'
     refine TO.off (Gd.at _ _ dj b rfl h3 h4 hb) rfl hn (ih h1 ?_)
     rw[zhF hd];exact h4
    ·cases h1
   ·cases h1
end
section
variable {P:Program} {w0:World} {S0:List Nat} {R:Type} {m:Option R} {n:Nat} {fr:Fr} {is:List Item} {Q:R→Exit→Act→World→Prop}
theorem Sq {x y:Code} (h:TW P w0 S0 m n fr is x (fun r=>Exit.then (y.wp P (Q r)) (Q r))):TW P w0 S0 m n fr is (.seq x y) Q:=TW.seq h
theorem Rg {id:Nat} {l:List Oper} (h:TO P w0 S0 m n fr is l.toArray l Q):TW P w0 S0 m n fr is (.region id l.toArray false) Q:=TW.region h
theorem Sr {id:Nat} {l:List Oper} {y:Code} (h:TO P w0 S0 m n fr is l.toArray l (fun r=>Exit.then (y.wp P (Q r)) (Q r))):TW P w0 S0 m n fr is (.seq (.region id l.toArray false) y) Q:=TW.seq (TW.region h)
theorem Nl {ops:Array Oper} (h:TE w0 S0 m n fr is .normal Q):TO P w0 S0 m n fr is ops [] Q:=h
theorem Ne {y:Code} {Q':R→Exit→Act→World→Prop} (h:TW P w0 S0 m n fr is y Q):TE w0 S0 m n fr is .normal (fun r=>Exit.then (y.wp P (Q r)) (Q' r)):=h
theorem Nx {ops:Array Oper} {y:Code} {Q':R→Exit→Act→World→Prop} (h:TW P w0 S0 m n fr is y Q):TO P w0 S0 m n fr is ops [] (fun r=>Exit.then (y.wp P (Q r)) (Q' r)):=h
theorem Sk (h:TE w0 S0 m n fr is .normal Q):TW P w0 S0 m n fr is .skip Q:=TW.skip h
theorem Sn {y:Code} {Q':R→Exit→Act→World→Prop} (h:TW P w0 S0 m n fr is y Q):TW P w0 S0 m n fr is .skip (fun r=>Exit.then (y.wp P (Q r)) (Q' r)):=TW.skip h
theorem Wr (h:TE w0 S0 m n fr is .ret Q):TW P w0 S0 m n fr is .ret Q:=TW.ret h
theorem Wx {id:Nat} (h:TE w0 S0 m n fr is (.exit id) Q):TW P w0 S0 m n fr is (.exit id) Q:=TW.exit h
theorem Wb {id:Nat} {c:Code} (h:TW P w0 S0 m n fr is c (fun r=>Exit.inBlock id (Q r))):TW P w0 S0 m n fr is (.block id c) Q:=TW.block h
theorem Wc {c:Operand} {x y:Code} {b:Bool} {m1 m2:Option R} (hc:ev fr c=some (.bool b)) (h1:b=true→TW P w0 S0 m1 n fr is x Q) (h2:b=false→TW P w0 S0 m2 n fr is y Q):
 TW P w0 S0 (if b=true then m1 else m2) n fr is (.cond c x y) Q:=TW.cond hc h1 h2
theorem It {b:Bool} {m1 m2:Option R} {ops:Array Oper} {l:List Oper} (h1:b=true→TO P w0 S0 m1 n fr is ops l Q) (h2:b=false→TO P w0 S0 m2 n fr is ops l Q):
 TO P w0 S0 (if b=true then m1 else m2) n fr is ops l Q:=TO.ite h1 h2
theorem Bi {X:Type} {p:Option X} {k:X→Option R} {ops:Array Oper} {l:List Oper} (h: ∀x,p=some x→TO P w0 S0 (k x) n fr is ops l Q):TO P w0 S0 (p.bind k) n fr is ops l Q:=TO.bind h
theorem Wi {X:Type} {p:Option X} {k:X→Option R} {c:Code} (h: ∀x,p=some x→TW P w0 S0 (k x) n fr is c Q):TW P w0 S0 (p.bind k) n fr is c Q:=TW.bind h
theorem Tr {Q':R→Act→World→Prop} (h:TE w0 S0 m n fr is .ret Q):TE w0 S0 m n fr is .ret (fun r=>Exit.then (Q' r) (Q r)):=h
theorem Tx {Q':R→Act→World→Prop} {id:Nat} (h:TE w0 S0 m n fr is (.exit id) Q):TE w0 S0 m n fr is (.exit id) (fun r=>Exit.then (Q' r) (Q r)):=h
theorem Br {id:Nat} (h:TE w0 S0 m n fr is .ret Q):TE w0 S0 m n fr is .ret (fun r=>Exit.inBlock id (Q r)):=h
theorem Bn {id:Nat} (h:TE w0 S0 m n fr is .normal Q):TE w0 S0 m n fr is .normal (fun r=>Exit.inBlock id (Q r)):=h
theorem Be {id:Nat} (h:TE w0 S0 m n fr is .normal Q):TE w0 S0 m n fr is (.exit id) (fun r=>Exit.inBlock id (Q r)):=TE.block_exit h
theorem Jd {τ:Type} {M:τ→Act→World→Prop} {q:R} {e:Exit} (h:TE w0 S0 (some q) n fr is e Q):TE w0 S0 (some (.done q)) n fr is e (jn M Q):=TE.jn_done h
theorem Ex {σ ρ:Type} {Q:ρ→Exit→Act→World→Prop} {I:σ→Act→World→Prop} {q:ρ} {id:Nat} (h:TE w0 S0 (some q) n fr is (.exit id) Q):TE w0 S0 (some (.done q)) n fr is (.exit id) (lp I Q):=TE.lp_exit h
theorem Er {σ ρ:Type} {Q:ρ→Exit→Act→World→Prop} {I:σ→Act→World→Prop} {q:ρ} (h:TE w0 S0 (some q) n fr is .ret Q):TE w0 S0 (some (.done q)) n fr is .ret (lp I Q):=TE.lp_ret h
theorem Ni {e:Exit} (sz:Nat) (h:TE w0 S0 m n fr (.own (.slice none 0 0) (.sl sz 0 [])::is) e Q):TE w0 S0 m n fr is e Q:=TE.nilItem sz h
theorem Nw {c:Code} (sz:Nat) (h:TW P w0 S0 m n fr (.own (.slice none 0 0) (.sl sz 0 [])::is) c Q):TW P w0 S0 m n fr is c Q:=TW.nilItem sz h
theorem No {ops:Array Oper} {l:List Oper} (sz:Nat) (h:TO P w0 S0 m n fr (.own (.slice none 0 0) (.sl sz 0 [])::is) ops l Q):TO P w0 S0 m n fr is ops l Q:=TO.ghost (Gh.nilItem sz) fun _=>h
theorem Na {isH:List Item} {ops:Array Oper} {fuel:Nat} {listed:Array Bool} (sz:Nat) (h:TA P w0 S0 m n fr (.own (.slice none 0 0) (.sl sz 0 [])::is) isH ops fuel listed Q):TA P w0 S0 m n fr is isH ops fuel listed Q:=TA.ghost (Gh.nilItem sz) fun _=>h
theorem Jn {τ:Type} (X:Type) {m:Option (Ctl τ R)} {k:τ→Option R} {c:Code} {frf:τ→X→Fr} {isf:τ→X→List Item} (ls ks:List Nat) (g:τ→X→Fr) (h:τ→X→List Item)
 (_: ∀t x,keepK ls fr (g t x) some=some (frf t x)) (_: ∀t x,takeI ks is (h t x)=some (isf t x))
 (h1:TW P w0 S0 m n fr is c (jn (Mid w0 S0 n frf isf) Q)) (h2: ∀t x,TE w0 S0 (k t) n (frf t x) (isf t x) .normal Q):TW P w0 S0 (bindC m k) n fr is c Q:=TW.joinX frf isf h1 h2
theorem Ju {τ:Type} {m:Option (Ctl τ R)} {k:τ→Option R} {c:Code} {frf:τ→Fr} (ls:List Nat) (g:τ→Fr)
 (_: ∀t,keepK ls fr (g t) some=some (frf t))
 (h1:TW P w0 S0 m n fr is c (jn (Mid w0 S0 n (fun t (_:Unit)=>frf t) (fun _ _=>is)) Q)) (h2: ∀t,TE w0 S0 (k t) n (frf t) is .normal Q):TW P w0 S0 (bindC m k) n fr is c Q:=TW.joinX _ _ h1 fun t _=>h2 t
theorem Jb {τ:Type} (X:Type) {m:Option τ} {k:τ→Option R} {c:Code} {frf:τ→X→Fr} {isf:τ→X→List Item} (ls ks:List Nat) (g:τ→X→Fr) (h:τ→X→List Item)
 (_: ∀t x,keepK ls fr (g t x) some=some (frf t x)) (_: ∀t x,takeI ks is (h t x)=some (isf t x))
 (h1:TW P w0 S0 m n fr is c (jb (Mid w0 S0 n frf isf))) (h2: ∀t x,TE w0 S0 (k t) n (frf t x) (isf t x) .normal Q):TW P w0 S0 (m.bind k) n fr is c Q:=TW.joinBX frf isf h1 h2
theorem Jv {τ:Type} {m:Option τ} {k:τ→Option R} {c:Code} {frf:τ→Fr} (ls:List Nat) (g:τ→Fr)
 (_: ∀t,keepK ls fr (g t) some=some (frf t))
 (h1:TW P w0 S0 m n fr is c (jb (Mid w0 S0 n (fun t (_:Unit)=>frf t) (fun _ _=>is)))) (h2: ∀t,TE w0 S0 (k t) n (frf t) is .normal Q):TW P w0 S0 (m.bind k) n fr is c Q:=TW.joinBX _ _ h1 fun t _=>h2 t
theorem Jw (X:Type) {c:Code} {frf:X→Fr} {isf:X→List Item} (ls ks:List Nat) (g:X→Fr) (h:X→List Item)
 (_: ∀x,keepK ls fr (g x) some=some (frf x)) (_: ∀x,takeI ks is (h x)=some (isf x))
 (h1:TW P w0 S0 (some ()) n fr is c (jb (Mid w0 S0 n (fun (_:Unit) x=>frf x) (fun _ x=>isf x)))) (h2: ∀x,TE w0 S0 m n (frf x) (isf x) .normal Q):TW P w0 S0 m n fr is c Q:=TW.joinU _ _ h1 fun _ x=>h2 x
theorem Lp {σ ρ:Type} (X:Type) {body:σ→Option (Ctl σ ρ)} {s0:σ} {c:Code} {Q:ρ→Exit→Act→World→Prop} {frf:σ→X→Fr} {isf:σ→X→List Item} (ls ks:List Nat) (g:σ→X→Fr) (h:σ→X→List Item) (x0:X) (qs:List Nat)
 (_: ∀t x,keepK ls fr (g t x) some=some (frf t x)) (_: ∀t x,takeI ks is (h t x)=some (isf t x))
 (h1: ∀s x,TW P w0 S0 (body s) n (frf s x) (isf s x) c (lp (Mid w0 S0 n frf isf) Q)) (hf0:Sub (frf s0 x0) fr:=by repeat (first | refine ⟨r,?_⟩ | exact trivial)) (hi0:pulls qs is=some (isf s0 x0):=by exact r):
 TW P w0 S0 (loopO body s0) n fr is (.loop c) Q:=TW.loopX frf isf x0 qs hf0 hi0 h1
theorem Lu {σ ρ:Type} {body:σ→Option (Ctl σ ρ)} {s0:σ} {c:Code} {Q:ρ→Exit→Act→World→Prop} {frf:σ→Fr} (ls:List Nat) (g:σ→Fr) (_: ∀t,keepK ls fr (g t) some=some (frf t))
 (h1: ∀s,TW P w0 S0 (body s) n (frf s) is c (lp (Mid w0 S0 n (fun s (_:Unit)=>frf s) (fun _ _=>is)) Q)) (hf0:Sub (frf s0) fr:=by repeat (first | refine ⟨r,?_⟩ | exact trivial)):
 TW P w0 S0 (loopO body s0) n fr is (.loop c) Q:=by
 refine TW.loop (Mid w0 S0 n (fun s (_:Unit)=>frf s) (fun _ _=>is)) (fun a w hf hs=>⟨(),hf.sub hf0,hs⟩) ?_
 rintro s x hx a w ⟨y,hf,hs⟩
 refine wp_mono (h1 s x hx a w hf hs) fun e a w h=>?_
 cases x with
 | go t=>exact h
 | done q=>exact h
end
def backE:Exit→Bool
 | .ret=>true
 | .normal=>true
 | _=>false
def resT:List ResultVar→Option (List Nat)
 | []=>some []
 | .tmp t::s=>match resT s with
   | some ts=>some (t::ts)
   | none=>none
 | _=>none
def lks (fr:Fr):List Nat→Option (List Value)
 | []=>some []
 | t::s=>match lk t fr with
   | some v=>match lks fr s with
     | some vs=>some (v::vs)
     | none=>none
   | none=>none
section
variable {P:Program} {w0:World} {S0:List Nat} {R:Type} {m:Option R} {n:Nat} {fr:Fr} {is:List Item} {Q:R→Exit→Act→World→Prop}
theorem RV.tmps: ∀{rs:List ResultVar} {ts:List Nat} {vs:List Value},resT rs=some ts→lks fr ts=some vs→RV P fr is rs vs
 | [],ts,vs,h1,h2=>by cases h1;cases h2;trivial
 | .tmp t::s,ts,vs,h1,h2=>by
   unfold resT at h1
   split at h1
   ·rename_i ts' h3
    cases h1
    unfold lks at h2
    split at h2
    ·rename_i v h4
     split at h2
     ·rename_i vs' h5
      cases h2
      exact ⟨h4,RV.tmps h3 h5⟩
     ·cases h2
    ·cases h2
   ·cases h1
 | .cell _ _::_,_,_,h1,_=>by cases h1
theorem Re {S1:List Nat} {fn:Func} {X:Type} {val:R→X→Value} {post:R→X→List Item} {q:R} {e:Exit} {ts:List Nat} {vs:List Value} (x:X) (ks:List Nat)
 (he:backE e=true:=by exact r) (h1:resT fn.results.toList=some ts:=by exact r) (h2:lks fr ts=some vs:=by exact r) (h3:retV vs=val q x:=by exact r) (hi:pulls ks is=some (post q x):=by exact r):
 TE w0 S1 (some q) n fr is e (fun q=>bodyPost P fn (fun e w'=>∃x,e= .returned (val q x)∧St w0 S1 (post q x) w')):=
 TE.leaf fun _ _ hf hs=>zS (by cases e<;>first | exact .inl rfl | exact .inr rfl | cases he) (Array.toArray_toList).symm (RV.tmps h1 h2) hf hs ⟨x,by rw[h3],hs.pulls ks hi⟩
theorem Jg {τ X:Type} {frf:τ→X→Fr} {isf:τ→X→List Item} {t:τ} (x:X) (ks:List Nat) (hi0:pulls ks is=some (isf t x):=by exact r) (hf0:Sub (frf t x) fr:=by repeat (first | refine ⟨r,?_⟩ | exact trivial)):
 TE w0 S0 (some (.go t)) n fr is .normal (jn (Mid w0 S0 n frf isf) Q):=TE.jn_go x ks hf0 hi0
theorem Bg {τ X:Type} {frf:τ→X→Fr} {isf:τ→X→List Item} {t:τ} (x:X) (ks:List Nat) (hi0:pulls ks is=some (isf t x):=by exact r) (hf0:Sub (frf t x) fr:=by repeat (first | refine ⟨r,?_⟩ | exact trivial)):
 TE w0 S0 (some t) n fr is .normal (jb (Mid w0 S0 n frf isf)):=TE.jb_go x ks hf0 hi0
theorem Lg {σ ρ X:Type} {Q:ρ→Exit→Act→World→Prop} {frf:σ→X→Fr} {isf:σ→X→List Item} {t:σ} (x:X) (ks:List Nat) (hi0:pulls ks is=some (isf t x):=by exact r) (hf0:Sub (frf t x) fr:=by repeat (first | refine ⟨r,?_⟩ | exact trivial)):
 TE w0 S0 (some (.go t)) n fr is .normal (lp (Mid w0 S0 n frf isf) Q):=TE.lp_go x ks hf0 hi0
end
section
variable {P:Program} {w0:World} {S0:List Nat} {R:Type} {m:Option R} {n:Nat} {fr:Fr} {is:List Item} {Q:R→Exit→Act→World→Prop}
variable {d:Nat} {o:Op} {ty:TypeId} {pos:String} {aft:Array Edge} {gd:Option (Nat × Bool)} {ops:Array Oper} {l:List Oper} {v:Value}
theorem Yo (h1:Y P w0 S0 n fr is ⟨some d,o,ty,pos,aft,none⟩ v) (h:TO P w0 S0 m n ((d,v)::fr) is ops l Q) (hn:Nat.blt d n=true:=by exact r):TO P w0 S0 m n fr is ops (⟨some d,o,ty,pos,aft,none⟩::l) Q:=TO.y h1 rfl rfl hn h
theorem Yg {g:Nat × Bool} (hg: ∀o:Oper,o.guard=some g→Gd ops fr o true) (h1:Y P w0 S0 n fr is ⟨some d,o,ty,pos,aft,some g⟩ v) (h:TO P w0 S0 m n ((d,v)::fr) is ops l Q) (hn:Nat.blt d n=true:=by exact r):
 TO P w0 S0 m n fr is ops (⟨some d,o,ty,pos,aft,some g⟩::l) Q:=TO.y h1 (hg _ rfl) rfl hn h
theorem Fo {X:Type} {val:X→Value} {is':X→List Item} (h1:Ef P w0 S0 n fr is ⟨some d,o,ty,pos,aft,none⟩ val is') (h: ∀x,TO P w0 S0 m n ((d,val x)::fr) (is' x) ops l Q) (hn:Nat.blt d n=true:=by exact r):
 TO P w0 S0 m n fr is ops (⟨some d,o,ty,pos,aft,none⟩::l) Q:=TO.ef h1 rfl rfl hn h
theorem Fg {g:Nat × Bool} {X:Type} {val:X→Value} {is':X→List Item} (hg: ∀o:Oper,o.guard=some g→Gd ops fr o true) (h1:Ef P w0 S0 n fr is ⟨some d,o,ty,pos,aft,some g⟩ val is') (h: ∀x,TO P w0 S0 m n ((d,val x)::fr) (is' x) ops l Q) (hn:Nat.blt d n=true:=by exact r):
 TO P w0 S0 m n fr is ops (⟨some d,o,ty,pos,aft,some g⟩::l) Q:=TO.ef h1 (hg _ rfl) rfl hn h
theorem Fu {is':List Item} (h1:Ef P w0 S0 n fr is ⟨none,o,ty,pos,aft,none⟩ (fun _:Unit=>undef) (fun _=>is')) (h:TO P w0 S0 m n fr is' ops l Q):
 TO P w0 S0 m n fr is ops (⟨none,o,ty,pos,aft,none⟩::l) Q:=TO.ef0 h1 rfl rfl fun _=>h
theorem gdA {j:Nat} {want:Bool} {dj:Nat} {b q:Bool} (hb:(b == want)=q) (h0:((ops[j]?).bind (·.dst),lk dj fr)=(some dj,some (.bool b)):=by exact r): ∀o:Oper,o.guard=some (j,want)→Gd ops fr o q:=by
 intro o ho
 simp only[Prod.mk.injEq]at h0
 exact Gd.at j want dj b ho h0.1 h0.2 hb
end
def takeV:Nat→List Value→Option (List Value)
 | 0,_=>some []
 | n+1,v::s=>match takeV n s with
   | some t=>some (v::t)
   | none=>none
 | _+1,[]=>none
def partO (off sz:Nat) (ag:Bool) (vs:List Value):Option Value:=match off,vs with
 | 0,vs=>match ag with
   | true=>match takeV sz vs with
     | some t=>some (.agg ⟨t⟩)
     | none=>none
   | false=>match vs with
     | v::_=>some v
     | []=>none
 | off+1,_::s=>partO off sz ag s
 | _+1,[]=>none
theorem zoW: ∀{n:Nat} {vs t:List Value},takeV n vs=some t→t=vs.take n∧n≤vs.length
 | 0,vs,t,h=>by cases h;simp
 | n+1,v::s,t,h=>by
   unfold takeV at h
   split at h
   ·rename_i t' h1
    cases h
    obtain ⟨rfl,h2⟩:=zoW h1
    exact ⟨by simp,by simpa using h2⟩
   ·cases h
 | _+1,[],_,h=>by cases h
theorem zoH: ∀{off sz:Nat} {ag:Bool} {vs:List Value} {v:Value},partO off sz ag vs=some v→part vs off sz ag=some v
 | 0,sz,ag,vs,v,h=>by
   unfold partO at h
   cases ag with
   | true=>
     simp only at h
     split at h
     ·rename_i t ht
      cases h
      obtain ⟨rfl,hle⟩:=zoW ht
      have:Nat.ble (0+sz) vs.length=true:=Nat.ble_eq_true_of_le (by omega)
      rw[Nat.zero_add]at this
      simp only[part,cond_true,Nat.zero_add,this,List.drop_zero]
     ·cases h
   | false=>
     simp only at h
     split at h
     ·cases h;rfl
     ·cases h
 | off+1,sz,ag,[],v,h=>by cases h
 | off+1,sz,ag,u::s,v,h=>by
   have:=zoH (off:=off) (vs:=s) h
   cases ag with
   | true=>
     simp only[part,cond_true,List.length_cons,List.drop_succ_cons]at this ⊢
     have e:Nat.ble (off+1+sz) (s.length+1)=Nat.ble (off+sz) s.length:=by
      rw[show off+1+sz=(off+sz)+1 by omega];rfl
     rw[e]
     exact this
   | false=>simpa[part] using this
section
variable {P:Program} {w0:World} {S0:List Nat} {n:Nat} {fr:Fr} {is:List Item}
variable {dst:Option Nat} {ty:TypeId} {pos:String} {aft:Array Edge} {gd:Option (Nat × Bool)} {α:Type}
theorem Lb {x:Operand} {b off bt sz t:Nat} {vs:List Value} {v:Value} {ag:Bool} (i:Nat) (hk:kindB P t=some (ag,sz)) (h0:(is[i]?,ev fr x,partO off sz ag vs)=(some (.box b bt vs),some (.pointer (some ⟨b,off,none⟩)),some v)):
 Y P w0 S0 n fr is ⟨dst,.load t x,ty,pos,aft,gd⟩ v:=by
 simp only[Prod.mk.injEq]at h0
 exact Y.load_box i hk h0.1 h0.2.1 (zoH h0.2.2)
theorem Fb {x:Operand} {b k o s f:Nat} (hfd:fieldB P s f=some o) (hx:ev fr x=some (.pointer (some ⟨b,k,none⟩))):Y P w0 S0 n fr is ⟨dst,.fieldAddr s x f,ty,pos,aft,gd⟩ (.pointer (some ⟨b,Nat.add k o,none⟩)):=Y.field_box hfd rfl hx
theorem Ln {l:List α} {v:Value} {sz':Nat} {cs':List C} {x:Operand} {t e' sz by_:Nat} {ty':TypeId} (he:elemB P t=some (e',sz,by_)) (hc:Can w0 S0 is v (.sl sz' l.length cs')) (hx:ev fr x=some v):
 Y P w0 S0 n fr is ⟨dst,.call {callee:=.builtin .len,args:=#[x],argTypes:=#[t]},ty',pos,aft,gd⟩ (.int .i64 (l.length:Int)):=Y.len he hc hx
theorem Ix {l:List α} {v:Value} {sz':Nat} {cs':List C} {x y:Operand} {t e' sz by_:Nat} {k:IntKind} {i:Int} {z:α} (he:elemB P t=some (e',sz,by_)) (hc:Can w0 S0 is v (.sl sz' l.length cs')) (hi:idx l i=some z) (h0:(ev fr x,ev fr y)=(some v,some (.int k i))):
 Y P w0 S0 n fr is ⟨dst,.indexAddr t x y,ty,pos,aft,gd⟩ (elP v (i.toNat*sz+0)):=by
 simp only[Prod.mk.injEq]at h0
 exact Y.index he hc hi h0.1 h0.2
theorem Fe {l:List α} {v:Value} {sz':Nat} {cs':List C} {x:Operand} {o sz s f c:Nat} {i:Int} {z:α} (hfd:fieldB P s f=some o) (hc:Can w0 S0 is v (.sl sz' l.length cs')) (hz:idx l i=some z) (hx:ev fr x=some (elP v (i.toNat*sz+c))):
 Y P w0 S0 n fr is ⟨dst,.fieldAddr s x f,ty,pos,aft,gd⟩ (elP v (i.toNat*sz+Nat.add c o)):=Y.field_el hfd hc (zz hz).2.2 rfl hx
def lelO (c s:Nat) (ag:Bool) (cs:List C):Option Value:=match valsR ((cs.drop c).take s) with
 | some us=>match Nat.beq us.length s&&(ag||Nat.beq s 1) with
   | true=>loaded ag us
   | false=>none
 | none=>none
theorem Le [Enc α] {l:List α} {v:Value} {x:Operand} {t sz c s:Nat} {i:Int} {z:α} {ag:Bool} {u:Value} (hk:kindB P t=some (ag,s)) (hc:Can w0 S0 is v (lc l)) (hz:idx l i=some z)
 (h0:(ev fr x,lelO c s ag (Enc.enc z))=(some (elP v (i.toNat*sz+c)),some u)) (hsz:Enc.sz α=sz:=by exact r):Y P w0 S0 n fr is ⟨dst,.load t x,ty,pos,aft,gd⟩ u:=by
 simp only[Prod.mk.injEq]at h0
 obtain ⟨hx,h1⟩:=h0
 unfold lelO at h1
 split at h1
 ·rename_i us hus
  split at h1
  ·rename_i hb
   simp only[Bool.and_eq_true]at hb
   exact Y.load_el hk hsz hc (zz hz).2.2 hx hus hb.1 hb.2 h1
  ·cases h1
 ·cases h1
theorem Lz [Enc α] {l:List α} {x:Operand} {v:Value} {t sz c s:Nat} {i:Int} {z:α} {ag:Bool} {u:Value} (hk:kindB P t=some (ag,s)) (hb:Base w0 S0 v (lc l)) (hz:idx l i=some z)
 (h0:(ev fr x,loaded ag (bvals w0 v (i.toNat*sz) c (((Enc.enc z).drop c).take s)))=(some (elP v (i.toNat*sz+c)),some u)) (hsz:Enc.sz α=sz:=by exact r)
 (hl:Nat.beq (((Enc.enc z).drop c).take s).length s=true:=by exact r) (hs0:Nat.blt 0 s=true:=by exact r) (ha:(ag||Nat.beq s 1)=true:=by exact r):
 Y P w0 S0 n fr is ⟨dst,.load t x,ty,pos,aft,gd⟩ u:=by
 simp only[Prod.mk.injEq]at h0
 exact Y.load_base hk hsz hb (zz hz).2.2 h0.1 hl hs0 ha h0.2
theorem Lh [Enc α] {l:List α} {v u:Value} {x:Operand} {t sz c s:Nat} {j:Int} {z:α} {zs:List C} {ag:Bool} (i:Nat) (hk:kindB P t=some (ag,s)) (hz:idx l j=some z)
 (h0:(is[i]?,ev fr x,lelO c s ag zs)=(some (.own v (hl l j.toNat zs)),some (elP v (j.toNat*sz+c)),some u)) (hsz:Enc.sz α=sz:=by exact r) (hzs:Nat.beq zs.length sz=true:=by exact r):
 Y P w0 S0 n fr is ⟨dst,.load t x,ty,pos,aft,gd⟩ u:=by
 simp only[Prod.mk.injEq]at h0
 obtain ⟨hi,hx,h1⟩:=h0
 unfold lelO at h1
 split at h1
 ·rename_i us hus
  split at h1
  ·rename_i hb
   simp only[Bool.and_eq_true]at hb
   exact Y.load_hole hk hsz hi (zz hz).2.2 hx hus hb.1 hb.2 h1 hzs
  ·cases h1
 ·cases h1
theorem Pt {c x y:Operand} {b:Bool} {u:Value} (hb:b=true) (h0:(ev fr c,ev fr x)=(some (.bool b),some u)):Y P w0 S0 n fr is ⟨dst,.pick c x y,ty,pos,aft,gd⟩ u:=by
 simp only[Prod.mk.injEq]at h0
 exact Y.pick_t hb h0.1 h0.2
theorem Pf {c x y:Operand} {b:Bool} {u:Value} (hb:b=false) (h0:(ev fr c,ev fr y)=(some (.bool b),some u)):Y P w0 S0 n fr is ⟨dst,.pick c x y,ty,pos,aft,gd⟩ u:=by
 simp only[Prod.mk.injEq]at h0
 exact Y.pick_f hb h0.1 h0.2
inductive PartsI (w0:World) (S0:List Nat) (is:List Item) (fr:Fr):List (Nat × Operand)→List (Nat × List Value)→Prop
 | nil:PartsI w0 S0 is fr [] []
 | cons {i:Nat} {o:Operand} {v:Value} {us:List Value} {ps:List (Nat × Operand)} {qs:List (Nat × List Value)} :ev fr o=some v→Cel w0 S0 is v us→PartsI w0 S0 is fr ps qs→PartsI w0 S0 is fr ((i,o)::ps) ((i,us)::qs)
theorem PartsI.parts {ps:List (Nat × Operand)} {qs:List (Nat × List Value)} (h:PartsI w0 S0 is fr ps qs):Parts w0 S0 is fr ps qs:=by
 induction h with
 | nil=>trivial
 | cons h1 h2 _ ih=>exact ⟨rfl,⟨_,h1,h2⟩,ih⟩
theorem Pc {i:Nat} {o:Operand} {v:Value} {us:List Value} {ps:List (Nat × Operand)} {qs:List (Nat × List Value)} (h1:ev fr o=some v) (h2:Cel w0 S0 is v us) (h3:PartsI w0 S0 is fr ps qs):PartsI w0 S0 is fr ((i,o)::ps) ((i,us)::qs):=.cons h1 h2 h3
theorem Pz:PartsI w0 S0 is fr [] []:=.nil
def repK {β:Type} :List Value→List Value→(List Value→Option β)→Option β
 | vs,[],k=>k vs
 | _::s,u::us,k=>repK s us fun t=>k (u::t)
 | [],_::_,_=>none
def splK {β:Type} :Nat→List Value→List Value→(List Value→Option β)→Option β
 | 0,vs,us,k=>repK vs us k
 | n+1,v::s,us,k=>splK n s us fun t=>k (v::t)
 | _+1,[],_,_=>none
theorem zp2 {β:Type} : ∀{vs us:List Value} {k:List Value→Option β} {b:β},repK vs us k=some b→us.length≤vs.length∧k (us++vs.drop us.length)=some b
 | vs,[],k,b,h=>⟨by simp,by simpa[repK] using h⟩
 | _::s,u::us,k,b,h=>by
   obtain ⟨h1,h2⟩:=zp2 (vs:=s) h
   exact ⟨by simpa using h1,by simpa using h2⟩
 | [],_::_,_,_,h=>by cases h
theorem zm8 {β:Type} : ∀{n:Nat} {vs us:List Value} {k:List Value→Option β} {b:β},splK n vs us k=some b→n+us.length≤vs.length∧k (splice vs n us)=some b
 | 0,vs,us,k,b,h=>by
   obtain ⟨h1,h2⟩:=zp2 h
   exact ⟨by omega,by simpa[splice] using h2⟩
 | n+1,v::s,us,k,b,h=>by
   obtain ⟨h1,h2⟩:=zm8 (vs:=s) h
   refine ⟨by simp;omega,?_⟩
   have:n+1+us.length=(n+us.length)+1:=by omega
   simpa[splice,this] using h2
 | _+1,[],_,_,_,h=>by cases h
def fillsK (place:List (Nat × Nat)):List Value→List (Nat × List Value)→Option (List Value)
 | cells,[]=>some cells
 | cells,(i,us)::s=>match place[i]? with
   | none=>none
   | some (off,sz)=>match Nat.beq us.length sz with
     | true=>splK off cells us fun t=>fillsK place t s
     | false=>none
theorem zni {place:List (Nat × Nat)} : ∀{qs:List (Nat × List Value)} {cells out:List Value},fillsK place cells qs=some out→fills place cells qs=some out
 | [],_,_,h=>h
 | (i,us)::s,cells,out,h=>by
   unfold fillsK at h
   unfold fills
   split at h
   ·cases h
   ·rename_i off sz h1
    split at h
    ·rename_i hb
     obtain ⟨h2,h3⟩:=zm8 h
     have h4:(Nat.beq us.length sz&&Nat.ble (off+us.length) cells.length)=true:=by
      rw[hb,Nat.ble_eq_true_of_le h2];rfl
     rw[h1]
     simp only[h4,cond_true]
     exact zni h3
    ·cases h
theorem Bd {t:TypeId} {ps:List (Nat × Operand)} {place:List (Nat × Nat)} {zs cells:List Value} {qs:List (Nat × List Value)} (hp:placesB P t=some place) (hz:zeroB P t=some (.agg zs.toArray)) (hq:PartsI w0 S0 is fr ps qs)
 (hf:fillsK place zs qs=some cells):Y P w0 S0 n fr is ⟨dst,.build t ps.toArray,ty,pos,aft,gd⟩ (.agg cells.toArray):=Y.build qs hp hz hq.parts (zni hf)
theorem Bc {v:Value} {c:C} (h:Base w0 S0 v c):Can w0 S0 is v c:=h.can
theorem Oc {v:Value} {c:C} (k:Nat) (h:is[k]? =some (.own v c)):Can w0 S0 is v c:=Can.own k h
theorem Cp {v:Value} {us:List Value} (h:v.cells=us.toArray) (h1:us.all (·.oneCell')=true:=by exact r):Cel w0 S0 is v us:=Cel.plain h h1
theorem Ca {us:List Value} (h:Ones w0 S0 is us):Cel w0 S0 is (.agg us.toArray) us:=Cel.agg h
theorem Cb {v:Value} {c:C} (h:Base w0 S0 v c):Cel w0 S0 is v [v]:=Cel.one (One.can h.can)
theorem Co {v:Value} {c:C} (k:Nat) (h:is[k]? =some (.own v c):=by exact r):Cel w0 S0 is v [v]:=Cel.one (One.can (Can.own k h))
theorem Ob {v:Value} {c:C} (h:Base w0 S0 v c):One w0 S0 is v:=One.can h.can
theorem Ow' {v:Value} {c:C} (k:Nat) (h:is[k]? =some (.own v c):=by exact r):One w0 S0 is v:=One.can (Can.own k h)
theorem Op' {v:Value} (h:v.oneCell'=true:=by exact r):One w0 S0 is v:=One.plain h
theorem Al {t:Nat} {z:Value} {zs:List Value} (hz:zeroB P t=some z) (hzs:z.cells=zs.toArray):
 Ef P w0 S0 n fr is ⟨dst,.alloc t,ty,pos,aft,gd⟩ (fun b:Nat=>.pointer (some ⟨b,0,none⟩)) (fun b=>.box b t zs::is):=Ef.alloc hz hzs
theorem Bx {t:Nat} {x:Operand} {v:Value} {zs:List Value} (hx:ev fr x=some v) (hzs:Cel w0 S0 is v zs):
 Ef P w0 S0 n fr is ⟨dst,.box t x,ty,pos,aft,gd⟩ (fun b:Nat=>.pointer (some ⟨b,0,none⟩)) (fun b=>.box b t zs::is):=Ef.box hx hzs
theorem Sb {x y:Operand} {b off bt sz t:Nat} {vs us:List Value} {v:Value} {ag:Bool} {is':List Item} (i:Nat) (hk:kindB P t=some (ag,sz))
 (h0:(is[i]?,ev fr x,ev fr y)=(some (.box b bt vs),some (.pointer (some ⟨b,off,none⟩)),some v)) (hv:Cel w0 S0 is v us) (h1:splK off vs us (fun vs'=>setK i is (.box b bt vs') some)=some is') (hl:Nat.beq us.length sz=true:=by exact r):
 Ef P w0 S0 n fr is ⟨none,.store t x y,ty,pos,aft,gd⟩ (fun _:Unit=>undef) (fun _=>is'):=by
 simp only[Prod.mk.injEq]at h0
 obtain ⟨h2,h3⟩:=zm8 h1
 have h4:=zmZ h3
 cases h4
 exact Ef.store_box i hk h0.1 h0.2.1 h0.2.2 hv hl (Nat.ble_eq_true_of_le h2) rfl rfl
theorem Se [Flat α] {x y:Operand} {sz c s t:Nat} {j:Int} {l:List α} {z:α} {v u:Value} {us:List Value} {ag:Bool} {is':List Item} (z':α) (i:Nat) (hk:kindB P t=some (ag,s)) (hz:idx l j=some z)
 (h0:(is[i]?,ev fr x,ev fr y)=(some (.own v (lc l)),some (elP v (j.toNat*sz+c)),some u)) (hv:Cel w0 S0 is u us) (his:setK i is (.own v (lc (l.set j.toNat z'))) some=some is')
 (hsz:Enc.sz α=sz:=by exact r) (hl:Nat.beq us.length s=true:=by exact r) (hle:Nat.ble (c+us.length) sz=true:=by exact r) (hs:splice (Flat.vals z) c us=Flat.vals z':=by exact r):
 Ef P w0 S0 n fr is ⟨none,.store t x y,ty,pos,aft,gd⟩ (fun _:Unit=>undef) (fun _=>is'):=by
 simp only[Prod.mk.injEq]at h0
 have h4:=zmZ his
 cases h4
 exact Ef.store_el z' i hk hsz h0.1 (zz hz).2.2 h0.2.1 h0.2.2 hv hl hle hs rfl
theorem Bs [Flat α] {d:Option Nat} {t e sz by_ len:Nat} {ps:List (Nat × Operand)} {Vs:List Value} {z:Value} (xs:List α)
 (he:elemB P t=some (e,sz,by_)) (hz:zeroB P e=some z) (hsz:Enc.sz α=sz:=by exact r) (hps:partVs fr 0 ps=some Vs:=by exact r) (hlen:xs.length=len:=by exact r) (hbig:Nat.ble (len*sz) 16777216=true:=by exact r)
 (hv:Vs.map (fun V=>V.cells.toList)=xs.map Flat.vals:=by exact r):
 Ef P w0 S0 n fr is ⟨d,.buildSlice t len ps.toArray,ty,pos,aft,gd⟩ (fun b:Nat=>.slice (some ⟨b,0,none⟩) len len) (fun b=>.own (.slice (some ⟨b,0,none⟩) len len) (lc xs)::is):=Ef.buildSlice xs he hz hsz hps hlen hbig hv
theorem Ap [Flat α] {d:Option Nat} {t e sz by_:Nat} {x y:Operand} {z:Value} {l k q:List α} {v u:Value} {is':List Item}
 (ks:List Nat) (hr:app by_ l k=some q) (he:elemB P t=some (e,sz,by_)) (hz:zeroB P e=some z) (h0:(takeP ks is,ev fr x,ev fr y)=(some ([.own v (lc l)],is'),some v,some u)) (hc:Can w0 S0 is u (lc k))
 (hzs:Nat.beq z.cells.size sz=true:=by exact r) (hsz:Enc.sz α=sz:=by exact r):
 Ef P w0 S0 n fr is ⟨d,.call {callee:=.builtin .append,args:=#[x,y],argTypes:=#[t,t]},ty,pos,aft,gd⟩ (fun v':Value=>v') (fun v'=>.own v' (lc q)::is'):=by
 simp only[Prod.mk.injEq]at h0
 obtain ⟨h1,h2,h3⟩:=h0
 intro a w K Q hf hs hK
 obtain ⟨v',w',h4,h5⟩:=append_go (ty:=ty) (hs.takeP h1) hr he hz hzs hsz hc hs
 have hrun:(execOp a.eval ⟨d,.call {callee:=.builtin .append,args:=#[x,y],argTypes:=#[t,t]},ty,pos,aft,gd⟩).run P w= .ok (.value v') w':=by
  simp[execOp,resolve,invoke,builtin,hf.eval h2,hf.eval h3,h4]
 unfold Oper.wp
 rw[hrun]
 exact hK v' w' h5
theorem An [Flat α] {d:Option Nat} {t e sz by_:Nat} {x y:Operand} {z:Value} {k q:List α} {u:Value}
 (hr:app by_ [] k=some q) (he:elemB P t=some (e,sz,by_)) (hz:zeroB P e=some z) (h0:(ev fr x,ev fr y)=(some (.slice none 0 0),some u)) (hc:Can w0 S0 is u (lc k))
 (hzs:Nat.beq z.cells.size sz=true:=by exact r) (hsz:Enc.sz α=sz:=by exact r):
 Ef P w0 S0 n fr is ⟨d,.call {callee:=.builtin .append,args:=#[x,y],argTypes:=#[t,t]},ty,pos,aft,gd⟩ (fun v':Value=>v') (fun v'=>.own v' (lc q)::is):=by
 simp only[Prod.mk.injEq]at h0
 exact Ef.append_nil hr he hz hzs hsz h0.1 h0.2 hc
def Cn (P:Program) (f:FuncId) (args:List Value) (pre:List Item) (rds:List (Value × C)) {R X:Type} (m:Option R) (val:R→X→Value) (post:R→X→List Item):Prop:=
 callB P f=true∧∀q,m=some q→Con P f args pre rds (val q) (post q)
def BaseR (w:World) (S:List Nat):List (Value × C)→Prop
 | []=>True
 | (v,c)::s=>Base w S v c∧BaseR w S s
theorem BaseR.of {w:World} {S:List Nat} : ∀{rds:List (Value × C)},(∀p∈rds,Base w S p.1 p.2)→BaseR w S rds
 | [],_=>trivial
 | (_,_)::_,h=>⟨h _ (.head _),BaseR.of fun p hp=>h p (.tail _ hp)⟩
theorem Ci {f:FuncId} {fn:Func} {c:Code} {args:List Value} {pre:List Item} {rds:List (Value × C)} {X R:Type} {k:Nat} {val:R→X→Value} {post:R→X→List Item} {m:Option R}
 (hf:P.funcs[f]? =some fn) (hb:fn.body=some c) (hn:fn.ntmps=k) (h: ∀w S,BaseR w S rds→TW P w S m k (argFr 0 args) pre c (fun q=>bodyPost P fn (fun e w'=>∃x,e= .returned (val q x)∧St w S (post q x) w')))
 (hl:Nat.ble args.length k=true:=by exact r) (hN:(fn.name != "runtime.NumGoroutine")=true:=by exact r):
 Cn P f args pre rds m val post:=by
 refine ⟨by unfold callB;rw[hf];simp only[hN,hb,Option.isSome_some,Bool.and_self],fun q hq=>?_⟩
 exact Con.intro hf hb hn hl hq fun w S hrd=>h w S (BaseR.of hrd)
theorem Cl {X R:Type} {m:Option R} {q:R} {val:R→X→Value} {post:R→X→List Item} {is':X→List Item} {pre rest:List Item} {rds:List (Value × C)} {f:FuncId} {os:List Operand} {args:List Value} {ats:Array TypeId}
 (ks:List Nat) (hc:Cn P f args pre rds m val post) (hm:m=some q) (h0:(evs fr os,takeP ks is)=(some args,some (pre,rest))) (h1: ∀x,appK (post q x) rest some=some (is' x)) (hr:Cans w0 S0 rest rds:=by exact trivial):
 Ef P w0 S0 n fr is ⟨dst,.call {callee:=.value (.func f),args:=os.toArray,argTypes:=ats},ty,pos,aft,gd⟩ (val q) is':=by
 simp only[Prod.mk.injEq]at h0
 intro a w K Q hf hs hK
 obtain ⟨A,hA,hrd,hback⟩:=(hs.takeP h0.2).frame
 have hcall:=hc.2 q hm w A hA fun p hp=>hrd _ _ (hr.mem p hp)
 have he:(execOp a.eval ⟨dst,.call {callee:=.value (.func f),args:=os.toArray,argTypes:=ats},ty,pos,aft,gd⟩).run P w= .ok (.enter f args.toArray) w:=by
  simp[execOp,resolve,Act.eval,Deferred.ofValue,invoke,←hf.evals h0.1,zjN hc.1]
 unfold Oper.wp
 rw[he]
 refine hcall.mono ?_
 rintro e w' ⟨x,rfl,hst⟩
 have hx:=h1 x
 rw[zmv]at hx
 have hx':post q x++rest=is' x:=Option.some.inj hx
 refine hK x _ ?_
 rw[←hx']
 exact hback _ _ hst
theorem Cm {X:Type} {val:X→Value} {post is':X→List Item} {pre rest:List Item} {rds:List (Value × C)} {f:FuncId} {os:List Operand} {args:List Value} {ats:Array TypeId}
 (ks:List Nat) (hc:Con P f args pre rds val post) (hb:callB P f=true) (h0:(evs fr os,takeP ks is)=(some args,some (pre,rest))) (h1: ∀x,appK (post x) rest some=some (is' x)) (hr:Cans w0 S0 rest rds:=by exact trivial):
 Ef P w0 S0 n fr is ⟨dst,.call {callee:=.value (.func f),args:=os.toArray,argTypes:=ats},ty,pos,aft,gd⟩ val is':=
 Cl (R:=Unit) (m:=some ()) (q:=()) (val:=fun _=>val) (post:=fun _=>post) ks ⟨hb,fun _ _=>hc⟩ rfl h0 h1 hr
theorem Cw {X R:Type} {m:Option R} {q:R} {val:R→X→Value} {post:R→X→List Item} {is':X→List Item} {pre rest:List Item} {rds:List (Value × C)} {f:FuncId} {x:Operand} {os:List Operand} {args cs all:List Value} {ats:Array TypeId}
 (ks:List Nat) (hc:Cn P f all pre rds m val post) (hm:m=some q) (h0:(evs fr os,ev fr x)=(some args,some (.func (.func f) #[] cs.toArray))) (h2:takeP ks is=some (pre,rest)) (h1: ∀x,appK (post q x) rest some=some (is' x)) (hr:Cans w0 S0 rest rds:=by exact trivial) (hall:args++cs=all:=by exact r):
 Ef P w0 S0 n fr is ⟨dst,.call {callee:=.value x,args:=os.toArray,argTypes:=ats},ty,pos,aft,gd⟩ (val q) is':=by
 simp only[Prod.mk.injEq]at h0
 intro a w K Q hf hs hK
 subst hall
 obtain ⟨A,hA,hrd,hback⟩:=(hs.takeP h2).frame
 have hcall:=hc.2 q hm w A hA fun p hp=>hrd _ _ (hr.mem p hp)
 have he:(execOp a.eval ⟨dst,.call {callee:=.value x,args:=os.toArray,argTypes:=ats},ty,pos,aft,gd⟩).run P w= .ok (.enter f (args++cs).toArray) w:=by
  have h1:=zjN hc.1 (args++cs).toArray w
  have h2:=hf.evals h0.1
  simp[execOp,resolve,hf.eval h0.2,Deferred.ofValue,invoke,List.map_toArray,h2]
  simpa using h1
 unfold Oper.wp
 rw[he]
 refine hcall.mono ?_
 rintro e w' ⟨x,rfl,hst⟩
 have hx:=h1 x
 rw[zmv]at hx
 have hx':post q x++rest=is' x:=Option.some.inj hx
 refine hK x _ ?_
 rw[←hx']
 exact hback _ _ hst
end
def aval (ops:Array Oper) (n:Nat):List Nat→Fr→Option Fr
 | [],fr=>some fr
 | i::s,fr=>match ops[i]? with
   | some ⟨some d,o,_,_,_,none⟩=>match Nat.blt d n with
     | true=>match sval fr o with
       | some v=>aval ops n s ((d,v)::fr)
       | none=>none
     | false=>none
   | _=>none
def aoff (ops:Array Oper) (n j:Nat) (want:Bool) (dj:Nat):List Nat→Fr→Option Fr
 | [],fr=>some fr
 | i::s,fr=>match ops[i]? with
   | some ⟨some d,_,_,_,_,some (j',want')⟩=>match Nat.blt d n&&(Nat.beq j' j&&(want' == want&& !Nat.beq dj d)) with
     | true=>aoff ops n j want dj s ((d,undef)::fr)
     | false=>none
   | _=>none
def decF:List Nat→Nat→Option Nat
 | [],f=>some f
 | _::s,f+1=>decF s f
 | _::_,0=>none
def abits:List Nat→Nat→Nat
 | [],L=>L
 | i::s,L=>abits s (L ||| 2 ^ i)
def rdy (ops:Array Oper) (i L:Nat):Bool:=Region.noSelect ops&&(Region.free .any ops (bm ops.size L) i&&(Region.ready .any ops (bm ops.size L)).contains i)
def ardy (ops:Array Oper):List Nat→Nat→Bool
 | [],_=>true
 | i::s,L=>rdy ops i L&&ardy ops s (L ||| 2 ^ i)
section
variable {P:Program} {w0:World} {S0:List Nat} {R:Type} {m:Option R} {n:Nat} {fr:Fr} {is isH:List Item} {Q:R→Exit→Act→World→Prop}
variable {d:Nat} {o:Op} {ty:TypeId} {pos:String} {aft:Array Edge} {g:Nat × Bool} {ops:Array Oper} {fuel L:Nat} {v:Value}
theorem Dr {id:Nat} (held:List Nat) (_:takeI held is []=some isH) (hm:P.follows .mixedOrders=true) (h:TA P w0 S0 m n fr is isH ops ops.size (bm ops.size 0) Q):TW P w0 S0 m n fr is (.region id ops true) Q:=TW.draw hm h
theorem Ai {X:Type} {p:Option X} {k:X→Option R} {listed:Array Bool} (h: ∀x,p=some x→TA P w0 S0 (k x) n fr is isH ops fuel listed Q):TA P w0 S0 (p.bind k) n fr is isH ops fuel listed Q:=TA.bind h
theorem Ia {b:Bool} {m1 m2:Option R} {listed:Array Bool} (h1:b=true→TA P w0 S0 m1 n fr is isH ops fuel listed Q) (h2:b=false→TA P w0 S0 m2 n fr is isH ops fuel listed Q):
 TA P w0 S0 (if b=true then m1 else m2) n fr is isH ops fuel listed Q:=TA.ite h1 h2
theorem Az {listed:Array Bool} (h:TE w0 S0 m n fr is .normal Q) (hr:Region.ready .any ops listed= []:=by kernel_rfl):TA P w0 S0 m n fr is isH ops fuel listed Q:=TA.nil hr h
theorem Ay (i:Nat) (ks:List Nat) (hi:ops[i]? =some ⟨some d,o,ty,pos,aft,none⟩) (h1:Y P w0 S0 n fr isH ⟨some d,o,ty,pos,aft,none⟩ v) (h:TA P w0 S0 m n ((d,v)::fr) is isH ops fuel (bm ops.size (L ||| 2 ^ i)) Q)
 (hH:pulls ks is=some isH:=by exact r) (hn:Nat.blt d n=true:=by exact r) (hc:rdy ops i L=true:=by kernel_rfl):TA P w0 S0 m n fr is isH ops (fuel+1) (bm ops.size L) Q:=TA.y i ks hi h1 rfl rfl hn hc hH h
theorem Ag (i:Nat) (ks:List Nat) (hg: ∀o:Oper,o.guard=some g→Gd ops fr o true) (hi:ops[i]? =some ⟨some d,o,ty,pos,aft,some g⟩) (h1:Y P w0 S0 n fr isH ⟨some d,o,ty,pos,aft,some g⟩ v) (h:TA P w0 S0 m n ((d,v)::fr) is isH ops fuel (bm ops.size (L ||| 2 ^ i)) Q)
 (hH:pulls ks is=some isH:=by exact r) (hn:Nat.blt d n=true:=by exact r) (hc:rdy ops i L=true:=by kernel_rfl):TA P w0 S0 m n fr is isH ops (fuel+1) (bm ops.size L) Q:=TA.y i ks hi h1 (hg _ rfl) rfl hn hc hH h
theorem Aq (js ks:List Nat) {fr':Fr} {fuel2:Nat} (h0:(aval ops n js fr,decF js fuel2)=(some fr',some fuel)) (h:TA P w0 S0 m n fr' is isH ops fuel (bm ops.size (abits js L)) Q)
 (hH:pulls ks is=some isH:=by exact r) (hc:ardy ops js L=true:=by kernel_rfl):TA P w0 S0 m n fr is isH ops fuel2 (bm ops.size L) Q:=by
 simp only[Prod.mk.injEq]at h0
 obtain ⟨h1,h2⟩:=h0
 induction js generalizing fr fuel2 L with
 | nil=>cases h1;cases h2;exact h
 | cons i s ih=>
   unfold aval at h1
   split at h1
   ·rename_i d o ty pos aft hi
    split at h1
    ·rename_i hn
     split at h1
     ·rename_i v hv
      unfold ardy at hc
      rw[Bool.and_eq_true]at hc
      cases fuel2 with
      | zero=>cases h2
      | succ f=>exact TA.y i ks hi (Y.sval hv) rfl rfl hn hc.1 hH (ih h hc.2 h1 h2)
     ·cases h1
    ·cases h1
   ·cases h1
theorem Ax (js ks:List Nat) {j dj:Nat} {want b:Bool} {fr':Fr} {fuel2:Nat} (hb:(b == want)=false)
 (h0:(js.head?.bind fun i=>(ops[i]?).bind (·.guard),(ops[j]?).bind (·.dst),lk dj fr)=(some (j,want),some dj,some (.bool b)))
 (h1:(aoff ops n j want dj js fr,decF js fuel2)=(some fr',some fuel)) (h:TA P w0 S0 m n fr' is isH ops fuel (bm ops.size (abits js L)) Q)
 (hH:pulls ks is=some isH:=by exact r) (hc:ardy ops js L=true:=by kernel_rfl):TA P w0 S0 m n fr is isH ops fuel2 (bm ops.size L) Q:=by
 simp only[Prod.mk.injEq]at h0 h1
 obtain ⟨-,h3,h4⟩:=h0
 obtain ⟨h1,h2⟩:=h1
 induction js generalizing fr fuel2 L with
 | nil=>cases h1;cases h2;exact h
 | cons i s ih=>
   unfold aoff at h1
   split at h1
   ·rename_i d o ty pos aft j' want' hi
    split at h1
    ·rename_i hn
     simp only[Bool.and_eq_true,Bool.not_eq_true']at hn
     obtain ⟨hn,hj,hw,hd⟩:=hn
     have hj':j'=j:=by simpa using hj
     have hw':want'=want:=by simpa using hw
     subst hj' hw'
     unfold ardy at hc
     rw[Bool.and_eq_true]at hc
     cases fuel2 with
     | zero=>cases h2
     | succ f=>exact TA.off i ks hi (Gd.at _ _ dj b rfl h3 h4 hb) rfl hn hc.1 hH (ih h hc.2 (by rw[zhF hd];exact h4) h1 h2)
    ·cases h1
   ·cases h1
theorem Au (js ks:List Nat) {j dj:Nat} {want:Bool} {fr':Fr} {fuel2:Nat}
 (h0:(js.head?.bind fun i=>(ops[i]?).bind (·.guard),(ops[j]?).bind (·.dst),lk dj fr)=(some (j,want),some dj,some undef))
 (h1:(aoff ops n j want dj js fr,decF js fuel2)=(some fr',some fuel)) (h:TA P w0 S0 m n fr' is isH ops fuel (bm ops.size (abits js L)) Q)
 (hH:pulls ks is=some isH:=by exact r) (hc:ardy ops js L=true:=by kernel_rfl):TA P w0 S0 m n fr is isH ops fuel2 (bm ops.size L) Q:=by
 simp only[Prod.mk.injEq]at h0 h1
 obtain ⟨-,h3,h4⟩:=h0
 obtain ⟨h1,h2⟩:=h1
 induction js generalizing fr fuel2 L with
 | nil=>cases h1;cases h2;exact h
 | cons i s ih=>
   unfold aoff at h1
   split at h1
   ·rename_i d o ty pos aft j' want' hi
    split at h1
    ·rename_i hn
     simp only[Bool.and_eq_true,Bool.not_eq_true']at hn
     obtain ⟨hn,hj,hw,hd⟩:=hn
     have hj':j'=j:=by simpa using hj
     have hw':want'=want:=by simpa using hw
     subst hj' hw'
     unfold ardy at hc
     rw[Bool.and_eq_true]at hc
     cases fuel2 with
     | zero=>cases h2
     | succ f=>exact TA.off i ks hi (Gd.un _ _ dj rfl h3 h4) rfl hn hc.1 hH (ih h hc.2 (by rw[zhF hd];exact h4) h1 h2)
    ·cases h1
   ·cases h1
theorem Ou (k:Nat) {j dj:Nat} {want:Bool} {l l':List Oper} {fr':Fr} (h0:(l.head?.bind (·.guard),(ops[j]?).bind (·.dst),lk dj fr)=(some (j,want),some dj,some undef))
 (h1:orun n j want dj k l fr=some (l',fr')) (h:TO P w0 S0 m n fr' is ops l' Q):TO P w0 S0 m n fr is ops l Q:=by
 obtain ⟨-,h3,h4⟩:_∧_∧_:=by simpa using h0
 clear h0
 induction k generalizing l fr with
 | zero=>cases h1;exact h
 | succ k ih=>
   unfold orun at h1
   split at h1
   ·rename_i e;cases e
   ·rename_i k' d o ty pos aft j' want' l0 e
    cases e
    split at h1
    ·rename_i hn
     simp only[Bool.and_eq_true,Bool.not_eq_true']at hn
     obtain ⟨hn,hj,hw,hd⟩:=hn
     have hj':j'=j:=by simpa using hj
     have hw':want'=want:=by simpa using hw
     subst hj' hw'
     refine TO.off (Gd.un _ _ dj rfl h3 h4) rfl hn (ih h1 ?_)
     rw[zhF hd];exact h4
    ·cases h1
   ·cases h1
theorem Xe {i:Nat} {X:Type} {val:X→Value} {is':X→List Item} (ks:List Nat) (hi:ops[i]? =some ⟨some d,o,ty,pos,aft,none⟩) (h1:Ef P w0 S0 n fr is ⟨some d,o,ty,pos,aft,none⟩ val is')
 (h: ∀x,TA P w0 S0 m n ((d,val x)::fr) (is' x) isH ops fuel (bm ops.size (L ||| 2 ^ i)) Q) (hH: ∀x,pulls ks (is' x)=some isH:=by exact fun _=>r) (hn:Nat.blt d n=true:=by exact r):
 TX P w0 S0 m n fr is isH ops fuel (bm ops.size L) Q i:=TX.ef ks hi h1 rfl rfl hn hH h
theorem Xu {i:Nat} {is':List Item} (ks:List Nat) (hi:ops[i]? =some ⟨none,o,ty,pos,aft,none⟩) (h1:Ef P w0 S0 n fr is ⟨none,o,ty,pos,aft,none⟩ (fun _:Unit=>undef) (fun _=>is'))
 (h:TA P w0 S0 m n fr is' isH ops fuel (bm ops.size (L ||| 2 ^ i)) Q) (hH:pulls ks is'=some isH:=by exact r):
 TX P w0 S0 m n fr is isH ops fuel (bm ops.size L) Q i:=TX.ef0 ks hi h1 rfl rfl (fun _=>hH) fun _=>h
theorem Xy {i:Nat} (ks:List Nat) (hi:ops[i]? =some ⟨some d,o,ty,pos,aft,none⟩) (h1:Y P w0 S0 n fr is ⟨some d,o,ty,pos,aft,none⟩ v) (h:TA P w0 S0 m n ((d,v)::fr) is isH ops fuel (bm ops.size (L ||| 2 ^ i)) Q)
 (hH:pulls ks is=some isH:=by exact r) (hn:Nat.blt d n=true:=by exact r):TX P w0 S0 m n fr is isH ops fuel (bm ops.size L) Q i:=TX.y ks hi h1 rfl rfl hn hH h
theorem Xeg {i:Nat} {X:Type} {val:X→Value} {is':X→List Item} (ks:List Nat) (hg: ∀o:Oper,o.guard=some g→Gd ops fr o true) (hi:ops[i]? =some ⟨some d,o,ty,pos,aft,some g⟩) (h1:Ef P w0 S0 n fr is ⟨some d,o,ty,pos,aft,some g⟩ val is')
 (h: ∀x,TA P w0 S0 m n ((d,val x)::fr) (is' x) isH ops fuel (bm ops.size (L ||| 2 ^ i)) Q) (hH: ∀x,pulls ks (is' x)=some isH:=by exact fun _=>r) (hn:Nat.blt d n=true:=by exact r):
 TX P w0 S0 m n fr is isH ops fuel (bm ops.size L) Q i:=TX.ef ks hi h1 (hg _ rfl) rfl hn hH h
theorem A1 {listed:Array Bool} (i:Nat) (h:TX P w0 S0 m n fr is isH ops fuel listed Q i) (hr:Region.ready .any ops listed= [i]:=by kernel_rfl):TA P w0 S0 m n fr is isH ops (fuel+1) listed Q:=TA.one i hr h
theorem A2 {listed:Array Bool} (i j:Nat) (h1:TX P w0 S0 m n fr is isH ops fuel listed Q i) (h2:TX P w0 S0 m n fr is isH ops fuel listed Q j) (hr:Region.ready .any ops listed= [i,j]:=by kernel_rfl):TA P w0 S0 m n fr is isH ops (fuel+1) listed Q:=TA.two i j hr h1 h2
theorem A3 {listed:Array Bool} (i j k:Nat) (h1:TX P w0 S0 m n fr is isH ops fuel listed Q i) (h2:TX P w0 S0 m n fr is isH ops fuel listed Q j) (h3:TX P w0 S0 m n fr is isH ops fuel listed Q k) (hr:Region.ready .any ops listed= [i,j,k]:=by kernel_rfl):
 TA P w0 S0 m n fr is isH ops (fuel+1) listed Q:=TA.three i j k hr h1 h2 h3
end
def isSl:C→Bool
 | .sl _ _ _=>true
 | _=>false
def opnO:List C→List Value→Option (List C × List Item)
 | [],_=>some ([],[])
 | c::s,Vs=>match isSl c with
   | true=>match Vs with
     | V::Vs=>match opnO s Vs with
       | some (ds,js)=>some (.raw V::ds,.own V c::js)
       | none=>none
     | []=>none
   | false=>match opnO s Vs with
     | some (ds,js)=>some (c::ds,js)
     | none=>none
theorem zmW: ∀{cs:List C} {Vs:List Value} {ds:List C} {js:List Item},opnO cs Vs=some (ds,js)→opnC cs Vs=ds∧opnI cs Vs=js
 | [],_,ds,js,h=>by cases h;exact ⟨rfl,rfl⟩
 | c::s,Vs,ds,js,h=>by
   unfold opnO at h
   split at h
   ·rename_i hc
    split at h
    ·rename_i V Vs'
     split at h
     ·rename_i ds' js' h1
      cases h
      obtain ⟨h2,h3⟩:=zmW h1
      cases c with
      | sl sz k cs=>exact ⟨by simp only[opnC,h2],by simp only[opnI,h3]⟩
      | _=>cases hc
     ·cases h
    ·cases h
   ·rename_i hc
    split at h
    ·rename_i ds' js' h1
     cases h
     obtain ⟨h2,h3⟩:=zmW h1
     cases c with
     | sl sz k cs=>cases hc
     | _=>exact ⟨by simp only[opnC,h2],by simp only[opnI,h3]⟩
    ·cases h
def opI {α:Type} [Enc α] (v:Value) (l:List α) (k:Nat) (rest:List Item):Option (List C × List Item)→Option (List Item)
 | some (cs,js)=>appK js rest fun t=>some (.own v (hl l k cs)::t)
 | none=>none
section
variable {P:Program} {w0:World} {S0:List Nat} {R:Type} {m:Option R} {n:Nat} {fr:Fr} {is:List Item} {Q:R→Exit→Act→World→Prop} {α:Type}
theorem Gt {X:Type} {is':X→List Item} {ops:Array Oper} {l:List Oper} (g:Gh w0 S0 is is') (h: ∀x,TO P w0 S0 m n fr (is' x) ops l Q):TO P w0 S0 m n fr is ops l Q:=TO.ghost g h
theorem Gw {X:Type} {is':X→List Item} {c:Code} (g:Gh w0 S0 is is') (h: ∀x,TW P w0 S0 m n fr (is' x) c Q):TW P w0 S0 m n fr is c Q:=TW.ghost g h
theorem Ga {X:Type} {is':X→List Item} {isH:List Item} {ops:Array Oper} {fuel:Nat} {listed:Array Bool} (g:Gh w0 S0 is is') (h: ∀x,TA P w0 S0 m n fr (is' x) isH ops fuel listed Q):TA P w0 S0 m n fr is isH ops fuel listed Q:=TA.ghost g h
theorem Kt {is':List Item} {ops:Array Oper} {l:List Oper} (g: ∀w,St w0 S0 is w→St w0 S0 is' w) (h:TO P w0 S0 m n fr is' ops l Q):TO P w0 S0 m n fr is ops l Q:=TO.conv g h
theorem Kw {is':List Item} {c:Code} (g: ∀w,St w0 S0 is w→St w0 S0 is' w) (h:TW P w0 S0 m n fr is' c Q):TW P w0 S0 m n fr is c Q:=TW.conv g h
theorem Ke {is':List Item} {e:Exit} (g: ∀w,St w0 S0 is w→St w0 S0 is' w) (h:TE w0 S0 m n fr is' e Q):TE w0 S0 m n fr is e Q:=TE.conv g h
theorem Ka {is' isH:List Item} {ops:Array Oper} {fuel:Nat} {listed:Array Bool} (g: ∀w,St w0 S0 is w→St w0 S0 is' w) (h:TA P w0 S0 m n fr is' isH ops fuel listed Q):TA P w0 S0 m n fr is isH ops fuel listed Q:=TA.conv g h
theorem Cz:Cls [] [] []:=.nil
theorem Ck {c:C} {cs:List C} {is:List Item} {ds:List C} (h:Cls cs is ds):Cls (c::cs) is (c::ds):=.keep h
theorem Cf {V:Value} {c:C} {cs:List C} {is:List Item} {ds:List C} (h:Cls cs is ds):Cls (.raw V::cs) (.own V c::is) (c::ds):=.fill h
theorem Hc [Enc α] {l:List α} {x:α} {i:Int} {v:Value} {zs ys:List C} {js rest:List Item} (ks:List Nat) (y:α) (hz:idx l i=some x) (hp:takeP ks is=some (.own v (hl l i.toNat zs)::js,rest)) (hc:Cls zs js ys) (hy:Enc.enc y=ys:=by exact r):
 ∀w,St w0 S0 is w→St w0 S0 (.own v (lc (l.set i.toNat y))::rest) w:=by
 intro w h
 subst hy
 rw[ztN (zz hz).2.2]
 exact St.cls hc (h.takeP hp)
theorem Hs [Enc α] {l:List α} {x:α} {i:Int} {v:Value} {zs ys:List C} {js rest:List Item} (ks:List Nat) (hz:idx l i=some x) (hp:takeP ks is=some (.own v (hl l i.toNat zs)::js,rest)) (hc:Cls zs js ys) (hy:Enc.enc x=ys:=by exact r):
 ∀w,St w0 S0 is w→St w0 S0 (.own v (lc l)::rest) w:=by
 intro w h
 subst hy
 rw[zkt (zz hz).2.2]
 exact St.cls hc (h.takeP hp)
theorem Ha [Enc α] {v:Value} {sz k:Nat} {cs ds:List C} {js rest:List Item} (ks:List Nat) (xs:List α) (hp:takeP ks is=some (.own v (.sl sz k cs)::js,rest)) (hc:Cls cs js ds) (hx:lc xs= .sl sz k ds:=by exact r):
 ∀w,St w0 S0 is w→St w0 S0 (.own v (lc xs)::rest) w:=by
 intro w h
 rw[hx]
 have:=St.cls (pre:=[]) (post:=[]) hc (by simpa using h.takeP hp)
 simpa using this
theorem Ho [Enc α] {l:List α} {x:α} {v:Value} {rest:List Item} {i:Int} (q:Nat) {isf:Tup q→List Item} (ks:List Nat) (hz:idx l i=some x) (hp:takeP ks is=some ([.own v (lc l)],rest))
 (h1: ∀X:Tup q,opI v l i.toNat rest (opnO (Enc.enc x) (tupL q X))=some (isf X)) (hq:slN (Enc.enc x)=q:=by exact r):Gh w0 S0 is isf:=by
 intro w h
 have h':=h.takeP hp
 rw[List.singleton_append,zkt (zz hz).2.2]at h'
 obtain ⟨Vs,hlen,h2⟩:=St.opn h'
 obtain ⟨X,rfl⟩:=zkH q Vs (hlen.trans hq)
 refine ⟨X,?_⟩
 have h3:=h1 X
 cases ho:opnO (Enc.enc x) (tupL q X) with
 | none=>rw[ho]at h3;cases h3
 | some p=>
   obtain ⟨cs,js⟩:=p
   rw[ho]at h3
   obtain ⟨e1,e2⟩:=zmW ho
   unfold opI at h3
   simp only[zmv,Option.some.injEq]at h3
   rw[←h3,←e1,←e2]
   exact h2
end
section
variable {P:Program} {w0:World} {S0:List Nat} {n:Nat} {fr:Fr} {is:List Item}
variable {dst:Option Nat} {ty:TypeId} {pos:String} {aft:Array Edge} {gd:Option (Nat × Bool)} {α:Type}
def repC {β:Type} :List C→List C→(List C→Option β)→Option β
 | vs,[],k=>k vs
 | _::s,u::us,k=>repC s us fun t=>k (u::t)
 | [],_::_,_=>none
def splC {β:Type} :Nat→List C→List C→(List C→Option β)→Option β
 | 0,vs,us,k=>repC vs us k
 | n+1,v::s,us,k=>splC n s us fun t=>k (v::t)
 | _+1,[],_,_=>none
theorem zhh {c:C} {s:List C} {ws:List Value} (h:valsR (c::s)=some ws): ∃v vs,valR c=some v∧valsR s=some vs∧ws=v::vs:=by
 unfold valsR at h
 split at h
 ·rename_i v vs h1 h2
  cases h
  exact ⟨v,vs,h1,h2,rfl⟩
 ·cases h
theorem znL: ∀{cs:List C} {vs:List Value},valsR cs=some vs→vs.length=cs.length
 | [],vs,h=>by cases h;rfl
 | c::cs,vs,h=>by
   obtain ⟨v,us,h1,h2,rfl⟩:=zhh h
   simp[znL h2]
theorem zp1 {β:Type} : ∀{zs cs:List C} {k:List C→Option β} {b:β} {zv us:List Value},repC zs cs k=some b→valsR zs=some zv→valsR cs=some us→
 ∃zs',k zs'=some b∧cs.length≤zs.length∧valsR zs'=some (us++zv.drop us.length)
 | zs,[],k,b,zv,us,h,hz,hc=>by cases hc;exact ⟨zs,by simpa[repC] using h,by simp,by simpa using hz⟩
 | z::s,c::cs,k,b,zv,us,h,hz,hc=>by
   obtain ⟨v,vs,-,h1,rfl⟩:=zhh hz
   obtain ⟨u,ts,hu,h2,rfl⟩:=zhh hc
   obtain ⟨zs',h3,h4,h5⟩:=zp1 (zs:=s) h h1 h2
   exact ⟨c::zs',h3,by simpa using h4,by simp[valsR,hu,h5]⟩
 | [],_::_,_,_,_,_,h,_,_=>by cases h
theorem zp5 {β:Type} : ∀{n:Nat} {zs cs:List C} {k:List C→Option β} {b:β} {zv us:List Value},splC n zs cs k=some b→valsR zs=some zv→valsR cs=some us→
 ∃zs',k zs'=some b∧n+cs.length≤zs.length∧valsR zs'=some (splice zv n us)
 | 0,zs,cs,k,b,zv,us,h,hz,hc=>by
   obtain ⟨zs',h1,h2,h3⟩:=zp1 h hz hc
   exact ⟨zs',h1,by omega,by simpa[splice] using h3⟩
 | n+1,z::s,cs,k,b,zv,us,h,hz,hc=>by
   obtain ⟨v,vs,hv,hs,rfl⟩:=zhh hz
   obtain ⟨zs',h1,h2,h3⟩:=zp5 (zs:=s) h hs hc
   refine ⟨z::zs',h1,by simp;omega,?_⟩
   have e:n+1+us.length=(n+us.length)+1:=by omega
   simp[valsR,hv,h3,splice,e]
 | _+1,[],_,_,_,_,_,h,_,_=>by cases h
theorem zmd: ∀is:List Item,pulls (List.replicate is.length 0) is=some is
 | []=>rfl
 | i::is=>by
   show pulls (0::List.replicate is.length 0) (i::is)=_
   simp only[pulls,pull,zmd is]
theorem Sh [Enc α] {l:List α} {z:α} {v u:Value} {x y:Operand} {t sz c s:Nat} {j:Int} {zs:List C} {ag:Bool} {us zv:List Value} {is':List Item} (i:Nat) (cs:List C) (hk:kindB P t=some (ag,s)) (hz:idx l j=some z)
 (h0:(is[i]?,ev fr x,ev fr y)=(some (.own v (hl l j.toNat zs)),some (elP v (j.toNat*sz+c)),some u)) (hv:Cel w0 S0 is u us) (h1:splC c zs cs (fun zs'=>setK i is (.own v (hl l j.toNat zs')) some)=some is')
 (hcs:valsR cs=some us:=by exact r) (hzv:valsR zs=some zv:=by exact r) (hln:Nat.beq us.length s=true:=by exact r) (hzs:Nat.beq zs.length sz=true:=by exact r) (hsz:Enc.sz α=sz:=by exact r):
 Ef P w0 S0 n fr is ⟨none,.store t x y,ty,pos,aft,gd⟩ (fun _:Unit=>undef) (fun _=>is'):=by
 simp only[Prod.mk.injEq]at h0
 obtain ⟨zs',h2,h3,h4⟩:=zp5 h1 hzv hcs
 have h5:=zmZ h2
 cases h5
 have hle:c+us.length≤sz:=by
  have e1:=znL hcs
  have e2:zs.length=sz:=by simpa using hzs
  omega
 exact Ef.store_hole i hk hsz h0.1 (zz hz).2.2 h0.2.1 h0.2.2 hv hln hzs (Nat.ble_eq_true_of_le hle) hzv h4 rfl
inductive CelsI (w0:World) (S0:List Nat) (is:List Item):List Value→List (List Value)→Prop
 | nil:CelsI w0 S0 is [] []
 | cons {v:Value} {us:List Value} {Vs:List Value} {uss:List (List Value)} :Cel w0 S0 is v us→CelsI w0 S0 is Vs uss→CelsI w0 S0 is (v::Vs) (us::uss)
theorem CelsI.cels {Vs:List Value} {uss:List (List Value)} (h:CelsI w0 S0 is Vs uss):Cels w0 S0 is Vs uss:=by
 induction h with
 | nil=>trivial
 | cons h1 _ ih=>exact ⟨h1,ih⟩
theorem Qc {v:Value} {us:List Value} {Vs:List Value} {uss:List (List Value)} (h:Cel w0 S0 is v us) (h2:CelsI w0 S0 is Vs uss):CelsI w0 S0 is (v::Vs) (us::uss):=.cons h h2
theorem Qz:CelsI w0 S0 is [] []:=.nil
theorem Bk {d:Option Nat} {t e sz by_ len:Nat} {ps:List (Nat × Operand)} {Vs:List Value} {z:Value} {uss:List (List Value)} (cs:List C) (he:elemB P t=some (e,sz,by_)) (hz:zeroB P e=some z) (hps:partVs fr 0 ps=some Vs) (hv:CelsI w0 S0 is Vs uss)
 (hlen:Nat.beq Vs.length len=true:=by exact r) (hsz:uss.all (fun us=>Nat.beq us.length sz)=true:=by exact r) (hbig:Nat.ble (len*sz) 16777216=true:=by exact r) (hpos:Nat.blt 0 sz=true:=by exact r) (hcs:valsR cs=some uss.flatten:=by exact r):
 Ef P w0 S0 n fr is ⟨d,.buildSlice t len ps.toArray,ty,pos,aft,gd⟩ (fun b:Nat=>.slice (some ⟨b,0,none⟩) len len) (fun b=>.own (.slice (some ⟨b,0,none⟩) len len) (.sl sz len cs)::is):=Ef.buildSliceR uss cs he hz hps hlen hsz hbig hpos hv.cels hcs
theorem Aw [Enc α] {d:Option Nat} {t e sz by_:Nat} {x y:Operand} {z:Value} {l k q:List α} {v u:Value} {rest:List Item}
 (ks:List Nat) (hr:app by_ l k=some q) (he:elemB P t=some (e,sz,by_)) (hz:zeroB P e=some z) (h0:(takeP ks is,ev fr x,ev fr y)=(some ([.own v (lc l),.own u (lc k)],rest),some v,some u))
 (hzs:Nat.beq z.cells.size sz=true:=by exact r) (hsz:Enc.sz α=sz:=by exact r):
 Ef P w0 S0 n fr is ⟨d,.call {callee:=.builtin .append,args:=#[x,y],argTypes:=#[t,t]},ty,pos,aft,gd⟩ (fun v':Value=>v') (fun v'=>.own v' (lc q)::rest):=by
 simp only[Prod.mk.injEq]at h0
 intro a w K Q hf hs hK
 exact Ef.appN (is':=rest) _ hr he hz hzs hsz (zmd _) h0.2.1 h0.2.2 a w K Q hf (hs.takeP h0.1) hK
theorem Mk [Flat α] {x y:Operand} {t e sz by_:Nat} {k k':IntKind} {zv:Value} {len:Int} {c:Nat} (z:α) (hc:mkLen by_ len=some c) (he:elemB P t=some (e,sz,by_)) (hz:zeroB P e=some zv)
 (h0:(ev fr x,ev fr y)=(some (.int k len),some (.int k' len)):=by exact r) (hzs:zv.cells=(Flat.vals z).toArray:=by exact r) (hsz:Enc.sz α=sz:=by exact r):
 Ef P w0 S0 n fr is ⟨dst,.makeSlice t x y,ty,pos,aft,gd⟩ (fun v:Value=>v) (fun v=>.own v (lc (List.replicate c z))::is):=by
 simp only[Prod.mk.injEq]at h0
 exact Ef.make hc he hz hzs hsz h0.1 h0.2
theorem M0 [Flat α] {x y:Operand} {t e sz by_:Nat} {k k':IntKind} {zv:Value} {len:Int} {c:Nat} (z:α) (hc:mkLen by_ len=some c) (he:elemB P t=some (e,sz,by_)) (hz:zeroB P e=some zv)
 (h0:(ev fr x,ev fr y)=(some (.int k 0),some (.int k' len)):=by exact r) (hzs:zv.cells=(Flat.vals z).toArray:=by exact r) (hsz:Enc.sz α=sz:=by exact r):
 Ef P w0 S0 n fr is ⟨dst,.makeSlice t x y,ty,pos,aft,gd⟩ (fun v:Value=>v) (fun v=>.own v (lc ([]:List α))::is):=by
 simp only[Prod.mk.injEq]at h0
 exact Ef.make0 hc he hz hzs hsz h0.1 h0.2
def fieldTB (P:Program) (s i:Nat):Option (Nat × TypeId):=
 match P.underlying s with
 | some (.struct fs)=>match fs[i]? with
   | some f=>some (f.offset,f.type)
   | none=>none
 | _=>none
theorem Fy {x:Operand} {cs:Array Value} {s f o ft sz:Nat} {ag:Bool} {v:Value} (hfd:fieldTB P s f=some (o,ft)) (hk:kindB P ft=some (ag,sz)) (hx:ev fr x=some (.agg cs)) (hv:(bif ag then some (Value.agg (cs.extract o (o+sz))) else cs[o]?)=some v):
 Y P w0 S0 n fr is ⟨dst,.field s x f,ty,pos,aft,gd⟩ v:=by
 intro a w hf hs
 unfold fieldTB at hfd
 split at hfd
 ·rename_i fs hu
  split at hfd
  ·rename_i fd hfd1
   simp only[Option.some.injEq,Prod.mk.injEq]at hfd
   obtain ⟨rfl,rfl⟩:=hfd
   obtain ⟨d,i,hd,hi,hsz,hag⟩:=zga hk
   cases ag with
   | true=>
     simp only[cond_true,Option.some.injEq]at hv
     subst hv
     simp[execOp,hf.eval hx,Instr.field,run_underlying hu,hfd1,Go.part,hag w,sizeOf,typeInfo,hi,hsz,asAgg]
   | false=>
     simp only[cond_false]at hv
     simp[execOp,hf.eval hx,Instr.field,run_underlying hu,hfd1,Go.part,hag w,hv,asAgg]
  ·cases hfd
 ·cases hfd
end
end Go.Proofs.YtfgjhefhlabpkaaGreat.Sl
