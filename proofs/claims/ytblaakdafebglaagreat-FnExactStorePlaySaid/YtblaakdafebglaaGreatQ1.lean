/-
  The functions that a law reaches, each as a pure function, with the proof that the program computes it, and the step from a pure law to the given statement. Conditions: none.
-/
import Derived.Test.YtblaakdafebglaaGreatPm
import Derived.Lib.Bytealg
import Derived.Test.YtblaakdafebglaaGreatRows
set_option linter.unusedVariables false
set_option linter.unusedSimpArgs false
set_option linter.defProp false
set_option maxRecDepth 100000
set_option maxHeartbeats 4000000
section
open Decidable renaming decide->Dc
open Prod.mk renaming injEq->Tz
open List renaming replicate->Ua,take_append_drop->Ug,flatMap_append->Ui,nodup_append->Uj,length_take->Ul,flatMap_cons->Un,perm_append_comm->Up,singleton_append->Uq,length_replicate->Ur,length_append->Uu,length_drop->Uy,cons_append->Uz,length_map->Vc,append_nil->Vd,mem_append->Ve,nil_append->Vf,map_cons->Vh
open Bool renaming and_eq_true->Ub,not_eq_true'->Uh
open Nat renaming blt->Uc,beq->Ud,ble_eq_true_of_le->Uk,ble->Um,mul_le_mul_right->Ut,zero_add->Uv,add->Uw
open List.cons renaming injEq->Ue
open Option.some renaming injEq->Uf
open Option renaming map_some->Uo,bind_some->Ux
open Array renaming toArray_toList->Us
open Int renaming ofNat_inj->Vi
open Go renaming Value->Va,World->Wo,Operand->Od,Program->Pm,TypeId->Ti,IntKind->Ik
namespace Go.Proofs.YtblaakdafebglaaGreat.Sl
open Go Go.RowKit
variable {v u:Va} {is is' aq rest pre bs aq' bs':J5} {fr' fr:Fr} {x:Od} {P:Pm} {ops ops':Array Oper} {X R α τ β σ ρ:Type} {n sz t s fuel2 j by_ k e d dj o fuel L sz':Nat} {w0 w:Wo} {S0 hs' S hs S1:J4} {i:Int} {c c':Code} {m:Option R} {z:α} {l':List Oper} {gd:Option (Nat × Bool)} {Q Q':R->Exit->Act->Wo->Prop} {b want ag:Bool} {ty:Ti} {aft:Array Edge} {fn:Func} {post:R->X->J5} {q:R} {f:FuncId} {us args vs Vs:J3} {dst:Option Nat} {H:Hd} {ats:Array Ti} {cs ds cs' zs:List C} {frf:τ->X->Fr} {isf:τ->X->J5} {ps:List (Nat × Od)} {os:List Od} {ls:List (Option α)} {k':Ik} {g:Nat × Bool} {uss:List J3} {l:List α}
def r.{u} {α:Sort u} {a:α} :a=a:=rfl
def r1.{u,v} {X:Sort u} {α:Sort v} {f:X->α} : ∀x,f x=f x:=λ_=>rfl
def r2.{u,v,t} {T:Sort t} {X:Sort u} {α:Sort v} {f:T->X->α} : ∀t x,f t x=f t x:=λ_ _=>rfl
abbrev iv (n:Int):Va:=.int .i64 n
abbrev ic (n:Int):C:=.int .i64 n
abbrev pt (b:Nat):Va:=.pointer (some ⟨b,0,none⟩)
def pullK {β:Type} :Nat->J5->(Item->J5->Option β)->Option β
 | _,[],_=>none
 | 0,i::s,k=>k i s
 | n+1,i::s,k=>pullK n s λj t=>k j (i::t)
def takeK {β:Type} :J4->J5->(J5->J5->Option β)->Option β
 | [],is,k=>k [] is
 | n::ns,is,k=>pullK n is λi s=>takeK ns s λjs t=>k (i::js) t
def appK {β:Type} :J5->J5->(J5->Option β)->Option β
 | [],js,k=>k js
 | i::is,js,k=>appK is js λs=>k (i::s)
def setK {β:Type} :Nat->J5->Item->(J5->Option β)->Option β
 | _,[],_,_=>none
 | 0,_::s,j,k=>k (j::s)
 | n+1,i::s,j,k=>setK n s j λt=>k (i::t)
def keepK {β:Type} :J4->Fr->Fr->(Fr->Option β)->Option β
 | [],_,ex,k=>k ex
 | d::ds,fr,ex,k=>match lk d fr with
   | some v=>keepK ds fr ex λt=>k ((d,v)::t)
   | none=>none
def takeI (A:J4) (is h:J5):Option J5:=takeK A is λpre _=>appK pre h some
def takeP (h:J4) (is:J5):Option (J5 × J5):=takeK h is λpre rest=>some (pre,rest)
def zw3 {k:Item->J5->Option β} {b:β} (h:pullK n is k=some b): ∃i s,pull n is=some (i,s)/\k i s=some b:=by
 induction n generalizing is k with
 | zero=>
   cases is with
   | nil=>cases h
   | cons i s=>exact ⟨i,s,rfl,h⟩
 | succ n ih=>
   cases is with
   | nil=>cases h
   | cons i s=>obtain ⟨j,t,a,c⟩:=ih h;exact ⟨j,i::t,by simp only[pull,a],c⟩
def zxk {E:J4} {k:J5->J5->Option β} {b:β} (h:takeK E is k=some b):
    ∃pre rest,k pre rest=some b/\∀w S,sats w is S->∃T,sats w (pre++rest) T/\T.Perm S:=by
 induction E generalizing is k with
 | nil=>exact ⟨[],is,h,λw S D=>⟨S,D,.refl _⟩⟩
 | cons n E ih=>obtain ⟨i,s,a,c⟩:=zw3 h;obtain ⟨pre,rest,d,e⟩:=ih c;refine ⟨i::pre,rest,d,λw S D=>?_⟩;obtain ⟨A,B,F,G,f⟩:=zrx a D;obtain ⟨T,I,g⟩:=e w B G;exact ⟨A++T,⟨A,T,rfl,F,I⟩,(List.Perm.append_left A g).trans f⟩
def St.takeK {β:Type} {w0 w:Wo} {S0 D:J4} {is:J5} {k:J5->J5->Option β} {b:β} (h:Sl.takeK D is k=some b):
    ∃pre rest,k pre rest=some b/\∀w,St w0 S0 is w->St w0 S0 (pre++rest) w:=by obtain ⟨pre,rest,c,d⟩:=zxk h;refine ⟨pre,rest,c,λw ⟨os,tape,output,size,base,S,A,e,f⟩=>?_⟩;obtain ⟨T,B,a⟩:=d w S A;exact ⟨os,tape,output,size,base,T,B,a.nodup_iff.2 e,λb g=>f b (a.mem_iff.1 g)⟩
def zkF {js:J5} {k:J5->Option β} :appK is js k=k (is++js):=by
 induction is generalizing k with
 | nil=>rfl
 | cons i is ih=>exact ih
def zqL {j:Item} {k:J5->Option β} {b:β} (h:setK n is j k=some b):k (is.set n j)=some b:=by
 induction n generalizing is k with
 | zero=>
   cases is with
   | nil=>cases h
   | cons i s=>exact h
 | succ n ih=>
   cases is with
   | nil=>cases h
   | cons i s=>exact ih h
def St.takeP {w0 w:Wo} {S0 A:J4} {is pre rest:J5} (h:Sl.takeP A is=some (pre,rest)) (hs:St w0 S0 is w):St w0 S0 (pre++rest) w:=by obtain ⟨p,q,a,b⟩:=St.takeK (w0:=w0) (w:=w) (S0:=S0) h;simp_all
def kq:Ik->Ik->Bool
 | .i64,.i64=>true
 | .u8,.u8=>true
 | .u32,.u32=>true
 | .u64,.u64=>true
 | _,_=>false
def kq_eq {k:Ik} (h:kq k k'=true):k=k':=by cases k<;>cases k'<;>first | rfl | cases h
def iop (o:BinOp) (k:Ik) (p q:Int):Option Va:=match o with
 | .add=>some (.int k (k.wrap (p+q)))
 | .sub=>some (.int k (k.wrap (p - q)))
 | .mul=>some (.int k (k.wrap (p*q)))
 | .lss=>some (.bool (Dc (p<q)))
 | .leq=>some (.bool (Dc (p<=q)))
 | .gtr=>some (.bool (Dc (p>q)))
 | .geq=>some (.bool (Dc (p>=q)))
 | .eql=>some (.bool (Dc (p=q)))
 | .neq=>some (.bool (!Dc (p=q)))
 | .and=>some (.int k (iand k p q))
 | .or=>some (.int k (ior k p q))
 | .xor=>some (.int k (ixor k p q))
 | _=>none
def sop (o:BinOp) (s u:J2):Option Va:=match o with
 | .eql=>some (.bool (Dc (s=u)))
 | .neq=>some (.bool (!Dc (s=u)))
 | .lss=>some (.bool (sLt s u))
 | .leq=>some (.bool (sLt s u||decide (s=u)))
 | .gtr=>some (.bool (!(sLt s u||decide (s=u))))
 | .geq=>some (.bool (!sLt s u))
 | _=>none
def bop (o:BinOp):Option Va->Option Va->Option Va
 | some (.int k p),some (.int k' q)=>match kq k k' with
   | true=>iop o k p q
   | false=>none
 | some (.string ⟨⟨s⟩⟩),some (.string ⟨⟨u⟩⟩)=>sop o s u
 | _,_=>none
def sval (fr:Fr):Op->Option Va
 | .move x=>ev fr x
 | .assign x=>ev fr x
 | .binOp o _ x y _=>bop o (ev fr x) (ev fr y)
 | .unOp .not _ x=>match ev fr x with
   | some (.bool b)=>some (.bool (!b))
   | _=>none
 | .unOp .neg _ x=>match ev fr x with
   | some (.int k p)=>some (.int k (k.wrap (0 - p)))
   | _=>none
 | .extract x k=>match ev fr x with
   | some (.tuple ⟨vs⟩)=>vs[k]?
   | _=>none
 | .nilCheck x=>match ev fr x with
   | some (.pointer (some a))=>some (.pointer (some a))
   | _=>none
 | _=>none
section
variable {pos:String}
def Y.bop {o:BinOp} {t t':Ti} {x y:Od} {v:Va} (h:Sl.bop o (ev fr x) (ev fr y)=some v):Y P w0 S0 n fr is ⟨dst,.binOp o t x y t',ty,pos,aft,gd⟩ v:=by
 cases a:ev fr x with
 | none=>rw[a]at h;cases h
 | some A=>
   cases b:ev fr y with
   | none=>rw[a,b]at h;unfold Sl.bop at h;split at h<;>first | cases h | (rename_i d c;cases c)
   | some B=>
     rw[a,b]at h;unfold Sl.bop at h;split at h
     ·rename_i k p k' q d c;cases d;cases c;split at h
      ·rename_i e;obtain rfl:=kq_eq e;cases o<;>first | (cases h;first | exact Y.add a b | exact Y.sub a b | exact Y.mul a b | exact Y.lss a b | exact Y.leq a b | exact Y.gtr a b | exact Y.geq a b | exact Y.eql a b | exact Y.neq a b | exact Y.and a b | exact Y.or a b | exact Y.xor a b) | cases h
      ·cases h
     ·rename_i s u d c;cases d;cases c;cases o<;>first | (cases h;first | exact Y.seql a b | exact Y.sneq a b | exact Y.slss a b | exact Y.sleq a b | exact Y.sgtr a b | exact Y.sgeq a b) | cases h
     ·cases h
def Y.sval {o:Op} {v:Va} (h:Sl.sval fr o=some v):Y P w0 S0 n fr is ⟨dst,o,ty,pos,aft,gd⟩ v:=by
 unfold Sl.sval at h;split at h
 ·exact Y.move h
 ·exact Y.assign h
 ·exact Y.bop h
 ·split at h
  ·rename_i a;cases h;exact Y.not a
  ·cases h
 ·split at h
  ·rename_i a;cases h;exact Y.neg a
  ·cases h
 ·split at h
  ·rename_i a;exact Y.extract (vs:=_) a h
  ·cases h
 ·split at h
  ·rename_i a;cases h;exact Y.nilCheck a
  ·cases h
 ·cases h
end
def qrun (n:Nat):Nat->List Oper->Fr->Option (List Oper × Fr)
 | 0,l,fr=>some (l,fr)
 | k+1,⟨some d,o,_,_,_,none⟩::l,fr=>match Uc d n with
   | true=>match sval fr o with
     | some v=>qrun n k l ((d,v)::fr)
     | none=>none
   | false=>none
 | _,_,_=>none
def orun (n j:Nat) (want:Bool) (dj:Nat):Nat->List Oper->Fr->Option (List Oper × Fr)
 | 0,l,fr=>some (l,fr)
 | k+1,⟨some d,_,_,_,_,some (j',want')⟩::l,fr=>match Uc d n&&(Ud j' j&&(want' == want&& !Nat.beq dj d)) with
   | true=>orun n j want dj k l ((d,undef)::fr)
   | false=>none
 | _,_,_=>none
section
variable {o:Op} {pos:String} {l:List Oper}
def Qs (k:Nat) (a:qrun n k l fr=some (l',fr')) (h:TO P w0 S0 m n fr' is ops l' Q):TO P w0 S0 m n fr is ops l Q:=by
 induction k generalizing l fr with
 | zero=>cases a;exact h
 | succ k ih=>
   unfold qrun at a;split at a
   ·trivial
   ·rename_i k' d o ty pos aft f b;cases b;split at a
    ·rename_i c;split at a
     ·rename_i v e;exact TO.y (Y.sval e) rfl rfl c (ih a)
     ·trivial
    ·trivial
   ·trivial
def zlz (h:Ud dj d=false):lk dj ((d,v)::fr)=lk dj fr:=by simp only[lk,h,cF]
def Of (k:Nat) (i:(b == want)=false) (f:(l.head?.bind (·.guard),(ops[j]?).bind (·.dst),lk dj fr)=(some (j,want),some dj,some (.bool b))) (a:orun n j want dj k l fr=some (l',fr')) (h:TO P w0 S0 m n fr' is ops l' Q):TO P w0 S0 m n fr is ops l Q:=by
 obtain ⟨-,p,g⟩:_/\_/\_:=by simpa using f
 clear f;induction k generalizing l fr with
 | zero=>cases a;exact h
 | succ k ih=>
   unfold orun at a;split at a
   ·trivial
   ·rename_i k' d o ty pos aft B A w e;cases e;split at a
    ·rename_i c;simp only[Ub,Uh]at c;obtain ⟨c,q,s,t⟩:=c;have u:B=j:=by simpa using q
     have v:A=want:=by simpa using s
     subst u v;refine TO.off (Gd.at _ _ dj b rfl p g i) rfl c (ih a ?_);rw[zlz t];exact g
    ·trivial
   ·trivial
end
section
def Sr {id:Nat} {l:List Oper} {y:Code} (h:TO P w0 S0 m n fr is l.toArray l (λr=>Exit.then (y.wp P (Q r)) (Q r))):TW P w0 S0 m n fr is (.seq (.region id l.toArray false) y) Q:=Sq (Rg h)
def Nl (h:TE w0 S0 m n fr is .normal Q):TO P w0 S0 m n fr is ops [] Q:=h
def Ne {y:Code} (h:TW P w0 S0 m n fr is y Q):TE w0 S0 m n fr is .normal (λr=>Exit.then (y.wp P (Q r)) (Q' r)):=h
def Nx {y:Code} (h:TW P w0 S0 m n fr is y Q):TO P w0 S0 m n fr is ops [] (λr=>Exit.then (y.wp P (Q r)) (Q' r)):=h
def Sn {y:Code} (h:TW P w0 S0 m n fr is y Q):TW P w0 S0 m n fr is .skip (λr=>Exit.then (y.wp P (Q r)) (Q' r)):=Sk h
theorem It {a c:Option R} {l:List Oper} (d:b=true->TO P w0 S0 a n fr is ops l Q) (e:b=false->TO P w0 S0 c n fr is ops l Q):
 TO P w0 S0 (if b=true then a else c) n fr is ops l Q:=by grind
def Tr {Q':R->Act->Wo->Prop} (h:TE w0 S0 m n fr is .ret Q):TE w0 S0 m n fr is .ret (λr=>Exit.then (Q' r) (Q r)):=h
def Tx {Q':R->Act->Wo->Prop} {id:Nat} (h:TE w0 S0 m n fr is (.exit id) Q):TE w0 S0 m n fr is (.exit id) (λr=>Exit.then (Q' r) (Q r)):=h
def Br {id:Nat} (h:TE w0 S0 m n fr is .ret Q):TE w0 S0 m n fr is .ret (λr=>Exit.inBlock id (Q r)):=h
def Bn {id:Nat} (h:TE w0 S0 m n fr is .normal Q):TE w0 S0 m n fr is .normal (λr=>Exit.inBlock id (Q r)):=h
def No {l:List Oper} (sz:Nat) (h:TO P w0 S0 m n fr (.own (.slice none 0 0) (.sl sz 0 [])::is) ops l Q):TO P w0 S0 m n fr is ops l Q:=Gt (Gh.nilItem sz) λ_=>h
def Na (sz:Nat) (h:TA P w0 S0 m n fr (.own (.slice none 0 0) (.sl sz 0 [])::is) H ops fuel L Q):TA P w0 S0 m n fr is H ops fuel L Q:=Ga (Gh.nilItem sz) λ_=>h
def Jn (X:Type) {m:Option (Ctl τ R)} {k:τ->Option R} {frf:τ->X->Fr} {isf:τ->X->J5} (ls A:J4) (g:τ->X->Fr) (h:τ->X->J5) (_: ∀t x,keepK ls fr (g t x) some=some (frf t x)) (_: ∀t x,takeI A is (h t x)=some (isf t x)) (a:TW P w0 S0 m n fr is c (jn (Mid w0 S0 n frf isf) Q)) (b: ∀t x,TE w0 S0 (k t) n (frf t x) (isf t x) .normal Q):TW P w0 S0 (bindC m k) n fr is c Q:=TW.joinX frf isf a b
def Ju {m:Option (Ctl τ R)} {k:τ->Option R} {frf:τ->Fr} (ls:J4) (g:τ->Fr) (_: ∀t,keepK ls fr (g t) some=some (frf t)) (a:TW P w0 S0 m n fr is c (jn (Mid w0 S0 n (λt (_:Unit)=>frf t) (λ_ _=>is)) Q)) (b: ∀t,TE w0 S0 (k t) n (frf t) is .normal Q):TW P w0 S0 (bindC m k) n fr is c Q:=TW.joinX _ _ a λt _=>b t
def Jb (X:Type) {m:Option τ} {k:τ->Option R} {frf:τ->X->Fr} {isf:τ->X->J5} (ls A:J4) (g:τ->X->Fr) (h:τ->X->J5) (_: ∀t x,keepK ls fr (g t x) some=some (frf t x)) (_: ∀t x,takeI A is (h t x)=some (isf t x)) (a:TW P w0 S0 m n fr is c (jb (Mid w0 S0 n frf isf))) (b: ∀t x,TE w0 S0 (k t) n (frf t x) (isf t x) .normal Q):TW P w0 S0 (m.bind k) n fr is c Q:=TW.joinBX frf isf a b
def Jv {m:Option τ} {k:τ->Option R} {frf:τ->Fr} (ls:J4) (g:τ->Fr) (_: ∀t,keepK ls fr (g t) some=some (frf t)) (a:TW P w0 S0 m n fr is c (jb (Mid w0 S0 n (λt (_:Unit)=>frf t) (λ_ _=>is)))) (b: ∀t,TE w0 S0 (k t) n (frf t) is .normal Q):TW P w0 S0 (m.bind k) n fr is c Q:=TW.joinBX _ _ a λt _=>b t
def Jw (X:Type) {frf:X->Fr} {isf:X->J5} (ls A:J4) (g:X->Fr) (h:X->J5) (_: ∀x,keepK ls fr (g x) some=some (frf x)) (_: ∀x,takeI A is (h x)=some (isf x)) (a:TW P w0 S0 (some ()) n fr is c (jb (Mid w0 S0 n (λ(_:Unit) x=>frf x) (λ_ x=>isf x)))) (b: ∀x,TE w0 S0 m n (frf x) (isf x) .normal Q):TW P w0 S0 m n fr is c Q:=TW.joinU _ _ a λ_ x=>b x
def Lp (X:Type) {body:σ->Option (Ctl σ ρ)} {s0:σ} {Q:ρ->Exit->Act->Wo->Prop} {frf:σ->X->Fr} {isf:σ->X->J5} (ls A:J4) (g:σ->X->Fr) (h:σ->X->J5) (a:X) (qs:J4) (_: ∀t x,keepK ls fr (g t x) some=some (frf t x)) (_: ∀t x,takeI A is (h t x)=some (isf t x)) (b: ∀s x,TW P w0 S0 (body s) n (frf s x) (isf s x) c (lp (Mid w0 S0 n frf isf) Q)) (d:Sub (frf s0 a) fr:=by repeat (first | refine ⟨r,?_⟩ | exact trivial)) (e:pulls qs is=some (isf s0 a):=by exact r):
    TW P w0 S0 (loopO body s0) n fr is (.loop c) Q:=TW.loopX frf isf a qs d e b
def Lu {body:σ->Option (Ctl σ ρ)} {s0:σ} {Q:ρ->Exit->Act->Wo->Prop} {frf:σ->Fr} (ls:J4) (g:σ->Fr) (_: ∀t,keepK ls fr (g t) some=some (frf t)) (d: ∀s,TW P w0 S0 (body s) n (frf s) is c (lp (Mid w0 S0 n (λs (_:Unit)=>frf s) (λ_ _=>is)) Q)) (f:Sub (frf s0) fr:=by repeat (first | refine ⟨r,?_⟩ | exact trivial)):
    TW P w0 S0 (loopO body s0) n fr is (.loop c) Q:=by
 refine TW.loop (Mid w0 S0 n (λs (_:Unit)=>frf s) (λ_ _=>is)) (λa w b hs=>⟨(),b.sub f,hs⟩) ?_;rintro s x i a w ⟨y,b,hs⟩;refine wp_mono (d s x i a w b hs) λe a w h=>?_;cases x with
 | go t=>exact h
 | done q=>exact h
end
def backE:Exit->Bool
 | .ret=>true
 | .normal=>true
 | _=>false
def resT:List ResultVar->Option J4
 | []=>some []
 | .tmp t::s=>match resT s with
   | some h=>some (t::h)
   | none=>none
 | _=>none
def lks (fr:Fr):J4->Option J3
 | []=>some []
 | t::s=>match lk t fr with
   | some v=>match lks fr s with
     | some vs=>some (v::vs)
     | none=>none
   | none=>none
section
def RV.tmps: ∀{A:List ResultVar} {h:J4} {vs:J3},resT A=some h->lks fr h=some vs->RV P fr is A vs
 | [],h,vs,a,b=>by cases a;cases b;trivial
 | .tmp t::s,h,vs,a,b=>by
   unfold resT at a;split at a
   ·rename_i B c;cases a;unfold lks at b;split at b
    ·rename_i v d;split at b
     ·rename_i D e;cases b;exact ⟨d,RV.tmps c e⟩
     ·trivial
    ·trivial
   ·trivial
 | .cell _ _::_,_,_,a,_=>by cases a
def Re {val:R->X->Va} {e:Exit} {A:J4} (x:X) (h:J4) (a:backE e=true:=by exact r) (b:resT fn.results.toList=some A:=by exact r) (c:lks fr A=some vs:=by exact r) (d:retV vs=val q x:=by exact r) (hi:pulls h is=some (post q x):=by exact r):
    TE w0 S1 (some q) n fr is e (λq=>bodyPost P fn (λe w'=>∃x,e= .returned (val q x)/\St w0 S1 (post q x) w')):=
 TE.leaf λ_ _ f hs=>zuw (by cases e<;>first | exact .inl rfl | exact .inr rfl | cases a) (Us).symm (RV.tmps b c) f hs ⟨x,by rw[d],hs.pulls h hi⟩
def Jg {t:τ} (x:X) (h:J4) (a:pulls h is=some (isf t x):=by exact r) (b:Sub (frf t x) fr:=by repeat (first | refine ⟨r,?_⟩ | exact trivial)):
    TE w0 S0 (some (.go t)) n fr is .normal (jn (Mid w0 S0 n frf isf) Q):=
 TE.leaf λ_ _ c hs=>⟨rfl,x,c.sub b,hs.pulls h a⟩
def Bg {t:τ} (x:X) (h:J4) (a:pulls h is=some (isf t x):=by exact r) (b:Sub (frf t x) fr:=by repeat (first | refine ⟨r,?_⟩ | exact trivial)):
    TE w0 S0 (some t) n fr is .normal (jb (Mid w0 S0 n frf isf)):=
 TE.leaf λ_ _ c hs=>⟨rfl,x,c.sub b,hs.pulls h a⟩
def Lg {Q:ρ->Exit->Act->Wo->Prop} {frf:σ->X->Fr} {isf:σ->X->J5} {t:σ} (x:X) (h:J4) (a:pulls h is=some (isf t x):=by exact r) (b:Sub (frf t x) fr:=by repeat (first | refine ⟨r,?_⟩ | exact trivial)):
    TE w0 S0 (some (.go t)) n fr is .normal (lp (Mid w0 S0 n frf isf) Q):=
 TE.leaf λ_ _ c hs=>⟨rfl,x,c.sub b,hs.pulls h a⟩
end
section
variable {o:Op} {pos:String} {l:List Oper}
def Yo (a:Y P w0 S0 n fr is ⟨some d,o,ty,pos,aft,none⟩ v) (h:TO P w0 S0 m n ((d,v)::fr) is ops l Q) (b:Uc d n=true:=by exact r):TO P w0 S0 m n fr is ops (⟨some d,o,ty,pos,aft,none⟩::l) Q:=TO.y a rfl rfl b h
def Yg (a: ∀o:Oper,o.guard=some g->Gd ops fr o true) (b:Y P w0 S0 n fr is ⟨some d,o,ty,pos,aft,some g⟩ v) (h:TO P w0 S0 m n ((d,v)::fr) is ops l Q) (c:Uc d n=true:=by exact r):
    TO P w0 S0 m n fr is ops (⟨some d,o,ty,pos,aft,some g⟩::l) Q:=TO.y b (a _ rfl) rfl c h
def Fo {val:X->Va} {is':X->J5} (a:Ef P w0 S0 n fr is ⟨some d,o,ty,pos,aft,none⟩ val is') (h: ∀x,TO P w0 S0 m n ((d,val x)::fr) (is' x) ops l Q) (b:Uc d n=true:=by exact r):
    TO P w0 S0 m n fr is ops (⟨some d,o,ty,pos,aft,none⟩::l) Q:=TO.ef a rfl rfl b h
def Fg {val:X->Va} {is':X->J5} (a: ∀o:Oper,o.guard=some g->Gd ops fr o true) (b:Ef P w0 S0 n fr is ⟨some d,o,ty,pos,aft,some g⟩ val is') (h: ∀x,TO P w0 S0 m n ((d,val x)::fr) (is' x) ops l Q) (c:Uc d n=true:=by exact r):
    TO P w0 S0 m n fr is ops (⟨some d,o,ty,pos,aft,some g⟩::l) Q:=TO.ef b (a _ rfl) rfl c h
def Fu (a:Ef P w0 S0 n fr is ⟨none,o,ty,pos,aft,none⟩ (λ_:Unit=>undef) (λ_=>is')) (h:TO P w0 S0 m n fr is' ops l Q):
    TO P w0 S0 m n fr is ops (⟨none,o,ty,pos,aft,none⟩::l) Q:=TO.ef0 a rfl rfl λ_=>h
def gdA {q:Bool} (c:(b == want)=q) (a:((ops[j]?).bind (·.dst),lk dj fr)=(some dj,some (.bool b)):=by exact r): ∀o:Oper,o.guard=some (j,want)->Gd ops fr o q:=by intro o d;simp only[Tz]at a;exact Gd.at j want dj b d a.1 a.2 c
end
def takeV:Nat->J3->Option J3
 | 0,_=>some []
 | n+1,v::s=>match takeV n s with
   | some t=>some (v::t)
   | none=>none
 | _+1,[]=>none
def partO (off sz:Nat) (ag:Bool) (vs:J3):Option Va:=match off,vs with
 | 0,vs=>match ag with
   | true=>match takeV sz vs with
     | some t=>some (.agg ⟨t⟩)
     | none=>none
   | false=>match vs with
     | v::_=>some v
     | []=>none
 | off+1,_::s=>partO off sz ag s
 | _+1,[]=>none
def ztm: ∀{n:Nat} {vs t:J3},takeV n vs=some t->t=vs.take n/\n<=vs.length
 | 0,vs,t,h=>by cases h;simp
 | n+1,v::s,t,h=>by
   unfold takeV at h;split at h
   ·rename_i t' a;cases h;obtain ⟨rfl,b⟩:=ztm a;simp_all
   ·cases h
 | _+1,[],_,h=>by cases h
def zoI: ∀{off sz:Nat} {ag:Bool} {vs:J3} {v:Va},partO off sz ag vs=some v->part vs off sz ag=some v
 | 0,sz,ag,vs,v,h=>by
   unfold partO at h;cases ag with
   | true=>
     simp only at h;split at h
     ·rename_i t a;cases h;obtain ⟨rfl,b⟩:=ztm a;have:Um (0+sz) vs.length=true:=Uk (by omega);rw[Uv]at this;simp only[part,cT,Uv,this,List.drop_zero]
     ·cases h
   | false=>
     simp only at h;split at h
     ·trivial
     ·cases h
 | off+1,sz,ag,[],v,h=>by cases h
 | off+1,sz,ag,u::s,v,h=>by
   have:=zoI (off:=off) (vs:=s) h;cases ag with
   | true=>
     simp only[part,cT,List.length_cons,List.drop_succ_cons]at this |-
     have e:Um (off+1+sz) (s.length+1)=Um (off+sz) s.length:=by rw[show off+1+sz=(off+sz)+1 by omega];rfl
     simp_all
   | false=>simpa[part] using this
section
variable {pos:String}
def Fb {b f:Nat} (a:fieldB P s f=some o) (c:ev fr x=some (.pointer (some ⟨b,k,none⟩))):Y P w0 S0 n fr is ⟨dst,.fieldAddr s x f,ty,pos,aft,gd⟩ (.pointer (some ⟨b,Uw k o,none⟩)):=Y.field_box a rfl c
def Ix {y:Od} {e':Nat} {k:Ik} (b:elemB P t=some (e',sz,by_)) (c:Can w0 S0 is v (.sl sz' l.length cs')) (hi:idx l i=some z) (a:(ev fr x,ev fr y)=(some v,some (.int k i))):
    Y P w0 S0 n fr is ⟨dst,.indexAddr t x y,ty,pos,aft,gd⟩ (elP v (i.toNat*sz+0)):=by simp only[Tz]at a;exact Y.index b c hi a.1 a.2
def Fe {f c:Nat} (a:fieldB P s f=some o) (b:Can w0 S0 is v (.sl sz' l.length cs')) (d:idx l i=some z) (e:ev fr x=some (elP v (i.toNat*sz+c))):
    Y P w0 S0 n fr is ⟨dst,.fieldAddr s x f,ty,pos,aft,gd⟩ (elP v (i.toNat*sz+Uw c o)):=Y.field_el a b (zQ d).2.2 rfl e
def lelO (c s:Nat) (ag:Bool) (cs:List C):Option Va:=match valsR ((cs.drop c).take s) with
 | some us=>match Ud us.length s&&(ag||Ud s 1) with
   | true=>loaded ag us
   | false=>none
 | none=>none
def Le [Enc α] {c:Nat} (e:kindB P t=some (ag,s)) (f:Can w0 S0 is v (lc l)) (g:idx l i=some z) (d:(ev fr x,lelO c s ag (Enc.enc z))=(some (elP v (i.toNat*sz+c)),some u)) (h:Enc.sz α=sz:=by exact r):Y P w0 S0 n fr is ⟨dst,.load t x,ty,pos,aft,gd⟩ u:=by
 simp only[Tz]at d;obtain ⟨j,a⟩:=d;unfold lelO at a;split at a
 ·rename_i us k;split at a
  ·rename_i b;simp only[Ub]at b;exact Y.load_el e h f (zQ g).2.2 j k b.1 b.2 a
  ·trivial
 ·trivial
def Lz [Enc α] {c:Nat} (b:kindB P t=some (ag,s)) (d:Base w0 S0 v (lc l)) (e:idx l i=some z) (a:(ev fr x,loaded ag (bvals w0 v (i.toNat*sz) c (((Enc.enc z).drop c).take s)))=(some (elP v (i.toNat*sz+c)),some u)) (f:Enc.sz α=sz:=by exact r) (hl:Ud (((Enc.enc z).drop c).take s).length s=true:=by exact r) (g:Uc 0 s=true:=by exact r) (h:(ag||Ud s 1)=true:=by exact r):
    Y P w0 S0 n fr is ⟨dst,.load t x,ty,pos,aft,gd⟩ u:=by simp only[Tz]at a;exact Y.load_base b f d (zQ e).2.2 a.1 hl g h a.2
def Lh [Enc α] {c:Nat} {j:Int} (i:Nat) (e:kindB P t=some (ag,s)) (f:idx l j=some z) (d:(is[i]?,ev fr x,lelO c s ag zs)=(some (.own v (hl l j.toNat zs)),some (elP v (j.toNat*sz+c)),some u)) (g:Enc.sz α=sz:=by exact r) (h:Ud zs.length sz=true:=by exact r):
    Y P w0 S0 n fr is ⟨dst,.load t x,ty,pos,aft,gd⟩ u:=by
 simp only[Tz]at d;obtain ⟨hi,k,a⟩:=d;unfold lelO at a;split at a
 ·rename_i us m;split at a
  ·rename_i b;simp only[Ub]at b;exact Y.load_hole e g hi (zQ f).2.2 k m b.1 b.2 a h
  ·trivial
 ·trivial
def Pt {c y:Od} (d:b=true) (a:(ev fr c,ev fr x)=(some (.bool b),some u)):Y P w0 S0 n fr is ⟨dst,.pick c x y,ty,pos,aft,gd⟩ u:=by simp only[Tz]at a;exact Y.pick_t d a.1 a.2
def Pf {c y:Od} (d:b=false) (a:(ev fr c,ev fr y)=(some (.bool b),some u)):Y P w0 S0 n fr is ⟨dst,.pick c x y,ty,pos,aft,gd⟩ u:=by simp only[Tz]at a;exact Y.pick_f d a.1 a.2
inductive PartsI (w0:Wo) (S0:J4) (is:J5) (fr:Fr):List (Nat × Od)->List (Nat × J3)->Prop
 | nil:PartsI w0 S0 is fr [] []
 | cons {i:Nat} {o:Od} {v:Va} {us:J3} {ps:List (Nat × Od)} {qs:List (Nat × J3)} :ev fr o=some v->Cel w0 S0 is v us->PartsI w0 S0 is fr ps qs->PartsI w0 S0 is fr ((i,o)::ps) ((i,us)::qs)
def PartsI.parts {qs:List (Nat × J3)} (h:PartsI w0 S0 is fr ps qs):Parts w0 S0 is fr ps qs:=by
 induction h with
 | nil=>trivial
 | cons a b _ ih=>exact ⟨rfl,⟨_,a,b⟩,ih⟩
def Pc {i:Nat} {o:Od} {qs:List (Nat × J3)} (a:ev fr o=some v) (b:Cel w0 S0 is v us) (c:PartsI w0 S0 is fr ps qs):PartsI w0 S0 is fr ((i,o)::ps) ((i,us)::qs):=.cons a b c
def Pz:PartsI w0 S0 is fr [] []:=.nil
def repK {β:Type} :J3->J3->(J3->Option β)->Option β
 | vs,[],k=>k vs
 | _::s,u::us,k=>repK s us λt=>k (u::t)
 | [],_::_,_=>none
def splK {β:Type} :Nat->J3->J3->(J3->Option β)->Option β
 | 0,vs,us,k=>repK vs us k
 | n+1,v::s,us,k=>splK n s us λt=>k (v::t)
 | _+1,[],_,_=>none
def zuv {β:Type} : ∀{vs us:J3} {k:J3->Option β} {b:β},repK vs us k=some b->us.length<=vs.length/\k (us++vs.drop us.length)=some b
 | vs,[],k,b,h=>⟨by simp,by simpa[repK] using h⟩
 | _::s,u::us,k,b,h=>by obtain ⟨a,c⟩:=zuv (vs:=s) h;simp_all
 | [],_::_,_,_,h=>by cases h
def zqY {β:Type} : ∀{n:Nat} {vs us:J3} {k:J3->Option β} {b:β},splK n vs us k=some b->n+us.length<=vs.length/\k (splice vs n us)=some b
 | 0,vs,us,k,b,h=>by obtain ⟨c,a⟩:=zuv h;exact ⟨by omega,by simpa[splice] using a⟩
 | n+1,v::s,us,k,b,h=>by
   obtain ⟨c,a⟩:=zqY (vs:=s) h;refine ⟨by simp;omega,?_⟩;have:n+1+us.length=(n+us.length)+1:=by omega
   simpa[splice,this] using a
 | _+1,[],_,_,_,h=>by cases h
def fillsK (place:List (Nat × Nat)):J3->List (Nat × J3)->Option J3
 | cells,[]=>some cells
 | cells,(i,us)::s=>match place[i]? with
   | none=>none
   | some (off,sz)=>match Ud us.length sz with
     | true=>splK off cells us λt=>fillsK place t s
     | false=>none
def zra {place:List (Nat × Nat)} : ∀{qs:List (Nat × J3)} {cells A:J3},fillsK place cells qs=some A->fills place cells qs=some A
 | [],_,_,h=>h
 | (i,us)::s,cells,A,h=>by
   unfold fillsK at h;unfold fills;split at h
   ·cases h
   ·rename_i off sz a;split at h
    ·rename_i d;obtain ⟨e,b⟩:=zqY h;have c:(Ud us.length sz&&Um (off+us.length) cells.length)=true:=by simp_all
     rw[a];simp only[c,cT];exact zra b
    ·cases h
def Bd {t:Ti} {place:List (Nat × Nat)} {zs cells:J3} {qs:List (Nat × J3)} (a:placesB P t=some place) (b:zeroB P t=some (.agg zs.toArray)) (c:PartsI w0 S0 is fr ps qs) (d:fillsK place zs qs=some cells):Y P w0 S0 n fr is ⟨dst,.build t ps.toArray,ty,pos,aft,gd⟩ (.agg cells.toArray):=Y.build qs a b c.parts (zra d)
def Bc {c:C} (h:Base w0 S0 v c):Can w0 S0 is v c:=h.can
def Cp (h:v.cells=us.toArray) (a:us.all (·.oneCell')=true:=by exact r):Cel w0 S0 is v us:=Cel.plain h a
def Cb {c:C} (h:Base w0 S0 v c):Cel w0 S0 is v [v]:=Cel.one (One.can h.can)
def Co {c:C} (k:Nat) (h:is[k]? =some (.own v c):=by exact r):Cel w0 S0 is v [v]:=Cel.one (One.can (Oc k h))
def Ob {c:C} (h:Base w0 S0 v c):One w0 S0 is v:=One.can h.can
def Ow' {c:C} (k:Nat) (h:is[k]? =some (.own v c):=by exact r):One w0 S0 is v:=One.can (Oc k h)
def Op' (h:v.oneCell'=true:=by exact r):One w0 S0 is v:=One.plain h
def Sb {y:Od} {b off bt:Nat} (i:Nat) (c:kindB P t=some (ag,sz)) (a:(is[i]?,ev fr x,ev fr y)=(some (.box b bt vs),some (.pointer (some ⟨b,off,none⟩)),some v)) (d:Cel w0 S0 is v us) (e:splK off vs us (λA=>setK i is (.box b bt A) some)=some is') (hl:Ud us.length sz=true:=by exact r):
    Ef P w0 S0 n fr is ⟨none,.store t x y,ty,pos,aft,gd⟩ (λ_:Unit=>undef) (λ_=>is'):=by simp only[Tz]at a;obtain ⟨f,g⟩:=zqY e;have h:=zqL g;cases h;exact Ef.store_box i c a.1 a.2.1 a.2.2 d hl (Uk f) rfl rfl
def Se [Flat α] {y:Od} {c:Nat} {j:Int} (A:α) (i:Nat) (b:kindB P t=some (ag,s)) (d:idx l j=some z) (a:(is[i]?,ev fr x,ev fr y)=(some (.own v (lc l)),some (elP v (j.toNat*sz+c)),some u)) (e:Cel w0 S0 is u us) (f:setK i is (.own v (lc (l.set j.toNat A))) some=some is') (g:Enc.sz α=sz:=by exact r) (hl:Ud us.length s=true:=by exact r) (h:Um (c+us.length) sz=true:=by exact r) (hs:splice (Flat.vals z) c us=Flat.vals A:=by exact r):
    Ef P w0 S0 n fr is ⟨none,.store t x y,ty,pos,aft,gd⟩ (λ_:Unit=>undef) (λ_=>is'):=by simp only[Tz]at a;have k:=zqL f;cases k;exact Ef.store_el A i b g a.1 (zQ d).2.2 a.2.1 a.2.2 e hl h hs rfl
def Ap [Flat α] {d:Option Nat} {y:Od} {z:Va} {k q:List α} (F:J4) (f:app by_ l k=some q) (g:elemB P t=some (e,sz,by_)) (h:zeroB P e=some z) (b:(takeP F is,ev fr x,ev fr y)=(some ([.own v (lc l)],is'),some v,some u)) (i:Can w0 S0 is u (lc k)) (j:Ud z.cells.size sz=true:=by exact r) (m:Enc.sz α=sz:=by exact r):
    Ef P w0 S0 n fr is ⟨d,.call {callee:=.builtin .append,args:=#[x,y],argTypes:=#[t,t]},ty,pos,aft,gd⟩ (λD:Va=>D) (λD=>.own D (lc q)::is'):=by
 simp only[Tz]at b;obtain ⟨o,p,s⟩:=b;intro a w K Q c hs E;obtain ⟨D,w',A,B⟩:=append_go (ty:=ty) (hs.takeP o) f g h j m i hs;have C:(execOp a.eval ⟨d,.call {callee:=.builtin .append,args:=#[x,y],argTypes:=#[t,t]},ty,pos,aft,gd⟩).run P w= .ok (.value D) w':=by simp[execOp,resolve,invoke,builtin,c.eval p,c.eval s,A]
 unfold Oper.wp;rw[C];exact E D w' B
def Cn (P:Pm) (f:FuncId) (args:J3) (pre:J5) (rds:List (Va × C)) (m:Option R) (val:R->X->Va) (post:R->X->J5):Prop:=
 callB P f=true/\∀q,m=some q->Con P f args pre rds (val q) (post q)
def BaseR (w:Wo) (S:J4):List (Va × C)->Prop
 | []=>True
 | (v,c)::s=>Base w S v c/\BaseR w S s
def BaseR.of {w:Wo} {S:J4} : ∀{rds:List (Va × C)},(∀p∈rds,Base w S p.1 p.2)->BaseR w S rds
 | [],_=>trivial
 | (_,_)::_,h=>⟨h _ (.head _),BaseR.of λp a=>h p (.tail _ a)⟩
def Ci {rds:List (Va × C)} {val:R->X->Va} (a:P.funcs[f]? =some fn) (b:fn.body=some c) (d:fn.ntmps=k) (h: ∀w S,BaseR w S rds->TW P w S m k (argFr 0 args) pre c (λq=>bodyPost P fn (λe w'=>∃x,e= .returned (val q x)/\St w S (post q x) w'))) (hl:Um args.length k=true:=by exact r) (hN:(fn.name != "runtime.NumGoroutine")=true:=by exact r):
    Cn P f args pre rds m val post:=by refine ⟨by unfold callB;rw[a];simp only[hN,b,Option.isSome_some,Bool.and_self],λq g=>?_⟩;exact Con.intro a b d hl g λw S i=>h w S (BaseR.of i)
theorem Cl {val:R->X->Va} {is':X->J5} {rds:List (Va × C)} (D:J4) (c:Cn P f args pre rds m val post) (d:m=some q) (b:(evs fr os,takeP D is)=(some args,some (pre,rest))) (g: ∀x,appK (post q x) rest some=some (is' x)) (h:Cans w0 S0 rest rds:=by exact trivial):
 Ef P w0 S0 n fr is ⟨dst,.call {callee:=.value (.func f),args:=os.toArray,argTypes:=ats},ty,pos,aft,gd⟩ (val q) is':=by
 simp only[Tz]at b;intro a w K Q i hs E;obtain ⟨A,B,j,t⟩:=(hs.takeP b.2).frame;have k:=c.2 q d w A B λp l=>j _ _ (h.mem p l);have o:(execOp a.eval ⟨dst,.call {callee:=.value (.func f),args:=os.toArray,argTypes:=ats},ty,pos,aft,gd⟩).run P w= .ok (.enter f args.toArray) w:=by simp[execOp,resolve,Act.eval,Deferred.ofValue,invoke,<-i.evals b.1,zmo c.1]
 unfold Oper.wp;rw[o];refine k.mono ?_;rintro e w' ⟨x,rfl,u⟩;have s:=g x;rw[zkF]at s;grind
def Cm {val:X->Va} {post is':X->J5} {rds:List (Va × C)} (h:J4) (a:Con P f args pre rds val post) (b:callB P f=true) (c:(evs fr os,takeP h is)=(some args,some (pre,rest))) (d: ∀x,appK (post x) rest some=some (is' x)) (e:Cans w0 S0 rest rds:=by exact trivial):
    Ef P w0 S0 n fr is ⟨dst,.call {callee:=.value (.func f),args:=os.toArray,argTypes:=ats},ty,pos,aft,gd⟩ val is':=
 Cl (R:=Unit) (m:=some ()) (q:=()) (val:=λ_=>val) (post:=λ_=>post) h ⟨b,λ_ _=>a⟩ rfl c d e
theorem Cw {val:R->X->Va} {is':X->J5} {rds:List (Va × C)} {cs all:J3} (D:J4) (d:Cn P f all pre rds m val post) (i:m=some q) (b:(evs fr os,ev fr x)=(some args,some (.func (.func f) #[] cs.toArray))) (c:takeP D is=some (pre,rest)) (g: ∀x,appK (post q x) rest some=some (is' x)) (j:Cans w0 S0 rest rds:=by exact trivial) (k:args++cs=all:=by exact r):
 Ef P w0 S0 n fr is ⟨dst,.call {callee:=.value x,args:=os.toArray,argTypes:=ats},ty,pos,aft,gd⟩ (val q) is':=by
 simp only[Tz]at b;intro a w K Q h hs E;subst k;obtain ⟨A,B,l,v⟩:=(hs.takeP c).frame;have o:=d.2 q i w A B λp s=>l _ _ (j.mem p s);have t:(execOp a.eval ⟨dst,.call {callee:=.value x,args:=os.toArray,argTypes:=ats},ty,pos,aft,gd⟩).run P w= .ok (.enter f (args++cs).toArray) w:=by have g:=zmo d.1 (args++cs).toArray w;have c:=h.evals b.1;simp[execOp,resolve,h.eval b.2,Deferred.ofValue,invoke,List.map_toArray,c];trivial
 unfold Oper.wp;rw[t];refine o.mono ?_;rintro e w' ⟨x,rfl,y⟩;have u:=g x;rw[zkF]at u;grind
end
def aval (ops:Array Oper) (n:Nat):J4->Fr->Option Fr
 | [],fr=>some fr
 | i::s,fr=>match ops[i]? with
   | some ⟨some d,o,_,_,_,none⟩=>match Uc d n with
     | true=>match sval fr o with
       | some v=>aval ops n s ((d,v)::fr)
       | none=>none
     | false=>none
   | _=>none
def aoff (ops:Array Oper) (n j:Nat) (want:Bool) (dj:Nat):J4->Fr->Option Fr
 | [],fr=>some fr
 | i::s,fr=>match ops[i]? with
   | some ⟨some d,_,_,_,_,some (j',want')⟩=>match Uc d n&&(Ud j' j&&(want' == want&& !Nat.beq dj d)) with
     | true=>aoff ops n j want dj s ((d,undef)::fr)
     | false=>none
   | _=>none
def decF:J4->Nat->Option Nat
 | [],f=>some f
 | _::s,f+1=>decF s f
 | _::_,0=>none
def abits:J4->Nat->Nat
 | [],L=>L
 | i::s,L=>abits s (L ||| 2 ^ i)
def ardy (ops:Array Oper):J4->Nat->Bool
 | [],_=>true
 | i::s,L=>rdyB ops i L 0&&ardy ops s (L ||| 2 ^ i)
def anob (H:Hd):J4->Bool
 | []=>true
 | i::s=>nob i H&&anob H s
def achk (ops:Array Oper) (σ:J4):J4->Nat->Bool
 | [],_=>true
 | i::s,L=>chkR ops i 0 σ L&&achk ops σ s (L ||| 2 ^ i)
def asid (ops:Array Oper) (fr0:Fr) (H:Hd) (σ:List Side):J4->Fr->Bool
 | [],_=>true
 | i::s,fr=>match ops[i]? with
   | some ⟨some d,_,_,_,_,_⟩=>sideC fr fr0 H σ&&(nokey d fr0&&(othr ops.size d σ&&asid ops fr0 H σ s fr))
   | _=>false
def zrB {fr fr0:Fr} {H:Hd} {d e:Nat} {v:Va} : ∀{σ:List Side},sideC fr fr0 H σ=true->othr e d σ=true->sideC ((d,v)::fr) fr0 H σ=true
 | [],_,_=>rfl
 | s::σ,h,a=>by
   unfold sideC at h |-
   unfold othr at a;simp only[Ub]at h a |-
   refine ⟨?_,h.2.1,h.2.2.1,h.2.2.2.1,zrB h.2.2.2.2 a.2.2⟩;unfold nokey;rw[Ub];refine ⟨?_,h.1⟩;have:=a.2.1;simp only[Uh]at this |-
   cases b:Ud d s.d with
   | false=>rfl
   | true=>rw[Nat.eq_of_beq_eq_true b,Nat.beq_refl]at this;cases this
def zso {ops:Array Oper} {fr0:Fr} {H:Hd} {σ:List Side} {d:Nat} {v:Va} : ∀{s:J4} {fr:Fr},sideC fr fr0 H σ=true->othr ops.size d σ=true->asid ops fr0 H σ s fr=true->asid ops fr0 H σ s ((d,v)::fr)=true
 | [],_,_,_,_=>rfl
 | i::s,fr,b,a,h=>by
   unfold asid at h |-
   split at h
   ·rename_i A o ty pos aft g hi;simp only[hi,Ub]at h |-
    exact ⟨zrB h.1 a,h.2.1,h.2.2.1,zso b a h.2.2.2⟩
   ·cases h
def zipK {β:Type} :J5->J4->(Hd->Option β)->Option β
 | [],_,k=>k []
 | i::is,b::bs,k=>zipK is bs λH=>k ((i,b)::H)
 | _::_,[],_=>none
def heldK (h bs:J4) (is:J5):Option (J5 × Hd):=takeK h is λpre rest=>appK rest pre λis'=>zipK pre bs λH=>some (is',H)
theorem zyb: ∀{is:J5} {bs:J4} {k:Hd->Option β} {b:β},zipK is bs k=some b->∃H,k H=some b:=by
 intro is;induction is with
 | nil=>exact λh=>⟨[],h⟩
 | cons i is ih=>
   intro bs k b h;cases bs with
   | nil=>cases h
   | cons c bs=>obtain ⟨H,a⟩:=ih h;grind
def St.heldK {w0:Wo} {S0 A bs:J4} {is is':J5} {H:Hd} (h:Sl.heldK A bs is=some (is',H)) {w:Wo} (hs:St w0 S0 is w):St w0 S0 is' w:=by obtain ⟨pre,rest,a,b⟩:=St.takeK (w0:=w0) (w:=w) (S0:=S0) h;rw[zkF]at a;obtain ⟨B,c⟩:=zyb a;cases c;exact (b w hs).permL Up
section
variable {o:Op} {pos:String}
def Dr {id:Nat} (A bs:J4) (b:heldK A bs is=some (is',H)) (c:P.follows .mixedOrders=true) (h:TA P w0 S0 m n fr is' H ops ops.size 0 Q):TW P w0 S0 m n fr is (.region id ops true) Q:=
 λr d a w e hs=>TW.draw c h r d a w e (hs.heldK b)
theorem Ia {a c:Option R} (d:b=true->TA P w0 S0 a n fr is H ops fuel L Q) (e:b=false->TA P w0 S0 c n fr is H ops fuel L Q):
 TA P w0 S0 (if b=true then a else c) n fr is H ops fuel L Q:=by grind
def Az (h:TE w0 S0 m n fr is .normal Q) (a:Region.ready .any ops (bm ops.size L)= []:=by kernel_rfl):TA P w0 S0 m n fr is H ops fuel L Q:=TA.nil a h
def Ab (i B:Nat) (hi:ops[i]? =some ⟨some d,o,ty,pos,aft,none⟩) (a:Y P w0 S0 n fr (hb' ops.size B H) ⟨some d,o,ty,pos,aft,none⟩ v) (h:TA P w0 S0 m n ((d,v)::fr) is H ops fuel (L ||| 2 ^ i) Q) (A:sfx is (hl' ops.size L H)=hl' ops.size L H:=by exact r) (b:Uc d n=true:=by exact r) (c:rdyB ops i L B=true:=by kernel_rfl) (e:nob i H=true:=by exact r):TA P w0 S0 m n fr is H ops (fuel+1) L Q:=TA.y i B hi a rfl rfl b c e A h
def Ay (i:Nat) (hi:ops[i]? =some ⟨some d,o,ty,pos,aft,none⟩) (a:Y P w0 S0 n fr (hb' ops.size 0 H) ⟨some d,o,ty,pos,aft,none⟩ v) (h:TA P w0 S0 m n ((d,v)::fr) is H ops fuel (L ||| 2 ^ i) Q) (A:sfx is (hl' ops.size L H)=hl' ops.size L H:=by exact r) (b:Uc d n=true:=by exact r) (c:rdyB ops i L 0=true:=by kernel_rfl) (e:nob i H=true:=by exact r):TA P w0 S0 m n fr is H ops (fuel+1) L Q:=TA.y i 0 hi a rfl rfl b c e A h
def Ag (i B:Nat) (a: ∀o:Oper,o.guard=some g->Gd ops fr o true) (hi:ops[i]? =some ⟨some d,o,ty,pos,aft,some g⟩) (b:Y P w0 S0 n fr (hb' ops.size B H) ⟨some d,o,ty,pos,aft,some g⟩ v) (h:TA P w0 S0 m n ((d,v)::fr) is H ops fuel (L ||| 2 ^ i) Q) (A:sfx is (hl' ops.size L H)=hl' ops.size L H:=by exact r) (c:Uc d n=true:=by exact r) (e:rdyB ops i L B=true:=by kernel_rfl) (f:nob i H=true:=by exact r):TA P w0 S0 m n fr is H ops (fuel+1) L Q:=TA.y i B hi b (a _ rfl) rfl c e f A h
def Aq (js:J4) (g:(aval ops n js fr,decF js fuel2)=(some fr',some fuel)) (h:TA P w0 S0 m n fr' is H ops fuel (abits js L) Q) (A:sfx is (hl' ops.size L H)=hl' ops.size L H:=by exact r) (c:ardy ops js L=true:=by kernel_rfl) (b:anob H js=true:=by exact r):TA P w0 S0 m n fr is H ops fuel2 L Q:=by
 simp only[Tz]at g;obtain ⟨a,e⟩:=g;induction js generalizing fr fuel2 L with
 | nil=>cases a;cases e;exact h
 | cons i s ih=>
   unfold aval at a;split at a
   ·rename_i d o ty pos aft hi;split at a
    ·rename_i j;split at a
     ·rename_i v k;unfold ardy at c;unfold anob at b;rw[Ub]at c b;cases fuel2 with
      | zero=>cases e
      | succ f=>exact TA.y i 0 hi (Y.sval k) rfl rfl j c.1 b.1 A (ih h (by rw[hl_or b.1];exact A) c.2 b.2 a e)
     ·trivial
    ·trivial
   ·trivial
def Ax (js:J4) (q:(b == want)=false) (l:(js.head?.bind λi=>(ops[i]?).bind (·.guard),(ops[j]?).bind (·.dst),lk dj fr)=(some (j,want),some dj,some (.bool b))) (a:(aoff ops n j want dj js fr,decF js fuel2)=(some fr',some fuel)) (h:TA P w0 S0 m n fr' is H ops fuel (abits js L) Q) (B:sfx is (hl' ops.size L H)=hl' ops.size L H:=by exact r) (e:ardy ops js L=true:=by kernel_rfl) (c:anob H js=true:=by exact r):TA P w0 S0 m n fr is H ops fuel2 L Q:=by
 simp only[Tz]at l a;obtain ⟨-,t,p⟩:=l;obtain ⟨a,k⟩:=a;induction js generalizing fr fuel2 L with
 | nil=>cases a;cases k;exact h
 | cons i s ih=>
   unfold aoff at a;split at a
   ·rename_i d o ty pos aft D A hi;split at a
    ·rename_i g;simp only[Ub,Uh]at g;obtain ⟨g,u,v,w⟩:=g;have x:D=j:=by simpa using u
     have y:A=want:=by simpa using v
     subst x y;unfold ardy at e;unfold anob at c;rw[Ub]at e c;cases fuel2 with
     | zero=>cases k
     | succ f=>exact TA.off i hi (Gd.at _ _ dj b rfl t p q) rfl g e.1 c.1 B (ih h (by rw[hl_or c.1];exact B) e.2 c.2 (by rw[zlz w];exact p) a k)
    ·trivial
   ·trivial
def Au (js:J4) (k:(js.head?.bind λi=>(ops[i]?).bind (·.guard),(ops[j]?).bind (·.dst),lk dj fr)=(some (j,want),some dj,some undef)) (a:(aoff ops n j want dj js fr,decF js fuel2)=(some fr',some fuel)) (h:TA P w0 S0 m n fr' is H ops fuel (abits js L) Q) (B:sfx is (hl' ops.size L H)=hl' ops.size L H:=by exact r) (c:ardy ops js L=true:=by kernel_rfl) (b:anob H js=true:=by exact r):TA P w0 S0 m n fr is H ops fuel2 L Q:=by
 simp only[Tz]at k a;obtain ⟨-,p,l⟩:=k;obtain ⟨a,g⟩:=a;induction js generalizing fr fuel2 L with
 | nil=>cases a;cases g;exact h
 | cons i s ih=>
   unfold aoff at a;split at a
   ·rename_i d o ty pos aft D A hi;split at a
    ·rename_i e;simp only[Ub,Uh]at e;obtain ⟨e,q,t,u⟩:=e;have v:D=j:=by simpa using q
     have w:A=want:=by simpa using t
     subst v w;unfold ardy at c;unfold anob at b;rw[Ub]at c b;cases fuel2 with
     | zero=>cases g
     | succ f=>exact TA.off i hi (Gd.un _ _ dj rfl p l) rfl e c.1 b.1 B (ih h (by rw[hl_or b.1];exact B) c.2 b.2 (by rw[zlz u];exact l) a g)
    ·trivial
   ·trivial
def Ou (k:Nat) {l:List Oper} (c:(l.head?.bind (·.guard),(ops[j]?).bind (·.dst),lk dj fr)=(some (j,want),some dj,some undef)) (a:orun n j want dj k l fr=some (l',fr')) (h:TO P w0 S0 m n fr' is ops l' Q):TO P w0 S0 m n fr is ops l Q:=by
 obtain ⟨-,g,f⟩:_/\_/\_:=by simpa using c
 clear c;induction k generalizing l fr with
 | zero=>cases a;exact h
 | succ k ih=>
   unfold orun at a;split at a
   ·trivial
   ·rename_i k' d o ty pos aft B A u e;cases e;split at a
    ·rename_i b;simp only[Ub,Uh]at b;obtain ⟨b,i,p,q⟩:=b;have s:B=j:=by simpa using i
     have t:A=want:=by simpa using p
     subst s t;refine TO.off (Gd.un _ _ dj rfl g f) rfl b (ih a ?_);rw[zlz q];exact f
    ·trivial
   ·trivial
def Xe {i:Nat} {val:X->Va} {is':X->J5} (hi:ops[i]? =some ⟨some d,o,ty,pos,aft,none⟩) (a:Ef P w0 S0 n fr is ⟨some d,o,ty,pos,aft,none⟩ val is') (h: ∀x,TA P w0 S0 m n ((d,val x)::fr) (is' x) H ops fuel (L ||| 2 ^ i) Q) (A: ∀x,sfx (is' x) (hl' ops.size (L ||| 2 ^ i) H)=hl' ops.size (L ||| 2 ^ i) H:=by exact λ_=>r) (b:Uc d n=true:=by exact r):
    TX P w0 S0 m n fr is H ops fuel L Q i:=TX.ef hi a rfl rfl b A h
def moveK (h:J4) (is:J5):Option J5:=takeK h is λpre rest=>appK rest pre some
def St.moveK {w0:Wo} {S0 A:J4} {is js:J5} (h:Sl.moveK A is=some js) {w:Wo} (hs:St w0 S0 is w):St w0 S0 js w:=by obtain ⟨pre,rest,a,b⟩:=St.takeK (w0:=w0) (w:=w) (S0:=S0) h;rw[zkF]at a;cases a;exact (b w hs).permL Up
def Ef.move {val:X->Va} {is' js:X->J5} {A:Oper} (B:J4) (h:Ef P w0 S0 n fr is A val is') (b: ∀x,moveK B (is' x)=some (js x)):Ef P w0 S0 n fr is A val js:=
 λa w K Q c hs D=>h a w K Q c hs λx w' hs'=>D x w' (hs'.moveK (b x))
def Xr {i:Nat} {val:X->Va} {is' js:X->J5} (A:J4) (hi:ops[i]? =some ⟨some d,o,ty,pos,aft,none⟩) (a:Ef P w0 S0 n fr is ⟨some d,o,ty,pos,aft,none⟩ val is') (b: ∀x,moveK A (is' x)=some (js x)) (h: ∀x,TA P w0 S0 m n ((d,val x)::fr) (js x) H ops fuel (L ||| 2 ^ i) Q) (B: ∀x,sfx (js x) (hl' ops.size (L ||| 2 ^ i) H)=hl' ops.size (L ||| 2 ^ i) H:=by exact λ_=>r) (c:Uc d n=true:=by exact r):
    TX P w0 S0 m n fr is H ops fuel L Q i:=TX.ef hi (a.move A b) rfl rfl c B h
def Xu {i:Nat} (hi:ops[i]? =some ⟨none,o,ty,pos,aft,none⟩) (a:Ef P w0 S0 n fr is ⟨none,o,ty,pos,aft,none⟩ (λ_:Unit=>undef) (λ_=>is')) (h:TA P w0 S0 m n fr is' H ops fuel (L ||| 2 ^ i) Q) (A:sfx is' (hl' ops.size (L ||| 2 ^ i) H)=hl' ops.size (L ||| 2 ^ i) H:=by exact r):
    TX P w0 S0 m n fr is H ops fuel L Q i:=TX.ef0 hi a rfl rfl (λ_=>A) λ_=>h
def Xy {i:Nat} (hi:ops[i]? =some ⟨some d,o,ty,pos,aft,none⟩) (a:Y P w0 S0 n fr is ⟨some d,o,ty,pos,aft,none⟩ v) (h:TA P w0 S0 m n ((d,v)::fr) is H ops fuel (L ||| 2 ^ i) Q) (A:sfx is (hl' ops.size (L ||| 2 ^ i) H)=hl' ops.size (L ||| 2 ^ i) H:=by exact r) (b:Uc d n=true:=by exact r):TX P w0 S0 m n fr is H ops fuel L Q i:=TX.y hi a rfl rfl b A h
def Xeg {i:Nat} {val:X->Va} {is':X->J5} (a: ∀o:Oper,o.guard=some g->Gd ops fr o true) (hi:ops[i]? =some ⟨some d,o,ty,pos,aft,some g⟩) (b:Ef P w0 S0 n fr is ⟨some d,o,ty,pos,aft,some g⟩ val is') (h: ∀x,TA P w0 S0 m n ((d,val x)::fr) (is' x) H ops fuel (L ||| 2 ^ i) Q) (A: ∀x,sfx (is' x) (hl' ops.size (L ||| 2 ^ i) H)=hl' ops.size (L ||| 2 ^ i) H:=by exact λ_=>r) (c:Uc d n=true:=by exact r):
    TX P w0 S0 m n fr is H ops fuel L Q i:=TX.ef hi b (a _ rfl) rfl c A h
def Xyg {i:Nat} (a: ∀o:Oper,o.guard=some g->Gd ops fr o true) (hi:ops[i]? =some ⟨some d,o,ty,pos,aft,some g⟩) (b:Y P w0 S0 n fr is ⟨some d,o,ty,pos,aft,some g⟩ v) (h:TA P w0 S0 m n ((d,v)::fr) is H ops fuel (L ||| 2 ^ i) Q) (A:sfx is (hl' ops.size (L ||| 2 ^ i) H)=hl' ops.size (L ||| 2 ^ i) H:=by exact r) (c:Uc d n=true:=by exact r):TX P w0 S0 m n fr is H ops fuel L Q i:=TX.y hi b (a _ rfl) rfl c A h
def A1 (i:Nat) (h:TX P w0 S0 m n fr is H ops fuel L Q i) (a:Region.ready .any ops (bm ops.size L)= [i]:=by kernel_rfl):TA P w0 S0 m n fr is H ops (fuel+1) L Q:=TA.one i a h
theorem A2 (i j:Nat) (b:TX P w0 S0 m n fr is H ops fuel L Q i) (c:TX P w0 S0 m n fr is H ops fuel L Q j) (a:Region.ready .any ops (bm ops.size L)= [i,j]:=by kernel_rfl):TA P w0 S0 m n fr is H ops (fuel+1) L Q:=
 TA.all [i,j] a (by simp) λk d=>by grind
def Sz: ∀s∈([]:List Side),s.ok P w0 S0 n fr ops:=λ_ h=>by cases h
def Sc (i:Nat) {val:X->Va} {new:X->J5} {σ:List Side} (hi:ops[i]? =some ⟨some d,o,ty,pos,aft,none⟩) (e: ∀a S1,(∀{v c},Base w0 S0 v c->Base a S1 v c)->Ef P a S1 n fr [] ⟨some d,o,ty,pos,aft,none⟩ val new) (hs: ∀s∈σ,s.ok P w0 S0 n fr ops) (f:Uc d n=true:=by exact r): ∀s∈(⟨i,d,X,val,new⟩:Side)::σ,s.ok P w0 S0 n fr ops:=by
 intro s b;rcases List.mem_cons.1 b with rfl | b
 ·exact ⟨o,ty,pos,aft,hi,f,e⟩
 ·simp_all
def Ts {σ:List Side} (a: ∀s∈σ,s.ok P w0 S0 n fr ops) (b:decF (σ.map (·.i)) fuel2=some fuel) (h:TM P w0 S0 m n fr σ fr is H ops fuel L Q):TA P w0 S0 m n fr is H ops fuel2 L Q:=by
 have key: ∀(l:J4) (f g:Nat),decF l f=some g->f=g+l.length:=by
  intro l;induction l with
  | nil=>exact λf g h=>by cases h;rfl
  | cons x l ih=>
    intro f g h;cases f with
    | zero=>cases h
    | succ f=>rw[ih f g h];simp;omega
 rw[key _ _ _ b,Vc];exact TM.start σ a h
variable {fr0:Fr} {σ:List Side}
def Me (j:Nat) {val:X->Va} {is':X->J5} (hi:ops[j]? =some ⟨some d,o,ty,pos,aft,none⟩) (b: ∀a S1,(∀{v c},Base w0 S0 v c->Base a S1 v c)->Ef P a S1 n fr is ⟨some d,o,ty,pos,aft,none⟩ val is') (h: ∀x,TM P w0 S0 m n fr0 σ ((d,val x)::fr) (is' x) H ops fuel (L ||| 2 ^ j) Q) (e:Uc d n=true:=by exact r) (f:sideC fr fr0 H σ=true:=by exact r) (g:nokey d fr0=true:=by exact r) (k:othr ops.size d σ=true:=by exact r) (l:chkT ops (some j) [] (σ.map (·.i)) L=true:=by kernel_rfl) (hH:sfx is (hl' ops.size L H)=hl' ops.size L H:=by exact r) (hH': ∀x,sfx (is' x) (hl' ops.size (L ||| 2 ^ j) H)=hl' ops.size (L ||| 2 ^ j) H:=by exact λ_=>r):
    TM P w0 S0 m n fr0 σ fr is H ops (fuel+1) L Q:=TM.ef hi b e f g k l hH hH' h
def Mi (j:Nat) (hi:ops[j]? =some ⟨some d,o,ty,pos,aft,none⟩) (e: ∀b S1,(∀{v c},Base w0 S0 v c->Base b S1 v c)->Y P b S1 n fr is ⟨some d,o,ty,pos,aft,none⟩ v) (h:TM P w0 S0 m n fr0 σ ((d,v)::fr) is H ops fuel (L ||| 2 ^ j) Q) (f:Uc d n=true:=by exact r) (g:sideC fr fr0 H σ=true:=by exact r) (k:nokey d fr0=true:=by exact r) (l:othr ops.size d σ=true:=by exact r) (p:chkT ops (some j) [] (σ.map (·.i)) L=true:=by kernel_rfl) (hH:sfx is (hl' ops.size L H)=hl' ops.size L H:=by exact r) (hH':sfx is (hl' ops.size (L ||| 2 ^ j) H)=hl' ops.size (L ||| 2 ^ j) H:=by exact r):
    TM P w0 S0 m n fr0 σ fr is H ops (fuel+1) L Q:=
 TM.ef (X:=Unit) (val:=λ_=>v) (is':=λ_=>is) hi (λb S1 z=>by
  intro a w K Q q hs A
  unfold Oper.wp
  rw[e b S1 z a w q hs]
  exact A () w hs) f g k l p hH (λ_=>hH') λ_=>h
def Mq (js:J4) (g:(aval ops n js fr,decF js fuel2)=(some fr',some fuel)) (h:TM P w0 S0 m n fr0 σ fr' is H ops fuel (abits js L) Q) (A:sfx is (hl' ops.size L H)=hl' ops.size L H:=by exact r) (c:achk ops (σ.map (·.i)) js L=true:=by kernel_rfl) (b:anob H js=true:=by exact r) (hs:asid ops fr0 H σ js fr=true:=by exact r):TM P w0 S0 m n fr0 σ fr is H ops fuel2 L Q:=by
 simp only[Tz]at g;obtain ⟨a,e⟩:=g;induction js generalizing fr fuel2 L with
 | nil=>cases a;cases e;exact h
 | cons i s ih=>
   unfold aval at a;split at a
   ·rename_i d o ty pos aft hi;split at a
    ·rename_i j;split at a
     ·rename_i v k;unfold achk at c;unfold anob at b;unfold asid at hs;rw[hi]at hs;simp only[Ub]at c b hs;cases fuel2 with
      | zero=>cases e
      | succ f=>refine TM.y 0 hi (Y.sval k) rfl rfl j hs.1 hs.2.1 hs.2.2.1 c.1 b.1 A (ih h (by rw[hl_or b.1];exact A) c.2 b.2 ?_ a e);exact zso hs.1 hs.2.2.1 hs.2.2.2
     ·trivial
    ·trivial
   ·trivial
def Mc {s:Side} (h: ∀x,TM P w0 S0 m n fr0 σ ((s.d,s.val x)::fr) (s.new x++is) H ops fuel (L ||| 2 ^ s.i) Q) (a:sideC fr fr0 H (s::σ)=true:=by exact r) (b:chkT ops none [s.i] (σ.map (·.i)) L=true:=by kernel_rfl) (hH:sfx is (hl' ops.size L H)=hl' ops.size L H:=by exact r):TM P w0 S0 m n fr0 (s::σ) fr is H ops fuel L Q:=TM.close a b hH h
end
def isSl:C->Bool
 | .sl _ _ _=>true
 | _=>false
def opnO:List C->J3->Option (List C × J5)
 | [],_=>some ([],[])
 | c::s,Vs=>match isSl c with
   | true=>match Vs with
     | V::Vs=>match opnO s Vs with
       | some (ds,js)=>some (.raw V::ds,.own V c::js)
       | none=>none
     | []=>none
   | false=>match opnO s Vs with
     | some (ds,js)=>some (c::ds,js)
     | none=>none
def zqJ: ∀{cs:List C} {Vs:J3} {ds:List C} {js:J5},opnO cs Vs=some (ds,js)->opnC cs Vs=ds/\opnI cs Vs=js
 | [],_,ds,js,h=>by cases h;exact ⟨rfl,rfl⟩
 | c::s,Vs,ds,js,h=>by
   unfold opnO at h;split at h
   ·rename_i a;split at h
    ·rename_i V D;split at h
     ·rename_i A B b;cases h;obtain ⟨d,e⟩:=zqJ b;cases c with
      | sl sz k cs=>exact ⟨by simp only[opnC,d],by simp only[opnI,e]⟩
      | _=>cases a
     ·cases h
    ·cases h
   ·rename_i a;split at h
    ·rename_i A B b;cases h;obtain ⟨d,e⟩:=zqJ b;cases c with
     | sl sz k cs=>cases a
     | _=>exact ⟨by simp only[opnC,d],by simp only[opnI,e]⟩
    ·cases h
def opI [Enc α] (v:Va) (l:List α) (k:Nat) (rest:J5):Option (List C × J5)->Option J5
 | some (cs,js)=>appK js rest λt=>some (.own v (hl l k cs)::t)
 | none=>none
section
def Cz:Cls [] [] []:=.nil
def Ck {c:C} (h:Cls cs is ds):Cls (c::cs) is (c::ds):=.keep h
def Cf {V:Va} {c:C} (h:Cls cs is ds):Cls (.raw V::cs) (.own V c::is) (c::ds):=.fill h
def Hc [Enc α] {x:α} {ys:List C} {js:J5} (A:J4) (y:α) (a:idx l i=some x) (b:takeP A is=some (.own v (hl l i.toNat zs)::js,rest)) (c:Cls zs js ys) (d:Enc.enc y=ys:=by exact r):
    ∀w,St w0 S0 is w->St w0 S0 (.own v (lc (l.set i.toNat y))::rest) w:=by intro w h;subst d;rw[zvS (zQ a).2.2];exact St.cls c (h.takeP b)
def Hs [Enc α] {x:α} {ys:List C} {js:J5} (A:J4) (a:idx l i=some x) (b:takeP A is=some (.own v (hl l i.toNat zs)::js,rest)) (c:Cls zs js ys) (d:Enc.enc x=ys:=by exact r):
    ∀w,St w0 S0 is w->St w0 S0 (.own v (lc l)::rest) w:=by intro w h;subst d;rw[znh (zQ a).2.2];exact St.cls c (h.takeP b)
def Ha [Enc α] {js:J5} (A:J4) (xs:List α) (a:takeP A is=some (.own v (.sl sz k cs)::js,rest)) (b:Cls cs js ds) (c:lc xs= .sl sz k ds:=by exact r):
    ∀w,St w0 S0 is w->St w0 S0 (.own v (lc xs)::rest) w:=by intro w h;rw[c];have:=St.cls (pre:=[]) (post:=[]) b (by simpa using h.takeP a);simp_all
def Ho [Enc α] {x:α} (q:Nat) {isf:Tup q->J5} (A:J4) (d:idx l i=some x) (e:takeP A is=some ([.own v (lc l)],rest)) (f: ∀X:Tup q,opI v l i.toNat rest (opnO (Enc.enc x) (tupL q X))=some (isf X)) (g:slN (Enc.enc x)=q:=by exact r):Gh w0 S0 is isf:=by
 intro w h;have c:=h.takeP e;rw[Uq,znh (zQ d).2.2]at c;obtain ⟨Vs,j,n⟩:=St.opn c;obtain ⟨X,rfl⟩:=znu q Vs (j.trans g);refine ⟨X,?_⟩;have a:=f X;cases b:opnO (Enc.enc x) (tupL q X) with
 | none=>rw[b]at a;cases a
 | some p=>obtain ⟨cs,js⟩:=p;rw[b]at a;obtain ⟨k,m⟩:=zqJ b;unfold opI at a;simp only[zkF,Uf]at a;rw[<-a,<-k,<-m];trivial
end
section
variable {pos:String}
def repC {β:Type} :List C->List C->(List C->Option β)->Option β
 | vs,[],k=>k vs
 | _::s,u::us,k=>repC s us λt=>k (u::t)
 | [],_::_,_=>none
def splC {β:Type} :Nat->List C->List C->(List C->Option β)->Option β
 | 0,vs,us,k=>repC vs us k
 | n+1,v::s,us,k=>splC n s us λt=>k (v::t)
 | _+1,[],_,_=>none
theorem zje {c:C} {s:List C} {A:J3} (h:valsR (c::s)=some A): ∃v vs,valR c=some v/\valsR s=some vs/\A=v::vs:=by unfold valsR at h;grind
def zrJ: ∀{cs:List C} {vs:J3},valsR cs=some vs->vs.length=cs.length
 | [],vs,h=>by cases h;rfl
 | c::cs,vs,h=>by obtain ⟨v,us,b,a,rfl⟩:=zje h;simp[zrJ a]
def zuu {β:Type} : ∀{zs cs:List C} {k:List C->Option β} {b:β} {zv us:J3},repC zs cs k=some b->valsR zs=some zv->valsR cs=some us->
    ∃A,k A=some b/\cs.length<=zs.length/\valsR A=some (us++zv.drop us.length)
 | zs,[],k,b,zv,us,h,a,d=>by cases d;exact ⟨zs,by simpa[repC] using h,by simp,by simpa using a⟩
 | z::s,c::cs,k,b,zv,us,h,a,d=>by
   obtain ⟨v,vs,-,e,rfl⟩:=zje a
   obtain ⟨u,B,f,g,rfl⟩:=zje d
   obtain ⟨A,i,j,l⟩:=zuu (zs:=s) h e g
   exact ⟨c::A,i,by simpa using j,by simp[valsR,f,l]⟩
 | [],_::_,_,_,_,_,h,_,_=>by cases h
def zuy {β:Type} : ∀{n:Nat} {zs cs:List C} {k:List C->Option β} {b:β} {zv us:J3},splC n zs cs k=some b->valsR zs=some zv->valsR cs=some us->
    ∃A,k A=some b/\n+cs.length<=zs.length/\valsR A=some (splice zv n us)
 | 0,zs,cs,k,b,zv,us,h,a,c=>by
   obtain ⟨A,d,g,f⟩:=zuu h a c
   exact ⟨A,d,by omega,by simpa[splice] using f⟩
 | n+1,z::s,cs,k,b,zv,us,h,a,c=>by
   obtain ⟨v,vs,i,hs,rfl⟩:=zje a
   obtain ⟨A,d,g,f⟩:=zuy (zs:=s) h hs c
   refine ⟨z::A,d,by simp;omega,?_⟩
   have e:n+1+us.length=(n+us.length)+1:=by omega
   simp[valsR,i,f,splice,e]
 | _+1,[],_,_,_,_,_,h,_,_=>by cases h
def zlH: ∀is:J5,pulls (Ua is.length 0) is=some is
 | []=>rfl
 | i::is=>by show pulls (0::Ua is.length 0) (i::is)=_;simp only[pulls,pull,zlH is]
def Sh [Enc α] {y:Od} {c:Nat} {j:Int} {zv:J3} (i:Nat) (cs:List C) (e:kindB P t=some (ag,s)) (f:idx l j=some z) (a:(is[i]?,ev fr x,ev fr y)=(some (.own v (hl l j.toNat zs)),some (elP v (j.toNat*sz+c)),some u)) (g:Cel w0 S0 is u us) (h:splC c zs cs (λE=>setK i is (.own v (hl l j.toNat E)) some)=some is') (b:valsR cs=some us:=by exact r) (d:valsR zs=some zv:=by exact r) (k:Ud us.length s=true:=by exact r) (m:Ud zs.length sz=true:=by exact r) (o:Enc.sz α=sz:=by exact r):
    Ef P w0 S0 n fr is ⟨none,.store t x y,ty,pos,aft,gd⟩ (λ_:Unit=>undef) (λ_=>is'):=by
 simp only[Tz]at a;obtain ⟨E,p,B,q⟩:=zuy h d b;have w:=zqL p;cases w;have A:c+us.length<=sz:=by have D:=zrJ b;simp_all
 exact Ef.store_hole i e o a.1 (zQ f).2.2 a.2.1 a.2.2 g k m (Uk A) d q rfl
inductive CelsI (w0:Wo) (S0:J4) (is:J5):J3->List J3->Prop
 | nil:CelsI w0 S0 is [] []
 | cons {v:Va} {us:J3} {Vs:J3} {uss:List J3} :Cel w0 S0 is v us->CelsI w0 S0 is Vs uss->CelsI w0 S0 is (v::Vs) (us::uss)
def CelsI.cels (h:CelsI w0 S0 is Vs uss):Cels w0 S0 is Vs uss:=by
 induction h with
 | nil=>trivial
 | cons a _ ih=>exact ⟨a,ih⟩
def Qc (h:Cel w0 S0 is v us) (a:CelsI w0 S0 is Vs uss):CelsI w0 S0 is (v::Vs) (us::uss):=.cons h a
def Qz:CelsI w0 S0 is [] []:=.nil
def Bk {d:Option Nat} {len:Nat} {z:Va} (cs:List C) (a:elemB P t=some (e,sz,by_)) (c:zeroB P e=some z) (f:partVs fr 0 ps=some Vs) (g:CelsI w0 S0 is Vs uss) (h:Ud Vs.length len=true:=by exact r) (i:uss.all (λus=>Ud us.length sz)=true:=by exact r) (j:Um (len*sz) 16777216=true:=by exact r) (k:Uc 0 sz=true:=by exact r) (l:valsR cs=some uss.flatten:=by exact r):
    Ef P w0 S0 n fr is ⟨d,.buildSlice t len ps.toArray,ty,pos,aft,gd⟩ (λb:Nat=>.slice (some ⟨b,0,none⟩) len len) (λb=>.own (.slice (some ⟨b,0,none⟩) len len) (.sl sz len cs)::is):=Ef.buildSliceR uss cs a c f h i j k g.cels l
def Aw [Enc α] {d:Option Nat} {y:Od} {z:Va} {k q:List α} (D:J4) (c:app by_ l k=some q) (f:elemB P t=some (e,sz,by_)) (g:zeroB P e=some z) (b:(takeP D is,ev fr x,ev fr y)=(some ([.own v (lc l),.own u (lc k)],rest),some v,some u)) (h:Ud z.cells.size sz=true:=by exact r) (i:Enc.sz α=sz:=by exact r):
    Ef P w0 S0 n fr is ⟨d,.call {callee:=.builtin .append,args:=#[x,y],argTypes:=#[t,t]},ty,pos,aft,gd⟩ (λA:Va=>A) (λA=>.own A (lc q)::rest):=by simp only[Tz]at b;intro a w K Q j hs B;exact Ef.appN (is':=rest) _ c f g h i (zlH _) b.2.1 b.2.2 a w K Q j (hs.takeP b.1) B
def Mk [Flat α] {y:Od} {k:Ik} {zv:Va} {len:Int} {c:Nat} (z:α) (b:mkLen by_ len=some c) (d:elemB P t=some (e,sz,by_)) (f:zeroB P e=some zv) (a:(ev fr x,ev fr y)=(some (.int k len),some (.int k' len)):=by exact r) (g:zv.cells=(Flat.vals z).toArray:=by exact r) (h:Enc.sz α=sz:=by exact r):
    Ef P w0 S0 n fr is ⟨dst,.makeSlice t x y,ty,pos,aft,gd⟩ (λv:Va=>v) (λv=>.own v (lc (Ua c z))::is):=by simp only[Tz]at a;exact Ef.make b d f g h a.1 a.2
def M0 [Flat α] {y:Od} {k:Ik} {zv:Va} {len:Int} {c:Nat} (z:α) (b:mkLen by_ len=some c) (d:elemB P t=some (e,sz,by_)) (f:zeroB P e=some zv) (a:(ev fr x,ev fr y)=(some (.int k 0),some (.int k' len)):=by exact r) (g:zv.cells=(Flat.vals z).toArray:=by exact r) (h:Enc.sz α=sz:=by exact r):
    Ef P w0 S0 n fr is ⟨dst,.makeSlice t x y,ty,pos,aft,gd⟩ (λv:Va=>v) (λv=>.own v (lc ([]:List α))::is):=by simp only[Tz]at a;exact Ef.make0 b d f g h a.1 a.2
def fieldTB (P:Pm) (s i:Nat):Option (Nat × Ti):=
 match P.underlying s with
 | some (.struct fs)=>match fs[i]? with
   | some f=>some (f.offset,f.type)
   | none=>none
 | _=>none
def Fy {cs:Array Va} {f A:Nat} (b:fieldTB P s f=some (o,A)) (l:kindB P A=some (ag,sz)) (e:ev fr x=some (.agg cs)) (c:(bif ag then some (Value.agg (cs.extract o (o+sz))) else cs[o]?)=some v):
    Y P w0 S0 n fr is ⟨dst,.field s x f,ty,pos,aft,gd⟩ v:=by
 intro a w g hs;unfold fieldTB at b;split at b
 ·rename_i D h;split at b
  ·rename_i B j;simp only[Uf,Tz]at b;obtain ⟨rfl,rfl⟩:=b;obtain ⟨d,i,p,hi,m,k⟩:=zg9 l;cases ag with
   | true=>simp only[cT,Uf]at c;subst c;simp[execOp,g.eval e,Instr.field,run_underlying h,j,Go.part,k w,sizeOf,typeInfo,hi,m,asAgg]
   | false=>simp only[cF]at c;simp[execOp,g.eval e,Instr.field,run_underlying h,j,Go.part,k w,c,asAgg]
  ·trivial
 ·trivial
end
instance {α:Type} [Enc α]:Enc (Option α):=⟨Enc.sz α,λx=>match x with | some x=>Enc.enc x | none=>Ua (Enc.sz α) .any,λx=>by cases x<;>simp[Enc.len],Enc.pos⟩
def zsy [Enc α] (l:List α):(l.map some).flatMap (Enc.enc (α:=Option α))=l.flatMap Enc.enc:=by
 induction l with
 | nil=>rfl
 | cons x l ih=>rw[Vh,Un,Un,ih];rfl
def zuk [Enc α] (l:List α):lc (l.map some)=lc l:=by unfold lc;rw[zsy,Vc];rfl
def allO {α:Type} :List (Option α)->Option (List α)
 | []=>some []
 | x::l=>x.bind λx=>(allO l).map λl=>x::l
def zqa {α:Type} : ∀{ls:List (Option α)} {l:List α},allO ls=some l->ls=l.map some
 | [],l,h=>by cases h;rfl
 | none::ls,l,h=>by cases h
 | some x::ls,l,h=>by
   simp only[allO,Ux]at h;cases a:allO ls with
   | none=>rw[a]at h;cases h
   | some k=>rw[a]at h;cases h;rw[zqa a];rfl
def zjX {α:Type} : ∀(l:List α),allO (l.map some)=some l
 | []=>rfl
 | x::l=>by simp only[Vh,allO,Ux,zjX l,Uo]
def zgy {z:Option α} {x:α} (h:idx ls i=some z) (a:z=some x):idx ls i=some (some x):=by rw[h,a]
section
variable {pos:String}
def Cd {c:C} (h:Cls cs is ds) (a:goneC c=true:=by exact r):Cls (c::cs) is (.any::ds):=.drop a h
def Hm [Enc α] (A:J4) (a:takeP A is=some ([.own v (lc l)],rest)): ∀w,St w0 S0 is w->St w0 S0 (.own v (lc (l.map some))::rest) w:=by intro w h;rw[zuk];exact h.takeP a
def Hv [Enc α] (A:J4) (a:allO ls=some l) (b:takeP A is=some ([.own v (lc ls)],rest)): ∀w,St w0 S0 is w->St w0 S0 (.own v (lc l)::rest) w:=by intro w h;rw[<-zuk,<-zqa a];exact h.takeP b
def cmpS (s u:J2):Int:=Lib.compareBytes s u
def Es {d:Option Nat} {y:Od} {s u:J2} (e:P.funcs[f]? =some fn) (g:ev fr x=some (strV s)) (h:ev fr y=some (strV u)) (i:(fn.name == "runtime.NumGoroutine")=false:=by kernel_rfl) (j:fn.body.isNone=true:=by kernel_rfl) (k:Extern.findNext fn=none:=by kernel_rfl) (l:Extern.find fn=some Extern.BytealgCompare.compare:=by kernel_rfl):
    Ef P w0 S0 n fr is ⟨d,.call {callee:=.value (.func f),args:=#[x,y],argTypes:=ats},ty,pos,aft,gd⟩ (λ_:Unit=>.int .i64 (cmpS s u)) (λ_=>is):=by
 intro a w K Q b m hK;have o:(execOp a.eval ⟨d,.call {callee:=.value (.func f),args:=#[x,y],argTypes:=ats},ty,pos,aft,gd⟩).run P w= .ok (.value (.int .i64 (cmpS s u))) w:=by have c:=run_callFunc_extern e i j k l #[strV s,strV u] w;have p:(Extern.BytealgCompare.compare #[strV s,strV u]).run P w= .ok (.int .i64 (cmpS s u)) w:=Lib.run_compareString ⟨s.toArray⟩ ⟨u.toArray⟩ w;rw[p]at c;simp only[Result.andThen_ok]at c;have q:a.eval (.func f)= .func (.func f) #[] #[]:=rfl;simp[execOp,resolve,q,Deferred.ofValue,invoke,b.eval g,b.eval h];trivial
 unfold Oper.wp;rw[o];exact hK () w m
def Nc {c:Nat} (b:Can w0 S0 is v (.sl sz' l.length cs')) (d:idx l i=some z) (e:ev fr x=some (elP v c)):
    Y P w0 S0 n fr is ⟨dst,.nilCheck x,ty,pos,aft,gd⟩ (elP v c):=by
 intro a w f hs;obtain ⟨_,g,_⟩:=zQ d;rcases b.row hs with ⟨h,_,rfl⟩ | ⟨j,cap,vs,S,rfl,_⟩
 ·omega
 ·simp[execOp,f.eval e,elP]
def ptrOk (v:Va):Prop:=match v with
 | .slice (some _) _ _=>True
 | _=>False
def zbD (a:Can w0 S0 is v (.sl sz' l.length cs')) (b:idx l i=some z): ∀w,St w0 S0 is w->ptrOk v:=by
 intro w hs;obtain ⟨_,c,_⟩:=zQ b;rcases a.row hs with ⟨d,_,rfl⟩ | ⟨e,cap,vs,S,rfl,_⟩
 ·omega
 ·trivial
def Np {c:Nat} (b:ptrOk v) (d:ev fr x=some (elP v c)):
    Y P w0 S0 n fr is ⟨dst,.nilCheck x,ty,pos,aft,gd⟩ (elP v c):=by
 intro a w e hs;unfold ptrOk at b;split at b
 ·simp[execOp,e.eval d,elP]
 ·trivial
def Fp {f c:Nat} (b:fieldB P s f=some o) (e:ptrOk v) (g:ev fr x=some (elP v (k*sz+c))):
    Y P w0 S0 n fr is ⟨dst,.fieldAddr s x f,ty,pos,aft,gd⟩ (elP v (k*sz+Uw c o)):=by
 intro a w i hs;unfold ptrOk at e;split at e
 ·unfold fieldB at b;split at b
  ·rename_i D j;split at b
   ·rename_i B l;split at b
    ·rename_i A m;cases d:Ud A.size 0 with
     | true=>rw[d]at b;cases b
     | false=>
       rw[d]at b;have p:A.size≠0:=by intro h;rw[h]at d;cases d
       simp only[cF,Uf]at b;simp[execOp,i.eval g,Instr.fieldAt,run_underlying j,l,Instr.sureAddr,fieldPlace,sizeOf,typeInfo,m,p,b,elP,add_add,Nat.add_assoc]
    ·trivial
   ·trivial
  ·trivial
 ·trivial
def mayI [Enc β] (v:Va) (o:Option (List β)):Item:=match o with
 | some l=>.own v (lc l)
 | none=>.ows [] []
def Mb [Enc α] {o:Option (List α)} (A:J4) (a:o=some l) (b:takeP A is=some ([mayI v o],rest)): ∀w,St w0 S0 is w->St w0 S0 (.own v (lc l)::rest) w:=by intro w h;subst a;exact h.takeP b
def Mn: ∀w,St w0 S0 is w->St w0 S0 (.ows [] []::is) w:=by intro w ⟨os,tape,output,size,base,S,hS,a,b⟩;exact ⟨os,tape,output,size,base,S,⟨[],S,rfl,.nil,hS⟩,a,b⟩
def Ows.raws {w:Wo} : ∀{us:J3},(∀u∈us,u.oneCell'=true)->Ows w us (us.map .raw) []
 | [],_=>.nil
 | u::us,h=>.cons u (.raw u) [] us _ [] (.raw u (h u (by simp))) (Ows.raws λv a=>h v (by simp[a]))
def Ow.raws {w:Wo} {v:Va} {sz n:Nat} {pre cs post:List C} {A:J4} (h:Ow w v (.sl sz n (pre++(cs++post))) A):
    ∃(us:J3) (B:J4),us.length=cs.length/\Ow w v (.sl sz n (pre++(us.map .raw++post))) B/\B.Sublist A:=by
 generalize f:pre++(cs++post)=ds at h;cases h with
 | nil=>
   have a:pre= []:=by cases pre<;>simp_all
   have c:cs= []:=by subst a;cases cs<;>simp_all
   have d:post= []:=by subst a c;simpa using f
   subst a c d;exact ⟨[],[],rfl,.nil sz,.slnil⟩
 | row b n cap e sz cur vs _ S g i j hs k l=>
   subst f;obtain ⟨S1,E,rfl,a,c⟩:=l.split;obtain ⟨F,D,rfl,d,m⟩:=c.split;refine ⟨(vs.drop pre.length).take cs.length,b::(S1++([]++D)),d.length,.row b n cap e sz cur vs _ _ g i j hs k ?_,?_⟩
   ·have:=a.append ((Ows.raws d.oneCells).append m)
    rwa [Ug,Ug]at this
   ·simp
def Hw [Enc α] {x:α} (q:Nat) {isf:Tup q->J5} (J:J4) (c:idx l i=some x) (d:takeP J is=some ([.own v (lc l)],rest)) (e: ∀X:Tup q,(.own v (hl l i.toNat ((tupL q X).map .raw))::rest)=isf X) (f:Enc.sz α=q:=by exact r):Gh w0 S0 is isf:=by intro w h;obtain ⟨os,tape,output,size,base,S,E,g,j⟩:=h.takeP d;rw[Uq,znh (zQ c).2.2]at E;obtain ⟨A,B,rfl,F,G⟩:=E;obtain ⟨us,D,k,I,m⟩:=Ow.raws F;obtain ⟨X,rfl⟩:=znu q us (by rw[k,Enc.len,f]);have a:(D++B).Sublist (A++B):=m.append (List.Sublist.refl _);refine ⟨X,?_⟩;rw[<-e X];exact ⟨os,tape,output,size,base,D++B,⟨D,B,rfl,I,G⟩,a.nodup g,λb n=>j b (a.subset n)⟩
def Ows.anys {w:Wo} : ∀{us:J3},(∀u∈us,u.oneCell'=true)->Ows w us (Ua us.length .any) []
 | [],_=>.nil
 | u::us,h=>.cons u .any [] us _ [] (.any u (h u (by simp))) (Ows.anys λv a=>h v (by simp[a]))
theorem Ef.appendV {d:Option Nat} {lo N:Nat} {y:Od} {z:Va} {aq bs:List C} (ks:J4) (W:(k+j)*by_<=140737488355328) (X:k+j<=9223372036854775807) (Y:elemB P t=some (e,sz,by_)) (m:zeroB P e=some z) (Z:Ud z.cells.size sz=true) (a0:Uc 0 sz=true) (hp:pulls ks is=some (.own v (.sl sz k cs):: .own u (.sl sz N (aq++(ds++bs)))::is')) (a1:aq.length=lo*sz) (a2:ds.length=j*sz) (a3:lo+j<=N) (hx:ev fr x=some v) (H:ev fr y=some (subV u sz lo j)):
 Ef P w0 S0 n fr is ⟨d,.call {callee:=.builtin .append,args:=#[x,y],argTypes:=#[t,t]},ty,pos,aft,gd⟩ (λv':Va=>v')
  (λv'=>.own v' (.sl sz (k+j) (cs++ds)):: .own u (.sl sz N (aq++(Ua (j*sz) .any++bs)))::is'):=by
 obtain ⟨I,ti,o,a4,a5⟩:=zA Y;have a6:ti.zero=some z:=by unfold zeroB at m;rw[o]at m;simpa using m
 intro a w K Q J hs hK;have hs':St w0 S0 ([.own v (.sl sz k cs),.own u (.sl sz N (aq++(ds++bs)))]++is') w:=hs.pulls ks hp;have key: ∀A,sats w [.own v (.sl sz k cs),.own u (.sl sz N (aq++(ds++bs)))] A->A.Nodup->
  ∃v' w',(Builtin.append_ #[t,t] ty #[v,subV u sz lo j]).run P w= .ok v' w'/\∃A',Chg w w' A/\sats w' [.own v' (.sl sz (k+j) (cs++ds)),.own u (.sl sz N (aq++(Ua (j*sz) .any++bs)))] A'/\A'.Nodup/\∀b∈A',b∈A\/w.heap.size<=b:=by
  rintro A ⟨A1,A2,rfl,p,A3,A4,rfl,L,h3⟩ s
  rw[show A4= [] from h3,Vd]at s |-
  obtain ⟨us,T1,e1,M,O,rfl⟩:=Ow.ownsRow p
  generalize hG:aq++(ds++bs)=xs at L
  cases L with
  | nil=>
    have hj:j=0:=by omega
    have a7:lo=0:=by omega
    subst hj a7;have a8:ds= []:=List.eq_nil_of_length_eq_zero (by omega);subst a8;have D:=append_none_any (P:=P) (ty:=ty) I o v k us M;refine ⟨v,w,by simpa[subV] using D,(v.ownBlock.toList++T1)++ [],Chg.refl _ _,⟨v.ownBlock.toList++T1,[],rfl,?_,[],[],rfl,?_,rfl⟩,by simpa using s,λb hb=>.inl (by simpa using hb)⟩
    ·simp_all
    ·rw[Nat.zero_mul,List.replicate_zero,hG];exact .nil sz
  | row b n2 cap2 R sz2 cur vs _ T2 E S hm a9 T hr=>
    subst hG;obtain ⟨S1,S23,rfl,F,b0⟩:=hr.split;obtain ⟨S2,S3,rfl,g,l⟩:=b0.split;have hmulN:(lo+j)*sz<=N*sz:=Ut _ a3;rw[Nat.add_mul]at hmulN;have hleN:N*sz<=cap2*sz:=Ut _ S;have b8:vs.length=N*sz:=by rw[<-T,Ul,Array.length_toList];omega
    rw[a1]at F g l;rw[a2]at g l;have G:((vs.drop (lo*sz)).take (j*sz)).length=j*sz:=by rw[Ul,Uy];omega
    have b1: ∀i q,((vs.drop (lo*sz)).take (j*sz))[i]? =some q->w.cell? ((⟨b,lo*sz,none⟩:Addr).add i)=some q:=by
     intro i q c;have hi:i<j*sz:=by rw[<-G];exact (List.getElem?_eq_some_iff.1 c).1
     rw[add_lit,cell_of_row w b (lo*sz+i) cur R (0,0) E];grind
    obtain ⟨adr,b2,b3⟩: ∃adr:Addr,subV (.slice (some ⟨b,0,none⟩) N cap2) sz lo j= .slice (some adr) j (cap2 - lo)/\∀i q,((vs.drop (lo*sz)).take (j*sz))[i]? =some q->w.cell? (adr.add i)=some q:=by
     by_cases U:cap2=lo
     ·refine ⟨⟨b,0,none⟩,by simp only[subV,iP U],λi q c=>?_⟩;grind
     ·refine ⟨⟨b,lo*sz,none⟩,?_,b1⟩;simp only[subV,iN U,Uo,add_lit,Uv]
    rw[b2];obtain ⟨v',w',f,r1,r2,V,r4⟩:=append_raw (P:=P) (ty:=ty) I o a6 a4 a5 (by simpa using Z) (by simpa using a0) M adr j (cap2 - lo) _ G b3 g.oneCells X W;obtain ⟨hndL,hndR,b9⟩:=Uj.1 s;obtain ⟨hndV,hndT,hdisV⟩:=Uj.1 hndL;obtain ⟨c0,hndT2⟩:=List.nodup_cons.1 hndR;have c1:=O.lt;have hltA:=F.lt;have hltB:=g.lt;have hltC:=l.lt;have c2:b<w.heap.size:=(Array.getElem?_eq_some_iff.1 E).1;have h: ∀q∈T1++(b::(S1++(S2++S3))),w'.heap[q]? =w.heap[q]?:=by
     intro q c;refine V.block q ?_ ?_
     ·grind
     ·grind
    have hO1:=O.keep (w':=w') λq c=>h q (Ve.2 (.inl c));have hO2:=g.keep (w':=w') λq c=>h q (by simp[c]);have hO3:=F.keep (w':=w') λq c=>h q (by simp[c]);have hO4:=l.keep (w':=w') λq c=>h q (by simp[c]);have b4:Chg w w' ((v.ownBlock.toList++T1)++(b::(S1++(S2++S3)))):=Chg.of_grown V _ λq c=>by simp only[Ve];exact .inl (.inl c)
    have b5:Ow w' (.slice (some ⟨b,0,none⟩) N cap2) (.sl sz N (aq++(Ua (j*sz) .any++bs))) (b::(S1++S3)):=by refine .row b N cap2 R sz cur vs _ _ ((h b (by simp)).trans E) S hm a9 T ?_;have h7:=hO3.append ((Ows.anys (w:=w') g.oneCells).append hO4);rw[G,Ug,Ug,Vf]at h7;trivial
    refine ⟨v',w',r1,(v'.ownBlock.toList++(T1++S2))++(b::(S1++S3)),b4,⟨_,_,rfl,Ow.of_ownsRow r2 (hO1.append hO2),_,[],by rw[Vd],b5,rfl⟩,?_,?_⟩
    ·have c3: ∀q∈v'.ownBlock.toList,q∈v.ownBlock.toList\/w.heap.size<=q:=r4;have b6:((T1++S2)++(b::(S1++S3))).Nodup:=by
      have c4:(T1++(b::(S1++(S2++S3)))).Perm ((T1++S2)++(b::(S1++S3))):=by grind
      grind
     rw[List.append_assoc];refine Uj.2 ⟨by cases v'.ownBlock<;>simp,b6,?_⟩;intro q c y H e;subst e;have c5:q∈T1++(b::(S1++(S2++S3))):=by grind
     grind
    ·grind
 obtain ⟨SA,hSA⟩:=hs'.own;obtain ⟨A,B,rfl,hA,hB⟩:=zb0.1 hSA.1;obtain ⟨v',w',p,_⟩:=key A hA (Uj.1 hSA.2.1).1;have b7:St w0 S0 ([.own v' (.sl sz (k+j) (cs++ds)),.own u (.sl sz N (aq++(Ua (j*sz) .any++bs)))]++is') w':=hs'.step λA hA hn=>by grind
 have D:(execOp a.eval ⟨d,.call {callee:=.builtin .append,args:=#[x,y],argTypes:=#[t,t]},ty,pos,aft,gd⟩).run P w= .ok (.value v') w':=by simp[execOp,resolve,invoke,builtin,J.eval hx,J.eval H,p]
 unfold Oper.wp;rw[D];exact hK v' w' b7
def cutO (ls:List (Option α)) (lo hi:Int):Option (List α × List (Option α)):=
 if 0<=lo/\lo<=hi/\hi<=ls.length then (allO ((ls.drop lo.toNat).take (hi.toNat - lo.toNat))).map λz=>(z,ls.take lo.toNat++(Ua (hi.toNat - lo.toNat) none++ls.drop hi.toNat)) else none
def zxv {A:List (Option α)} {z:List α} {lo hi:Int} (h:cutO ls lo hi=some (z,A)):
    0<=lo/\lo<=hi/\hi<=ls.length/\(ls.drop lo.toNat).take (hi.toNat - lo.toNat)=z.map some/\A=ls.take lo.toNat++(Ua (hi.toNat - lo.toNat) none++ls.drop hi.toNat):=by
 unfold cutO at h;split at h
 ·rename_i a;cases b:allO ((ls.drop lo.toNat).take (hi.toNat - lo.toNat)) with
  | none=>rw[b]at h;cases h
  | some B=>rw[b]at h;cases h;exact ⟨a.1,a.2.1,a.2.2,zqa b,rfl⟩
 ·cases h
def zwO [Enc α] (k:Nat):(Ua k (none:Option α)).flatMap Enc.enc=Ua (k*Enc.sz α) .any:=by
 induction k with
 | zero=>simp
 | succ k ih=>rw[List.replicate_succ,Un,ih,Nat.succ_mul,Nat.add_comm,<-List.replicate_append_replicate];rfl
theorem Av [Enc α] {d:Option Nat} {y:Od} {z:Va} {g q:List α} {U:List (Option α)} {lo hi:Int} (V:J4) (o:cutO ls lo hi=some (g,U)) (p:app by_ l g=some q) (s:elemB P t=some (e,sz,by_)) (A:zeroB P e=some z) (b:(takeP V is,ev fr x,ev fr y)=(some ([.own v (lc l),.own u (lc ls)],rest),some v,some (subV u sz lo.toNat (hi.toNat - lo.toNat)))) (B:Ud z.cells.size sz=true:=by exact r) (D:Enc.sz α=sz:=by exact r):
 Ef P w0 S0 n fr is ⟨d,.call {callee:=.builtin .append,args:=#[x,y],argTypes:=#[t,t]},ty,pos,aft,gd⟩ (λT:Va=>T) (λT=>.own T (lc q):: .own u (lc U)::rest):=by
 subst D;simp only[Tz]at b;obtain ⟨H,I,J,c,rfl⟩:=zxv o;obtain ⟨rfl,f,h⟩:=zkG p;have i:g.length=hi.toNat - lo.toNat:=by have:=congrArg List.length c;grind
 have E:ls=ls.take lo.toNat++(g.map some++ls.drop hi.toNat):=by
  conv=>lhs;rw[<-Ug lo.toNat ls,<-Ug (hi.toNat - lo.toNat) (ls.drop lo.toNat),c,List.drop_drop]
  grind
 have F:lc ls= .sl (Enc.sz α) ls.length ((ls.take lo.toNat).flatMap Enc.enc++(g.flatMap Enc.enc++(ls.drop hi.toNat).flatMap Enc.enc)):=by
  show C.sl (Enc.sz α) ls.length (ls.flatMap Enc.enc)=_;conv=>lhs;rw[show ls.flatMap (Enc.enc (α:=Option α))=(ls.take lo.toNat++(g.map some++ls.drop hi.toNat)).flatMap Enc.enc from congrArg _ E]
  rw[Ui,Ui,zsy]
 have L:lc (ls.take lo.toNat++(Ua (hi.toNat - lo.toNat) none++ls.drop hi.toNat))= .sl (Enc.sz α) ls.length ((ls.take lo.toNat).flatMap Enc.enc++(Ua ((hi.toNat - lo.toNat)*Enc.sz α) .any++(ls.drop hi.toNat).flatMap Enc.enc)):=by unfold lc;rw[Ui,Ui,zwO,Uu,Uu,Ul,Ur,Uy];rw[show min lo.toNat ls.length+(hi.toNat - lo.toNat+(ls.length - hi.toNat))=ls.length by omega];rfl
 have M:lc (l++g)= .sl (Enc.sz α) (l.length+(hi.toNat - lo.toNat)) (l.flatMap Enc.enc++g.flatMap Enc.enc):=by unfold lc;grind
 rw[i]at f h;intro a w K Q G hs W;have m:=hs.takeP b.1;rw[Uz,Uz,Vf,F]at m;refine Ef.appendV (P:=P) (is':=rest) (by_:=by_) (lo:=lo.toNat) (j:=hi.toNat - lo.toNat) (k:=l.length) (N:=ls.length) _ f h s A B (by simpa using Enc.pos (α:=α)) (zlH _) ?_ ?_ (by omega) b.2.1 b.2.2 a w K Q G m (λT w' O=>?_)
 ·rw[zbh,Ul];show min lo.toNat ls.length*Enc.sz α=_;congr 1;omega
 ·rw[zbh,i]
 ·grind
end
section
theorem A4 (i j k l:Nat) (b:TX P w0 S0 m n fr is H ops fuel L Q i) (c:TX P w0 S0 m n fr is H ops fuel L Q j) (d:TX P w0 S0 m n fr is H ops fuel L Q k) (e:TX P w0 S0 m n fr is H ops fuel L Q l) (a:Region.ready .any ops (bm ops.size L)= [i,j,k,l]:=by kernel_rfl):TA P w0 S0 m n fr is H ops (fuel+1) L Q:=
 TA.all [i,j,k,l] a (by simp) λq f=>by grind
end
section
def Rz:RV P fr is [] []:=trivial
def Rf {val:R->X->Va} {e:Exit} (x:X) (h:J4) (a:RV P fr is fn.results.toList vs) (b:backE e=true:=by exact r) (c:retV vs=val q x:=by exact r) (hi:pulls h is=some (post q x):=by exact r):
    TE w0 S1 (some q) n fr is e (λq=>bodyPost P fn (λe w'=>∃x,e= .returned (val q x)/\St w0 S1 (post q x) w')):=
 TE.leaf λ_ _ d hs=>zuw (by cases e<;>first | exact .inl rfl | exact .inr rfl | cases b) (Us).symm a d hs ⟨x,by rw[c],hs.pulls h hi⟩
end
inductive Tb where
 | e
 | n (k v:Nat) (l r:Tb)
def Tb.get:Tb->Nat->Option Nat
 | .e,_=>none
 | .n k v l r,q=>match Ud q k with
   | true=>some v
   | false=>match Uc q k with
     | true=>l.get q
     | false=>r.get q
def Tb.all (p:Nat->Nat->Bool):Tb->Bool
 | .e=>true
 | .n k v l r=>p k v&&(l.all p&&r.all p)
def Tb.sound {p:Nat->Nat->Bool} : ∀{t:Tb},t.all p=true->∀{q v:Nat},t.get q=some v->p q v=true
 | .e,_,_,_,h=>by cases h
 | .n k v l r,h,q,u,a=>by
   unfold Tb.all at h;simp only[Ub]at h;unfold Tb.get at a;split at a
   ·simp_all
   ·split at a
    ·exact Tb.sound h.2.1 a
    ·exact Tb.sound h.2.2 a
def fldB (P:Pm) (q v:Nat):Bool:=match fieldB P (q / 64) (q % 64) with | some o=>Ud o v | none=>false
def kndB (P:Pm) (q v:Nat):Bool:=match kindB P q with | some (ag,sz)=>(ag == Ud (v % 2) 1)&&Ud sz (v / 2) | none=>false
def eltB (P:Pm) (q v:Nat):Bool:=match elemB P q with | some (_,sz,_)=>Ud sz v | none=>false
class Tab (P:Pm) where
 f:Tb
 k:Tb
 e:Tb
 hf:f.all (fldB P)=true
 hk:k.all (kndB P)=true
 he:e.all (eltB P)=true
def Tab.field [T:Tab P] {i:Nat} (hi:Uc i 64=true) (h:T.f.get (s*64+i)=some o):fieldB P s i=some o:=by
 have:=Tb.sound T.hf h;have a:=zkH.1 hi;unfold fldB at this;rw[show (s*64+i) / 64=s by omega,show (s*64+i) % 64=i by omega]at this;split at this
 ·simp_all
 ·trivial
def Tab.kind [T:Tab P] {c:Nat} (h:T.k.get t=some c):kindB P t=some (Ud (c % 2) 1,c / 2):=by
 have:=Tb.sound T.hk h;unfold kndB at this;split at this
 ·simp_all
 ·trivial
def Tab.elem [T:Tab P] {c:Nat} (h:T.e.get t=some c): ∃e by_,elemB P t=some (e,c,by_):=by
 have:=Tb.sound T.he h;unfold eltB at this;split at this
 ·simp_all
 ·trivial
structure IxF where
 α:Type
 enc:Enc α
 l:List α
 i:Int
 z:α
def IxF.ok (x:IxF):Prop:=idx x.l x.i=some x.z
def IxsOk:List IxF->Prop
 | []=>True
 | x::s=>x.ok/\IxsOk s
def Xz:IxsOk []:=trivial
def Xc [e:Enc α] {s:List IxF} (h:idx l i=some z) (hs:IxsOk s):IxsOk (⟨α,e,l,i,z⟩::s):=⟨h,hs⟩
def IxsOk.get: ∀{s:List IxF} {k:Nat} {x:IxF},IxsOk s->s[k]? =some x->x.ok
 | y::s,0,x,h,a=>by cases a;exact h.1
 | y::s,k+1,x,h,a=>IxsOk.get (s:=s) (k:=k) h.2 (by simpa using a)
def BsOk:List (Bool × Bool)->Prop
 | []=>True
 | (b,c)::s=>b=c/\BsOk s
def BsOk.get: ∀{s:List (Bool × Bool)} {k:Nat} {b c:Bool},BsOk s->s[k]? =some (b,c)->b=c
 | (_,_)::s,0,b,c,h,a=>by cases a;exact h.1
 | (_,_)::s,k+1,b,c,h,a=>BsOk.get (s:=s) (k:=k) h.2 (by simpa using a)
structure Ctx where
 rds:List (Va × C)
 ixs:List IxF
 gs:List (Bool × Bool)
structure Ctx.ok (w0:Wo) (S0:J4) (K:Ctx):Prop where
 rds:BaseR w0 S0 K.rds
 ixs:IxsOk K.ixs
 gs:BsOk K.gs
def Gz:BsOk []:=trivial
def Gc {c:Bool} {s:List (Bool × Bool)} (h:b=c) (hs:BsOk s):BsOk ((b,c)::s):=⟨h,hs⟩
def Bq {c:C} {rds:List (Va × C)} (h:Base w S v c) (hs:BaseR w S rds):BaseR w S ((v,c)::rds):=⟨h,hs⟩
def Kk {rds:List (Va × C)} {xs:List IxF} {gs:List (Bool × Bool)} (a:BaseR w S rds) (b:IxsOk xs) (c:BsOk gs):Ctx.ok w S ⟨rds,xs,gs⟩:=⟨a,b,c⟩
def Kx {rds:List (Va × C)} {xs:List IxF} (a:BaseR w S rds) (b:IxsOk xs):Ctx.ok w S ⟨rds,xs,[]⟩:=⟨a,b,Gz⟩
def Kg {rds:List (Va × C)} {gs:List (Bool × Bool)} (a:BaseR w S rds) (b:BsOk gs):Ctx.ok w S ⟨rds,[],gs⟩:=⟨a,Xz,b⟩
def BaseR.get {w:Wo} {S:J4} : ∀{rds:List (Va × C)} {k:Nat} {v:Va} {c:C},BaseR w S rds->rds[k]? =some (v,c)->Base w S v c
 | (_,_)::s,0,_,_,h,a=>by cases a;exact h.1
 | (_,_)::s,k+1,_,_,h,a=>BaseR.get (rds:=s) (k:=k) h.2 (by simpa using a)
def dat (rds:List (Va × C)) (is:J5) (h:Nat):Option (Va × C):=match Uc h 100 with
 | true=>match is[h]? with
   | some (.own v c)=>some (v,c)
   | _=>none
 | false=>rds[Nat.sub h 100]?
def zhF {rds:List (Va × C)} {h:Nat} {c:C} (b:BaseR w0 S0 rds) (a:dat rds is h=some (v,c)):Can w0 S0 is v c:=by
 unfold dat at a;split at a
 ·split at a
  ·rename_i A c' hi;cases a;exact Oc h hi
  ·trivial
 ·exact (BaseR.get b a).can
def opV (T:Tab P) (K:Ctx) (fr:Fr) (is:J5) (hs:J4) (aq bs:J5):Op->Option (J4 × Va × J5 × J5)
 | .fieldAddr s x f=>match hs with
   | 0::hs=>match ev fr x,Uc f 64,T.f.get (s*64+f) with
     | some (.pointer (some ⟨b,off,none⟩)),true,some o=>some (hs,.pointer (some ⟨b,Uw off o,none⟩),aq,bs)
     | _,_,_=>none
   | (h+1)::j::c::hs=>match dat K.rds is h,K.ixs[j]?,ev fr x,Uc f 64,T.f.get (s*64+f) with
     | some (v,.sl _ m _),some ⟨_,e,l,i,_⟩,some u,true,some o=>some (hs,elP v (i.toNat*e.sz+Uw c o),.own u (.int .i64 m)::aq,.own (elP v (i.toNat*e.sz+c)) (.int .i64 l.length)::bs)
     | _,_,_,_,_=>none
   | _=>none
 | .load t x=>match hs with
   | h::hs=>match Uc h 200,T.k.get t,ev fr x with
     | true,some c,some (.pointer (some ⟨b,off,none⟩))=>match is[h]? with
       | some (.box b' _ vs)=>match partO off (c / 2) (Ud (c % 2) 1) vs with
         | some v=>some (hs,v,.own (pt b) .any::aq,.own (pt b') .any::bs)
         | none=>none
       | _=>none
     | false,some c,some u=>match hs with
       | j::q::hs=>match dat K.rds is (Nat.sub h 200),K.ixs[j]? with
         | some (v,d),some ⟨_,e,l,i,z⟩=>match lelO q (c / 2) (Ud (c % 2) 1) (e.enc z) with
           | some r=>some (hs,r,.own u d::aq,.own (elP v (i.toNat*e.sz+q)) (lc l)::bs)
           | none=>none
         | _,_=>none
       | _=>none
     | _,_,_=>none
   | []=>none
 | .indexAddr t x y=>match hs with
   | h::j::hs=>match dat K.rds is h,K.ixs[j]?,T.e.get t,ev fr x,ev fr y with
     | some (v,.sl _ m _),some ⟨_,_,l,i,_⟩,some sz,some u,some (.int k i')=>some (hs,elP v (i.toNat*sz+0),.own u (.int .i64 m):: .own (.int k i') .any::aq,.own v (.int .i64 l.length):: .own (.int k i) .any::bs)
     | _,_,_,_,_=>none
   | _=>none
 | .call ⟨.builtin .len,⟨[x]⟩,⟨[t]⟩⟩=>match hs with
   | h::hs=>match dat K.rds is h,T.e.get t,ev fr x with
     | some (v,.sl _ m _),some _,some u=>some (hs,.int .i64 (m:Int),.own u .any::aq,.own v .any::bs)
     | _,_,_=>none
   | []=>none
 | .pick c x y=>match hs with
   | g::hs=>match K.gs[g]?,ev fr c with
     | some (b,w),some (.bool b')=>match ev fr (bif w then x else y) with
       | some v=>some (hs,v,.own (.bool b') .any::aq,.own (.bool b) .any::bs)
       | none=>none
     | _,_=>none
   | []=>none
 | o=>match sval fr o with
   | some v=>some (hs,v,aq,bs)
   | none=>none
section
variable {K:Ctx}
def zpy [T:Tab P] (G:K.ok w0 S0) {o:Op} (h:opV T K fr is hs aq bs o=some (hs',v,aq',bs')) (e:aq'=bs'):
    aq=bs/\∀dst ty pos aft gd,Y P w0 S0 n fr is ⟨dst,o,ty,pos,aft,gd⟩ v:=by
 unfold opV at h;split at h
 ·split at h
  ·split at h
   ·rename_i b off O a p q;cases h;exact ⟨e,λdst ty pos aft gd=>Fb (Tab.field p q) a⟩
   ·cases h
  ·split at h
   ·rename_i v sz' I cs' _ e' l i z u O f j a p q;cases h;simp only[Ue,Item.own.injEq,C.int.injEq,true_and,Vi]at e;obtain ⟨⟨rfl,rfl⟩,e⟩:=e;exact ⟨e,λdst ty pos aft gd=>Fe (Tab.field p q) (zhF G.rds f) (G.ixs.get j) a⟩
   ·cases h
  ·cases h
 ·split at h
  ·split at h
   ·rename_i c b off _ g a;split at h
    ·rename_i M bt vs hi;split at h
     ·rename_i u m;cases h;simp only[Ue,Item.own.injEq,Value.pointer.injEq,Uf,Addr.mk.injEq,and_true]at e;obtain ⟨rfl,e⟩:=e;exact ⟨e,λdst ty pos aft gd=>Y.load_box _ (Tab.kind g) hi a (zoI m)⟩
     ·cases h
    ·cases h
   ·rename_i c u _ g a;split at h
    ·split at h
     ·rename_i J d _ e' l i z f j;split at h
      ·rename_i V y;cases h;simp only[Ue,Item.own.injEq]at e;obtain ⟨⟨rfl,rfl⟩,e⟩:=e;exact ⟨e,λdst ty pos aft gd=>Le (Tab.kind g) (zhF G.rds f) (G.ixs.get j) (by rw[a,y]) rfl⟩
      ·cases h
     ·cases h
    ·cases h
   ·cases h
  ·cases h
 ·split at h
  ·split at h
   ·rename_i J sz' I cs' _ e' l i z sz u k U f j hs a A;cases h;simp only[Ue,Item.own.injEq,Value.int.injEq,C.int.injEq,true_and,and_true,Vi]at e;obtain ⟨⟨rfl,rfl⟩,⟨-,rfl⟩,e⟩:=e;obtain ⟨el,by_,s⟩:=Tab.elem hs;exact ⟨e,λdst ty pos aft gd=>Ix s (zhF G.rds f) (G.ixs.get j) (by rw[a,A])⟩
   ·cases h
  ·cases h
 ·split at h
  ·split at h
   ·rename_i J sz' I cs' F u f hs a;cases h;simp only[Ue,Item.own.injEq,and_true]at e;obtain ⟨rfl,e⟩:=e;obtain ⟨el,by_,s⟩:=Tab.elem hs;have B:(Ua I ()).length=I:=Ur;refine ⟨e,λdst ty pos aft gd=>?_⟩;have:=Ln (n:=n) (l:=Ua I ()) (dst:=dst) (ty':=ty) (pos:=pos) (aft:=aft) (gd:=gd) (t:=_) s (by rw[B];exact zhF G.rds f) a;simp_all
   ·cases h
  ·cases h
 ·split at h
  ·split at h
   ·rename_i b w M D g;split at h
    ·rename_i u m;cases h;simp only[Ue,Item.own.injEq,Value.bool.injEq,and_true]at e;obtain ⟨rfl,e⟩:=e;have x:=G.gs.get D;refine ⟨e,λdst ty pos aft gd=>?_⟩;cases w with
     | true=>exact Y.pick_t x g m
     | false=>exact Y.pick_f x g m
    ·cases h
   ·cases h
  ·cases h
 ·split at h
  ·rename_i J E;cases h;exact ⟨e,λ_ _ _ _ _=>Y.sval E⟩
  ·cases h
end
inductive Md where
 | w (c:Code)
 | o (ops:Array Oper) (l:List Oper)
abbrev Ys:=List (Code ⊕ Nat)
variable {ys':Ys}
def yq (P:Pm) {R:Type} :Ys->(R->Exit->Act->Wo->Prop)->R->Exit->Act->Wo->Prop
 | [],Q=>Q
 | .inl y::ys,Q=>λr=>Exit.then (y.wp P (yq P ys Q r)) (yq P ys Q r)
 | .inr id::ys,Q=>λr=>Exit.inBlock id (yq P ys Q r)
def Gl (P:Pm) (w0:Wo) (S0:J4) (m:Option R) (n:Nat) (fr:Fr) (is:J5) (h:Md) (ys:Ys) (Q:R->Exit->Act->Wo->Prop):Prop:=match h with
 | .w c=>TW P w0 S0 m n fr is c (yq P ys Q)
 | .o ops l=>TO P w0 S0 m n fr is ops l (yq P ys Q)
def grd (K:Ctx) (ops:Array Oper) (fr:Fr) (hs:J4) (j:Nat) (want:Bool):Option (J4 × Bool × J5 × J5):=match (ops[j]?).bind (·.dst) with
 | some d=>match lk d fr with
   | some (.bool b)=>match hs with
     | g::hs=>match K.gs[g]? with
       | some (b',w)=>some (hs,w == want,[.own (.bool b) .any],[.own (.bool b') .any])
       | none=>none
     | []=>none
   | _=>none
 | none=>none
def nxt:Ys->Option (Code × Ys)
 | []=>none
 | .inl y::ys=>some (y,ys)
 | .inr _::ys=>nxt ys
def mixK (rds:List (Va × C)) (is:J5):J3->J4->J5->J5->Option (J4 × J5 × J5)
 | [],hs,aq,bs=>some (hs,aq,bs)
 | v::vs,0::hs,aq,bs=>match v.oneCell' with
   | true=>mixK rds is vs hs aq bs
   | false=>none
 | v::vs,(k+1)::hs,aq,bs=>match dat rds is k with
   | some (u,_)=>mixK rds is vs hs (.own v .any::aq) (.own u .any::bs)
   | none=>none
 | _::_,[],_,_=>none
def celK (rds:List (Va × C)) (is:J5) (v:Va) (hs:J4) (aq bs:J5):Nat->Option (J3 × J4 × J5 × J5)
 | 0=>match v.cells.toList.all (·.oneCell') with
   | true=>some (v.cells.toList,hs,aq,bs)
   | false=>none
 | q+1=>match Ud q 998 with
   | false=>match dat rds is q with
     | some (u,_)=>some ([v],hs,.own v .any::aq,.own u .any::bs)
     | none=>none
   | true=>match v with
     | .agg ⟨l⟩=>match mixK rds is l hs aq bs with
       | some (hs,aq,bs)=>some (l,hs,aq,bs)
       | none=>none
     | _=>none
def stoK (T:Tab P) (rds:List (Va × C)) (fr:Fr) (is aq bs:J5) (t:Ti) (x y:Od):J4->Option (J4 × J5 × J5 × J5)
 | h::q::hs=>match is[h]?,T.k.get t,ev fr x,ev fr y with
   | some (.box b bt vs),some c,some (.pointer (some ⟨b',off,none⟩)),some v=>match celK rds is v hs aq bs q with
     | some (us,hs,aq,bs)=>match Ud us.length (c / 2),splK off vs us (λA=>setK h is (.box b bt A) some) with
       | true,some is'=>some (hs,is',.own (pt b') .any::aq,.own (pt b) .any::bs)
       | _,_=>none
     | none=>none
   | _,_,_,_=>none
 | _=>none
section
variable {rds:List (Va × C)}
def zqH (c:BaseR w0 S0 rds): ∀{vs:J3} {hs hs':J4} {aq bs aq' bs':J5},mixK rds is vs hs aq bs=some (hs',aq',bs')->aq'=bs'->aq=bs/\Ones w0 S0 is vs
 | [],_,_,_,_,_,_,h,e=>by cases h;exact ⟨e,trivial⟩
 | v::vs,0::hs,_,_,_,_,_,h,e=>by
   unfold mixK at h;split at h
   ·rename_i d;obtain ⟨a,b⟩:=zqH c h e;exact ⟨a,.plain d,b⟩
   ·cases h
 | v::vs,(k+1)::hs,_,_,_,_,_,h,e=>by
   unfold mixK at h;split at h
   ·rename_i d;obtain ⟨a,b⟩:=zqH c h e;simp only[Ue,Item.own.injEq,and_true]at a;obtain ⟨rfl,a⟩:=a;exact ⟨a,.can (zhF c d),b⟩
   ·cases h
 | _::_,[],_,_,_,_,_,h,_=>by cases h
def zxs (d:BaseR w0 S0 rds) {q:Nat} (h:celK rds is v hs aq bs q=some (us,hs',aq',bs')) (e:aq'=bs'):aq=bs/\Cel w0 S0 is v us:=by
 unfold celK at h;split at h
 ·split at h
  ·rename_i c;cases h;exact ⟨e,Cp (by simp) c⟩
  ·cases h
 ·split at h
  ·split at h
   ·rename_i c;cases h;simp only[Ue,Item.own.injEq,and_true]at e;obtain ⟨rfl,e⟩:=e;exact ⟨e,Cel.one (One.can (zhF d c))⟩
   ·cases h
  ·split at h
   ·split at h
    ·rename_i c;cases h;obtain ⟨a,b⟩:=zqH d c e;exact ⟨a,Ca b⟩
    ·cases h
   ·cases h
def zuz [T:Tab P] (c:BaseR w0 S0 rds) {t:Ti} {y:Od} (h:stoK T rds fr is aq bs t x y hs=some (hs',is',aq',bs')) (e:aq'=bs'):
    aq=bs/\∀ty pos aft gd,Ef P w0 S0 n fr is ⟨none,.store t x y,ty,pos,aft,gd⟩ (λ_:Unit=>undef) (λ_=>is'):=by
 unfold stoK at h;split at h
 ·split at h
  ·rename_i hi d f g;split at h
   ·rename_i i;split at h
    ·rename_i hl hs';cases h;simp only[Ue,Item.own.injEq,Value.pointer.injEq,Uf,Addr.mk.injEq,and_true]at e;obtain ⟨rfl,e⟩:=e;obtain ⟨a,b⟩:=zxs c i e;exact ⟨a,λ_ _ _ _=>Sb _ (Tab.kind d) (by rw[hi,f,g]) b hs' hl⟩
    ·cases h
   ·cases h
  ·cases h
 ·cases h
end
def zs40:J4:=Ua 40 0
def drv {P:Pm} (T:Tab P) (K:Ctx) (n:Nat):Nat->J4->Md->Ys->Fr->J5->J5->J5->Option (Md × Ys × Fr × J5 × J5 × J5)
 | 0,_,md,ys,fr,is,aq,bs=>some (md,ys,fr,is,aq,bs)
 | m+1,hs,.w c,ys,fr,is,aq,bs=>match c with
   | .seq x y=>drv T K n m hs (.w x) (.inl y::ys) fr is aq bs
   | .region _ ⟨l⟩ false=>drv T K n m hs (.o ⟨l⟩ l) ys fr is aq bs
   | .block id c=>drv T K n m hs (.w c) (.inr id::ys) fr is aq bs
   | .skip=>match nxt ys with
     | some (y,ys)=>drv T K n m hs (.w y) ys fr is aq bs
     | none=>none
   | _=>none
 | m+1,hs,.o ops l,ys,fr,is,aq,bs=>match l with
   | []=>match nxt ys with
     | some (y,ys)=>drv T K n m hs (.w y) ys fr is aq bs
     | none=>none
   | ⟨some d,o,_,_,_,none⟩::l=>match Uc d n with
     | true=>match opV T K fr is hs aq bs o with
       | some (hs,v,aq,bs)=>drv T K n m hs (.o ops l) ys ((d,v)::fr) is aq bs
       | none=>none
     | false=>none
   | ⟨some d,o,_,_,_,some (j,want)⟩::l=>match Uc d n,grd K ops fr hs j want with
     | true,some (hs,true,a,b)=>match opV T K fr is hs (a++aq) (b++bs) o with
       | some (hs,v,aq,bs)=>drv T K n m hs (.o ops l) ys ((d,v)::fr) is aq bs
       | none=>none
     | true,some (hs,false,a,b)=>drv T K n m hs (.o ops l) ys ((d,undef)::fr) is (a++aq) (b++bs)
     | _,_=>none
   | ⟨none,.store t x y,_,_,_,none⟩::l=>match stoK T K.rds fr is aq bs t x y hs with
     | some (hs,is',aq,bs)=>drv T K n m hs (.o ops l) ys fr is' aq bs
     | none=>none
   | _=>none
section
variable {K:Ctx} {mm:Option R}
def zyd {q:Bool} {a b:J5} (c:BsOk K.gs) (h:grd K ops fr hs j want=some (hs',q,a,b)):a=b->∀o:Oper,o.guard=some (j,want)->Gd ops fr o q:=by
 unfold grd at h;split at h
 ·rename_i d f;split at h
  ·rename_i g i;split at h
   ·split at h
    ·rename_i A w k;cases h;intro e o l;simp only[Ue,Item.own.injEq,Value.bool.injEq,and_true]at e;subst e;have:=c.get k;subst this;exact Gd.at j want d g l f i rfl
    ·cases h
   ·cases h
  ·cases h
 ·cases h
theorem zng {q:Bool} {a b:J5} (c:BsOk K.gs) (h:grd K ops fr hs j want=some (hs',q,a,b)) (e:a++aq=b++bs):aq=bs/\∀o:Oper,o.guard=some (j,want)->Gd ops fr o q:=by
 have hl:a.length=b.length:=by
  unfold grd at h;repeat' split at h
  all_goals grind
 obtain ⟨d,f⟩:=List.append_inj e hl;exact ⟨f,zyd c h d⟩
def zsV {fr:Fr} {is:J5} {y:Code} : ∀{ys ys':Ys},nxt ys=some (y,ys')->TW P w0 S0 mm n fr is y (yq P ys' Q)->TE w0 S0 mm n fr is .normal (yq P ys Q)
 | [],_,h,_=>by cases h
 | .inl _::_,_,h,g=>by cases h;exact TE.next g
 | .inr _::ys,_,h,g=>TE.block_normal (zsV (ys:=ys) h g)
def zsx [T:Tab P] (B:K.ok w0 S0): ∀(m:Nat) (hs:J4) (D:Md) (ys:Ys) (fr:Fr) (is aq bs:J5) {A:Md} {ys':Ys} {fr':Fr} {is' aq' bs':J5},drv T K n m hs D ys fr is aq bs=some (A,ys',fr',is',aq',bs')->
    aq'=bs'->aq=bs/\(Gl P w0 S0 mm n fr' is' A ys' Q->Gl P w0 S0 mm n fr is D ys Q):=by
 intro m;induction m with
 | zero=>intro hs D ys fr is aq bs A ys' fr' is' aq' bs' h e;cases h;exact ⟨e,id⟩
 | succ m ih=>
   intro hs D ys fr is aq bs A ys' fr' is' aq' bs' h e;cases D with
   | w c=>
     unfold drv at h;split at h
     ·obtain ⟨a,b⟩:=ih _ _ _ _ _ _ _ h e;exact ⟨a,λg=>Sq (b g)⟩
     ·obtain ⟨a,b⟩:=ih _ _ _ _ _ _ _ h e;exact ⟨a,λg=>Rg (b g)⟩
     ·obtain ⟨a,b⟩:=ih _ _ _ _ _ _ _ h e;exact ⟨a,λg=>Wb (b g)⟩
     ·split at h
      ·rename_i k;obtain ⟨a,b⟩:=ih _ _ _ _ _ _ _ h e;exact ⟨a,λg=>Sk (zsV k (b g))⟩
      ·cases h
     ·cases h
   | o ops l=>
     unfold drv at h;split at h
     ·split at h
      ·rename_i k;obtain ⟨a,b⟩:=ih _ _ _ _ _ _ _ h e;exact ⟨a,λg=>TO.nil (zsV k (b g))⟩
      ·cases h
     ·split at h
      ·rename_i d;split at h
       ·rename_i p;obtain ⟨a,b⟩:=ih _ _ _ _ _ _ _ h e;obtain ⟨f,i⟩:=zpy (n:=n) B p a;exact ⟨f,λg=>TO.y (i _ _ _ _ _) rfl rfl d (b g)⟩
       ·cases h
      ·cases h
     ·split at h
      ·rename_i d q;split at h
       ·rename_i p;obtain ⟨a,b⟩:=ih _ _ _ _ _ _ _ h e;obtain ⟨f,i⟩:=zpy (n:=n) B p a;obtain ⟨j,s⟩:=zng B.gs q f;exact ⟨j,λg=>TO.y (i _ _ _ _ _) (s _ rfl) rfl d (b g)⟩
       ·cases h
      ·rename_i d q;obtain ⟨a,b⟩:=ih _ _ _ _ _ _ _ h e;obtain ⟨j,s⟩:=zng B.gs q a;exact ⟨j,λg=>TO.off (s _ rfl) rfl d (b g)⟩
      ·cases h
     ·split at h
      ·rename_i f;obtain ⟨a,b⟩:=ih _ _ _ _ _ _ _ h e;obtain ⟨i,j⟩:=zuz (n:=n) B.rds f a;exact ⟨i,λg=>TO.ef0 (j _ _ _ _) rfl rfl λ_=>b g⟩
      ·cases h
     ·cases h
def Vw [T:Tab P] (A:K.ok w0 S0) (k:Nat) (hs:J4) (a:drv T K n k (hs++zs40) (.w c) [] fr is [] []=some (.w c',ys',fr',is',aq,aq)) (h:TW P w0 S0 mm n fr' is' c' (yq P ys' Q)):TW P w0 S0 mm n fr is c Q:=
 (zsx A k (hs++zs40) _ _ _ _ _ _ a rfl).2 h
def Vt [T:Tab P] (A:K.ok w0 S0) (k:Nat) (hs:J4) (a:drv T K n k (hs++zs40) (.w c) [] fr is [] []=some (.o ops' l',ys',fr',is',aq,aq)) (h:TO P w0 S0 mm n fr' is' ops' l' (yq P ys' Q)):TW P w0 S0 mm n fr is c Q:=
 (zsx A k (hs++zs40) _ _ _ _ _ _ a rfl).2 h
def Vv [T:Tab P] (A:K.ok w0 S0) (k:Nat) (hs:J4) {l:List Oper} (a:drv T K n k (hs++zs40) (.o ops l) [] fr is [] []=some (.o ops' l',ys',fr',is',aq,aq)) (h:TO P w0 S0 mm n fr' is' ops' l' (yq P ys' Q)):TO P w0 S0 mm n fr is ops l Q:=
 (zsx A k (hs++zs40) _ _ _ _ _ _ a rfl).2 h
variable {rds:List (Va × C)}
def Dw [T:Tab P] (Z:BaseR w0 S0 rds) (k:Nat) (hs:J4) (a:drv T ⟨rds,[],[]⟩ n k (hs++zs40) (.w c) [] fr is [] []=some (.w c',ys',fr',is',aq,aq)) (h:TW P w0 S0 mm n fr' is' c' (yq P ys' Q)):TW P w0 S0 mm n fr is c Q:=Vw (Kx Z Xz) k hs a h
def Dt [T:Tab P] (Z:BaseR w0 S0 rds) (k:Nat) (hs:J4) (a:drv T ⟨rds,[],[]⟩ n k (hs++zs40) (.w c) [] fr is [] []=some (.o ops' l',ys',fr',is',aq,aq)) (h:TO P w0 S0 mm n fr' is' ops' l' (yq P ys' Q)):TW P w0 S0 mm n fr is c Q:=Vt (Kx Z Xz) k hs a h
def Dv [T:Tab P] (Z:BaseR w0 S0 rds) (k:Nat) (hs:J4) {l:List Oper} (a:drv T ⟨rds,[],[]⟩ n k (hs++zs40) (.o ops l) [] fr is [] []=some (.o ops' l',ys',fr',is',aq,aq)) (h:TO P w0 S0 mm n fr' is' ops' l' (yq P ys' Q)):TO P w0 S0 mm n fr is ops l Q:=Vv (Kx Z Xz) k hs a h
def Zw [T:Tab P] (Z:BaseR w0 S0 rds) (k:Nat) (a:drv T ⟨rds,[],[]⟩ n k zs40 (.w c) [] fr is [] []=some (.w c',ys',fr',is',aq,aq)) (h:TW P w0 S0 mm n fr' is' c' (yq P ys' Q)):TW P w0 S0 mm n fr is c Q:=Dw Z k [] a h
def Zt [T:Tab P] (Z:BaseR w0 S0 rds) (k:Nat) (a:drv T ⟨rds,[],[]⟩ n k zs40 (.w c) [] fr is [] []=some (.o ops' l',ys',fr',is',aq,aq)) (h:TO P w0 S0 mm n fr' is' ops' l' (yq P ys' Q)):TW P w0 S0 mm n fr is c Q:=Dt Z k [] a h
def Zv [T:Tab P] (Z:BaseR w0 S0 rds) (k:Nat) {l:List Oper} (a:drv T ⟨rds,[],[]⟩ n k zs40 (.o ops l) [] fr is [] []=some (.o ops' l',ys',fr',is',aq,aq)) (h:TO P w0 S0 mm n fr' is' ops' l' (yq P ys' Q)):TO P w0 S0 mm n fr is ops l Q:=Dv Z k [] a h
def Vg [T:Tab P] (Z:BaseR w0 S0 rds) {c:Bool} (a:b=c) (k:Nat) (hs:J4) {l:List Oper} (d:drv T ⟨rds,[],[(b,c)]⟩ n k (hs++zs40) (.o ops l) [] fr is [] []=some (.o ops' l',ys',fr',is',aq,aq)) (h:TO P w0 S0 mm n fr' is' ops' l' (yq P ys' Q)):TO P w0 S0 mm n fr is ops l Q:=Vv (Kg Z (Gc a Gz)) k hs d h
def Vx [T:Tab P] (Z:BaseR w0 S0 rds) [E:Enc α] {x:List α} (a:idx x i=some z) (k:Nat) (hs:J4) {l:List Oper} (b:drv T ⟨rds,[⟨α,E,x,i,z⟩],[]⟩ n k (hs++zs40) (.o ops l) [] fr is [] []=some (.o ops' l',ys',fr',is',aq,aq)) (h:TO P w0 S0 mm n fr' is' ops' l' (yq P ys' Q)):TO P w0 S0 mm n fr is ops l Q:=Vv (Kx Z (Xc a Xz)) k hs b h
def Vk [T:Tab P] (Z:BaseR w0 S0 rds) [E:Enc α] {x:List α} (a:idx x i=some z) {c:Bool} (e:b=c) (k:Nat) (hs:J4) {l:List Oper} (d:drv T ⟨rds,[⟨α,E,x,i,z⟩],[(b,c)]⟩ n k (hs++zs40) (.o ops l) [] fr is [] []=some (.o ops' l',ys',fr',is',aq,aq)) (h:TO P w0 S0 mm n fr' is' ops' l' (yq P ys' Q)):TO P w0 S0 mm n fr is ops l Q:=Vv (Kk Z (Xc a Xz) (Gc e Gz)) k hs d h
def Sj [T:Tab P] (Z:BaseR w0 S0 rds) (hs:J4) {t:Ti} {y:Od} {pos:String} (a:stoK T rds fr is [] [] t x y (hs++zs40)=some (hs',is',aq,aq)):Ef P w0 S0 n fr is ⟨none,.store t x y,ty,pos,aft,gd⟩ (λ_:Unit=>undef) (λ_=>is'):=(zuz Z a rfl).2 _ _ _ _
end
def drvA {P:Pm} (T:Tab P) (K:Ctx) (n:Nat) (ops:Array Oper) (H:Hd):J4->J4->J4->Fr->J5->J5->Option (Fr × J5 × J5)
 | [],_,_,fr,aq,bs=>some (fr,aq,bs)
 | i::js,Bs,hs,fr,aq,bs=>match ops[i]? with
   | some ⟨some d,o,_,_,_,none⟩=>match Uc d n,opV T K fr (hb' ops.size (Bs.headD 0) H) hs aq bs o with
     | true,some (hs,v,aq,bs)=>drvA T K n ops H js Bs.tail hs ((d,v)::fr) aq bs
     | _,_=>none
   | some ⟨some d,o,_,_,_,some (j,want)⟩=>match Uc d n,grd K ops fr hs j want with
     | true,some (hs,true,a,b)=>match opV T K fr (hb' ops.size (Bs.headD 0) H) hs (a++aq) (b++bs) o with
       | some (hs,v,aq,bs)=>drvA T K n ops H js Bs.tail hs ((d,v)::fr) aq bs
       | none=>none
     | true,some (hs,false,a,b)=>drvA T K n ops H js Bs.tail hs ((d,undef)::fr) (a++aq) (b++bs)
     | _,_=>none
   | _=>none
def bdry (ops:Array Oper):J4->J4->Nat->Bool
 | [],_,_=>true
 | i::s,Bs,L=>rdyB ops i L (Bs.headD 0)&&(rdyB ops i L 0&&bdry ops s Bs.tail (L ||| 2 ^ i))
section
variable {K:Ctx} {mm:Option R}
def zne [T:Tab P] (B:K.ok w0 S0): ∀(js Bs hs:J4) (fr:Fr) (aq bs:J5) (fuel2 L:Nat) {fr':Fr} {aq' bs':J5},drvA T K n ops H js Bs hs fr aq bs=some (fr',aq',bs')->decF js fuel2=some fuel->bdry ops js Bs L=true->anob H js=true->
    sfx is (hl' ops.size L H)=hl' ops.size L H->aq'=bs'->aq=bs/\(TA P w0 S0 mm n fr' is H ops fuel (abits js L) Q->TA P w0 S0 mm n fr is H ops fuel2 L Q)
 | [],_,_,_,_,_,_,_,_,_,_,h,b,_,_,_,e=>by cases h;cases b;exact ⟨e,id⟩
 | i::js,Bs,hs,fr,aq,bs,fuel2,L,_,_,_,h,b,c,a,hH,e=>by
   unfold bdry at c
   unfold anob at a
   simp only[Ub]at c a
   obtain ⟨f,rfl,b⟩: ∃f,fuel2=f+1/\decF js f=some fuel:=by
    cases fuel2 with
    | zero=>cases b
    | succ f=>exact ⟨f,rfl,b⟩
   have A:sfx is (hl' ops.size (L ||| 2 ^ i) H)=hl' ops.size (L ||| 2 ^ i) H:=by rw[hl_or a.1];exact hH
   unfold drvA at h
   split at h
   ·rename_i hi
    split at h
    ·rename_i d l
     obtain ⟨j,k⟩:=zne B js _ _ _ _ _ f _ h b c.2.2 a.2 A e
     obtain ⟨m,o⟩:=zpy (n:=n) B l j
     exact ⟨m,λg=>TA.y i _ hi (o _ _ _ _ _) rfl rfl d c.1 a.1 hH (k g)⟩
    ·cases h
   ·rename_i hi
    split at h
    ·rename_i d p
     split at h
     ·rename_i l
      obtain ⟨j,k⟩:=zne B js _ _ _ _ _ f _ h b c.2.2 a.2 A e
      obtain ⟨m,o⟩:=zpy (n:=n) B l j
      obtain ⟨q,s⟩:=zng B.gs p m
      exact ⟨q,λg=>TA.y i _ hi (o _ _ _ _ _) (s _ rfl) rfl d c.1 a.1 hH (k g)⟩
     ·cases h
    ·rename_i d p
     obtain ⟨j,k⟩:=zne B js _ _ _ _ _ f _ h b c.2.2 a.2 A e
     obtain ⟨q,s⟩:=zng B.gs p j
     exact ⟨q,λg=>TA.off i hi (s _ rfl) rfl d c.2.1 a.1 hH (k g)⟩
    ·cases h
   ·cases h
def Ak [T:Tab P] (B:K.ok w0 S0) (js Bs hs:J4) (a:(drvA T K n ops H js Bs (hs++zs40) fr [] [],decF js fuel2)=(some (fr',aq,aq),some fuel)) (h:TA P w0 S0 mm n fr' is H ops fuel (abits js L) Q) (A:sfx is (hl' ops.size L H)=hl' ops.size L H:=by exact r) (b:bdry ops js Bs L=true:=by kernel_rfl) (c:anob H js=true:=by exact r):TA P w0 S0 mm n fr is H ops fuel2 L Q:=by simp only[Tz]at a;exact (zne B js Bs (hs++zs40) fr [] [] fuel2 L a.1 a.2 b c A rfl).2 h
def Aj [T:Tab P] {rds:List (Va × C)} (Z:BaseR w0 S0 rds) (js Bs hs:J4) (a:(drvA T ⟨rds,[],[]⟩ n ops H js Bs (hs++zs40) fr [] [],decF js fuel2)=(some (fr',aq,aq),some fuel)) (h:TA P w0 S0 mm n fr' is H ops fuel (abits js L) Q) (A:sfx is (hl' ops.size L H)=hl' ops.size L H:=by exact r) (b:bdry ops js Bs L=true:=by kernel_rfl) (c:anob H js=true:=by exact r):TA P w0 S0 mm n fr is H ops fuel2 L Q:=Ak (Kx Z Xz) js Bs hs a h A b c
variable {rds:List (Va × C)}
def Ah [T:Tab P] (Z:BaseR w0 S0 rds) {c:Bool} (a:b=c) (js Bs hs:J4) (d:(drvA T ⟨rds,[],[(b,c)]⟩ n ops H js Bs (hs++zs40) fr [] [],decF js fuel2)=(some (fr',aq,aq),some fuel)) (h:TA P w0 S0 mm n fr' is H ops fuel (abits js L) Q) (A:sfx is (hl' ops.size L H)=hl' ops.size L H:=by exact r) (e:bdry ops js Bs L=true:=by kernel_rfl) (f:anob H js=true:=by exact r):TA P w0 S0 mm n fr is H ops fuel2 L Q:=Ak (Kg Z (Gc a Gz)) js Bs hs d h A e f
def Ae [T:Tab P] (Z:BaseR w0 S0 rds) [E:Enc α] {x:List α} (a:idx x i=some z) (js Bs hs:J4) (b:(drvA T ⟨rds,[⟨α,E,x,i,z⟩],[]⟩ n ops H js Bs (hs++zs40) fr [] [],decF js fuel2)=(some (fr',aq,aq),some fuel)) (h:TA P w0 S0 mm n fr' is H ops fuel (abits js L) Q) (A:sfx is (hl' ops.size L H)=hl' ops.size L H:=by exact r) (c:bdry ops js Bs L=true:=by kernel_rfl) (d:anob H js=true:=by exact r):TA P w0 S0 mm n fr is H ops fuel2 L Q:=Ak (Kx Z (Xc a Xz)) js Bs hs b h A c d
def Ao [T:Tab P] (Z:BaseR w0 S0 rds) [E:Enc α] {x:List α} (a:idx x i=some z) {c:Bool} (e:b=c) (js Bs hs:J4) (d:(drvA T ⟨rds,[⟨α,E,x,i,z⟩],[(b,c)]⟩ n ops H js Bs (hs++zs40) fr [] [],decF js fuel2)=(some (fr',aq,aq),some fuel)) (h:TA P w0 S0 mm n fr' is H ops fuel (abits js L) Q) (A:sfx is (hl' ops.size L H)=hl' ops.size L H:=by exact r) (f:bdry ops js Bs L=true:=by kernel_rfl) (g:anob H js=true:=by exact r):TA P w0 S0 mm n fr is H ops fuel2 L Q:=Ak (Kk Z (Xc a Xz) (Gc e Gz)) js Bs hs d h A f g
end
def canK (rds:List (Va × C)) (is:J5):J4->Option (List (Va × C))
 | []=>some []
 | q::qs=>match dat rds is q,canK rds is qs with
   | some p,some ps=>some (p::ps)
   | _,_=>none
def zt3 {w0:Wo} {S0:J4} {rds:List (Va × C)} {is:J5} (a:BaseR w0 S0 rds): ∀{qs:J4} {ps:List (Va × C)},canK rds is qs=some ps->Cans w0 S0 is ps
 | [],_,h=>by cases h;trivial
 | q::qs,_,h=>by
   unfold canK at h;split at h
   ·rename_i p ps b c;cases h;exact ⟨zhF a b,zt3 a c⟩
   ·cases h
section
def Cc {B:Type} {mm:Option B} {k:B->Option R} {val:B->X->Va} {post is':B->X->J5} {A rds:List (Va × C)} {pos:String} {l:List Oper} (Z:BaseR w0 S0 A) (D qs:J4) (b:Cn P f args pre rds mm val post) (c:(evs fr os,takeP D is)=(some args,some (pre,rest))) (e: ∀q x,appK (post q x) rest some=some (is' q x)) (h: ∀q,mm=some q->∀x,TO P w0 S0 (k q) n ((d,val q x)::fr) (is' q x) ops l Q) (g:canK A rest qs=some rds:=by exact r) (i:Uc d n=true:=by exact r):
    TO P w0 S0 (mm.bind k) n fr is ops (⟨some d,.call {callee:=.value (.func f),args:=os.toArray,argTypes:=ats},ty,pos,aft,none⟩::l) Q:=
 Bi λq a=>TO.ef (Cl D b a c (e q) (zt3 Z g)) rfl rfl i (h q a)
def Ch0 {rds:List (Va × C)} {val:R->X->Va} (b:P.funcs[f]? =some fn) (a:(fn.body,fn.ntmps)=(some c,k)) (h: ∀w S,BaseR w S rds->TW P w S m k (argFr 0 args) pre c (λq=>bodyPost P fn (λe w'=>∃x,e= .returned (val q x)/\St w S (post q x) w'))) (hl:Um args.length k=true:=by exact r) (hN:(fn.name != "runtime.NumGoroutine")=true:=by exact r):Cn P f args pre rds m val post:=by simp only[Tz]at a;exact Ci b a.1 a.2 h hl hN
def Ch {rds:List (Va × C)} {val:R->X->Va} (a:((P.funcs[f]?).map λq=>(q,q.body,q.ntmps))=some (fn,some c,k)) (h: ∀{w S},BaseR w S rds->TW P w S m k (argFr 0 args) pre c (λq=>bodyPost P fn (λe w'=>∃x,e= .returned (val q x)/\St w S (post q x) w'))) (hl:Um args.length k=true:=by exact r) (hN:(fn.name != "runtime.NumGoroutine")=true:=by exact r):Cn P f args pre rds m val post:=by
 cases b:P.funcs[f]? with
 | none=>rw[b]at a;cases a
 | some q=>rw[b]at a;simp only[Uo,Uf,Tz]at a;obtain ⟨rfl,d,g⟩:=a;exact Ci b d g (λ_ _=>h) hl hN
end
def Bj [Enc α] {x:α} {d:C} (c:Nat) (a:Base w S v (lc l)) (b:idx l i=some x) (e:(Enc.enc x)[c]? =some d):Base w S (elv w v (i.toNat*Enc.sz α+c)) d:=Base.el a (zQ b).2.2 rfl e
def rvK {P:Pm} (T:Tab P) (fr:Fr) (is:J5):List ResultVar->J4->Option (J3 × J5 × J5)
 | [],_=>some ([],[],[])
 | .tmp t::r,hs=>match lk t fr,rvK T fr is r hs with
   | some v,some (vs,aq,bs)=>some (v::vs,aq,bs)
   | _,_=>none
 | .cell p t::r,i::hs=>match is[i]?,lk p fr,T.k.get t,rvK T fr is r hs with
   | some (.box b _ us),some (.pointer (some ⟨b',off,none⟩)),some c,some (vs,aq,bs)=>match partO off (c / 2) (Ud (c % 2) 1) us with
     | some v=>some (v::vs,.own (pt b') .any::aq,.own (pt b) .any::bs)
     | none=>none
   | _,_,_,_=>none
 | .cell _ _::_,[]=>none
def zs6 {P:Pm} {T:Tab P} {fr:Fr} {is:J5} : ∀{A:List ResultVar} {hs:J4} {vs:J3} {aq bs:J5},rvK T fr is A hs=some (vs,aq,bs)->aq=bs->RV P fr is A vs
 | [],_,_,_,_,h,_=>by cases h;trivial
 | .tmp t::r,hs,_,_,_,h,e=>by
   unfold rvK at h;split at h
   ·rename_i v vs aq bs a d;cases h;exact ⟨a,zs6 d e⟩
   ·cases h
 | .cell p t::r,i::hs,_,_,_,h,e=>by
   unfold rvK at h;split at h
   ·rename_i b bt us B off c vs aq bs a d f g;split at h
    ·rename_i v j;cases h;simp only[Ue,Item.own.injEq,Value.pointer.injEq,Uf,Addr.mk.injEq,and_true]at e;obtain ⟨rfl,e⟩:=e;exact RV.cell i a d (Tab.kind f) (zoI j) (zs6 g e)
    ·cases h
   ·cases h
 | .cell _ _::_,[],_,_,_,h,_=>by cases h
section
def Rj [T:Tab P] {val:R->X->Va} {e:Exit} (x:X) (h hs:J4) (a:rvK T fr is fn.results.toList hs=some (vs,aq,aq)) (b:backE e=true:=by exact r) (c:retV vs=val q x:=by exact r) (hi:pulls h is=some (post q x):=by exact r):
    TE w0 S1 (some q) n fr is e (λq=>bodyPost P fn (λe w'=>∃x,e= .returned (val q x)/\St w0 S1 (post q x) w')):=Rf x h (zs6 a rfl) b c hi
end
section
def Fa {z:Va} {zs:J3} {pos:String} {l:List Oper} (a:zeroB P t=some z) (c:z.cells=zs.toArray) (h: ∀b:Nat,TO P w0 S0 m n ((d,.pointer (some ⟨b,0,none⟩))::fr) (.box b t zs::is) ops l Q) (e:Uc d n=true:=by exact r):TO P w0 S0 m n fr is ops (⟨some d,.alloc t,ty,pos,aft,none⟩::l) Q:=Fo (Al a c) h e
def Qo {l:List Oper} (a:qrun n 1 l fr=some (l',fr')) (h:TO P w0 S0 m n fr' is ops l' Q):TO P w0 S0 m n fr is ops l Q:=Qs 1 a h
def Qn {l:List Oper} {y:Code} (a:qrun n 1 l fr=some ([],fr')) (h:TW P w0 S0 m n fr' is y Q):TO P w0 S0 m n fr is ops l (λr=>Exit.then (y.wp P (Q r)) (Q' r)):=Qs 1 a (Nx h)
def Wv {Q':R->Act->Wo->Prop} (h:TE w0 S0 m n fr is .ret Q):TW P w0 S0 m n fr is .ret (λr=>Exit.then (Q' r) (Q r)):=Wr (Tr h)
def We {I:σ->Act->Wo->Prop} {id:Nat} {Q':Ctl σ R->Act->Wo->Prop} (h:TE w0 S0 (some q) n fr is .normal Q):
    TW P w0 S0 (some (Ctl.done q)) n fr is (.exit id) (λr=>Exit.then (Q' r) (lp I (λr=>Exit.inBlock id (Q r)) r)):=Wx (Tx (Ex (Be h)))
def Bu {I:σ->Act->Wo->Prop} {M:τ->Act->Wo->Prop} {id A:Nat} {B:Ctl σ (Ctl τ R)->Act->Wo->Prop} {D:R->Act->Wo->Prop} (h:TE w0 S0 (some q) n fr is .ret Q):
    TE w0 S0 (some (Ctl.done (Ctl.done q))) n fr is .ret (λr=>Exit.inBlock id (Exit.then (B r) (lp I (λr=>Exit.inBlock A (jn M (λr=>Exit.then (D r) (Q r)) r)) r))):=Br (Tr (Er (Br (Jd (Tr h)))))
def Rq {val:R->Unit->Va} {post:R->Unit->J5} {e:Exit} {h:J4} (a:backE e=true:=by exact r) (b:resT fn.results.toList=some h:=by exact r) (c:lks fr h=some vs:=by exact r) (d:retV vs=val q ():=by exact r) (hi:some []=some (post q ()):=by exact r):
    TE w0 S1 (some q) n fr is e (λq=>bodyPost P fn (λe w'=>∃x,e= .returned (val q x)/\St w0 S1 (post q x) w')):=Re () [] a b c d hi
def Jq {frf:τ->Unit->Fr} {isf:τ->Unit->J5} {t:τ} (a:some []=some (isf t ()):=by exact r) (b:Sub (frf t ()) fr:=by repeat (first | refine ⟨r,?_⟩ | exact trivial)):
    TE w0 S0 (some (.go t)) n fr is .normal (jn (Mid w0 S0 n frf isf) Q):=Jg () [] a b
def Bv {frf:τ->Unit->Fr} {isf:τ->Unit->J5} {t:τ} (a:some []=some (isf t ()):=by exact r) (b:Sub (frf t ()) fr:=by repeat (first | refine ⟨r,?_⟩ | exact trivial)):
    TE w0 S0 (some t) n fr is .normal (jb (Mid w0 S0 n frf isf)):=Bg () [] a b
def Lq {Q:ρ->Exit->Act->Wo->Prop} {frf:σ->Unit->Fr} {isf:σ->Unit->J5} {t:σ} (a:some []=some (isf t ()):=by exact r) (b:Sub (frf t ()) fr:=by repeat (first | refine ⟨r,?_⟩ | exact trivial)):
    TE w0 S0 (some (.go t)) n fr is .normal (lp (Mid w0 S0 n frf isf) Q):=Lg () [] a b
def Dz {id:Nat} (k:Nat) (A bs:J4) (a:heldK (A++Ua (k - A.length) 0) (bs++Ua (k - bs.length) 999) is=some (is',H)) (b:P.follows .mixedOrders=true) (h:TA P w0 S0 m n fr is' H ops ops.size 0 Q):
    TW P w0 S0 m n fr is (.region id ops true) Q:=Dr _ _ a b h
end
end Go.Proofs.YtblaakdafebglaaGreat.Sl
end
section
open Option renaming bind->Bb
open Decidable renaming decide->Dc
open List renaming replicate->Ih
open Int renaming tmod->Ii,tdiv->Il
noncomputable section
open Go.Proofs.Tryz renaming prog->Pg
open Go renaming Value->Va,FuncId->Wo
namespace Go.Proofs.YtblaakdafebglaaGreat
open Go Sl
variable {U0:Va} {s key nonce:J2} {n tenant at_ counter:Int}
abbrev Kb (f:Wo) (a:J3) (o:J5) (d:List (Va × Sl.C)) (x:Option Bool):=Cn Pg f a o d x (λr (_:Unit)=>.bool r) λ_ _=>[]
abbrev Ki (f:Wo) (a:J3) (o:J5) (d:List (Va × Sl.C)) (x:Option Int):=Cn Pg f a o d x (λr (_:Unit)=>iv r) λ_ _=>[]
abbrev Ks (f:Wo) (a:J3) (o:J5) (d:List (Va × Sl.C)) (x:Option J2):=Cn Pg f a o d x (λr (_:Unit)=>strV r) λ_ _=>[]
abbrev Kl {α:Type} [Enc α] (f:Wo) (a:J3) (o:J5) (d:List (Va × Sl.C)) (x:Option (List α)):=Cn Pg f a o d x (λ_ (X:Va)=>X) λr X=>[.own X (lc r)]
structure Op where
 g:J2
 M:Bool
 J:J2
 deriving DecidableEq
instance:Enc Op:=⟨3,λx=>[.str x.g,.bool x.M,.str x.J],λ_=>rfl,by decide⟩
instance:Dec Op where
 sh:=[.str,.bool,.str]
 ok x:=x.g.length<=9223372036854775807/\True/\x.J.length<=9223372036854775807
 dec cs h:=by obtain ⟨c0,r0,rfl,h0,h⟩:=h.cons_inv;obtain ⟨c1,r1,rfl,h1,h⟩:=h.cons_inv;obtain ⟨c2,r2,rfl,h2,h⟩:=h.cons_inv;obtain rfl:=h.nil_inv;obtain ⟨y0,rfl,w0⟩:=h0.str_inv;obtain ⟨y1,rfl⟩:=h1.bool_inv;have w1:=True.intro;obtain ⟨y2,rfl,w2⟩:=h2.str_inv;exact ⟨(⟨y0,y1,y2⟩:Op),rfl,w0,w1,w2⟩
instance:Flat Op:={vals:=λx=>[strV x.g,.bool x.M,strV x.J],flat:=λ_=>rfl}
structure As where
 E:Int
 R:J2
 q:Int
 N:Int
 g:J2
 T:J2
 Q:List Op
 deriving DecidableEq
instance:Enc As:=⟨7,λx=>[.int .i64 x.E,.str x.R,.int .i64 x.q,.int .i64 x.N,.str x.g,.str x.T,lc x.Q],λ_=>rfl,by decide⟩
instance:Dec As where
 sh:=[.int .i64,.str,.int .i64,.int .i64,.str,.str,.sl 3 (Dec.sh Op)]
 ok x:=okI x.E/\x.R.length<=9223372036854775807/\okI x.q/\okI x.N/\x.g.length<=9223372036854775807/\x.T.length<=9223372036854775807/\okl x.Q
 dec cs h:=by obtain ⟨c0,r0,rfl,h0,h⟩:=h.cons_inv;obtain ⟨c1,r1,rfl,h1,h⟩:=h.cons_inv;obtain ⟨c2,r2,rfl,h2,h⟩:=h.cons_inv;obtain ⟨c3,r3,rfl,h3,h⟩:=h.cons_inv;obtain ⟨c4,r4,rfl,h4,h⟩:=h.cons_inv;obtain ⟨c5,r5,rfl,h5,h⟩:=h.cons_inv;obtain ⟨c6,r6,rfl,h6,h⟩:=h.cons_inv;obtain rfl:=h.nil_inv;obtain ⟨y0,rfl,w0_⟩:=h0.int_inv;have w0:=zmT w0_;obtain ⟨y1,rfl,w1⟩:=h1.str_inv;obtain ⟨y2,rfl,w2_⟩:=h2.int_inv;have w2:=zmT w2_;obtain ⟨y3,rfl,w3_⟩:=h3.int_inv;have w3:=zmT w3_;obtain ⟨y4,rfl,w4⟩:=h4.str_inv;obtain ⟨y5,rfl,w5⟩:=h5.str_inv;obtain ⟨y6,rfl,w6⟩:=h6.sl_inv (α:=Op) rfl;exact ⟨(⟨y0,y1,y2,y3,y4,y5,y6⟩:As),rfl,w0,w1,w2,w3,w4,w5,w6⟩
structure A6 where
 q:Int
 g:J2
 deriving DecidableEq
instance:Enc A6:=⟨2,λx=>[.int .i64 x.q,.str x.g],λ_=>rfl,by decide⟩
instance:Flat A6:={vals:=λx=>[.int .i64 x.q,strV x.g],flat:=λ_=>rfl}
structure A7 where
 L:J2
 t:List A6
 H:Int
 deriving DecidableEq
variable {d:A7}
instance:Enc A7:=⟨3,λx=>[.str x.L,lc x.t,.int .i64 x.H],λ_=>rfl,by decide⟩
structure A5 where
 q:Int
 S:Int
 deriving DecidableEq
instance:Enc A5:=⟨2,λx=>[.int .i64 x.q,.int .i64 x.S],λ_=>rfl,by decide⟩
instance:Flat A5:={vals:=λx=>[.int .i64 x.q,.int .i64 x.S],flat:=λ_=>rfl}
structure Ad where
 G:Int
 j:_root_.List A5
 deriving DecidableEq
instance:Enc Ad:=⟨2,λx=>[.int .i64 x.G,lc x.j],λ_=>rfl,by decide⟩
structure Ac where
 g:J2
 c:Int
 M:Bool
 J:J2
 deriving DecidableEq
instance:Enc Ac:=⟨4,λx=>[.str x.g,.int .i64 x.c,.bool x.M,.str x.J],λ_=>rfl,by decide⟩
instance:Flat Ac:={vals:=λx=>[strV x.g,.int .i64 x.c,.bool x.M,strV x.J],flat:=λ_=>rfl}
instance:Enc (List Ac):=⟨1,λl=>[lc l],λ_=>rfl,Nat.one_pos⟩
structure Aa where
 x:List Ac
 s:List (List Ac)
 c:Int
 A:List Int
 deriving DecidableEq
instance:Enc Aa:=⟨4,λx=>[lc x.x,lc x.s,.int .i64 x.c,lc x.A],λ_=>rfl,by decide⟩
structure Am where
 r:Int
 K:Int
 O:Int
 b:Aa
 deriving DecidableEq
instance:Enc Am:=⟨7,λx=>[.int .i64 x.r,.int .i64 x.K,.int .i64 x.O,lc x.b.x,lc x.b.s,.int .i64 x.b.c,lc x.b.A],λ_=>rfl,by decide⟩
structure Ar where
 q:Int
 B:Int
 c:Int
 P:J2
 U:Bool
 deriving DecidableEq
instance:Enc Ar:=⟨5,λx=>[.int .i64 x.q,.int .i64 x.B,.int .i64 x.c,.str x.P,.bool x.U],λ_=>rfl,by decide⟩
instance:Flat Ar:={vals:=λx=>[.int .i64 x.q,.int .i64 x.B,.int .i64 x.c,strV x.P,.bool x.U],flat:=λ_=>rfl}
structure Af where
 F:J2
 m:A7
 u:Ad
 a:List Am
 D:List Ar
 I:List Ar
 B:Int
 deriving DecidableEq
instance:Enc Af:=⟨10,λx=>[.str x.F,.str x.m.L,lc x.m.t,.int .i64 x.m.H,.int .i64 x.u.G,lc x.u.j,lc x.a,lc x.D,lc x.I,.int .i64 x.B],λ_=>rfl,by decide⟩
structure KV where
 g:J2
 J:J2
 deriving DecidableEq
instance:Enc KV:=⟨2,λx=>[.str x.g,.str x.J],λ_=>rfl,by decide⟩
instance:Flat KV:={vals:=λx=>[strV x.g,strV x.J],flat:=λ_=>rfl}
structure At where
 V:Int
 N:Int
 P:_root_.List UInt8
 j:_root_.List KV
 deriving DecidableEq
instance:Enc At:=⟨4,λx=>[.int .i64 x.V,.int .i64 x.N,.str x.P,lc x.j],λ_=>rfl,by decide⟩
structure A8 where
 text:J2
 W:Int
 Y:Bool
 deriving DecidableEq
instance:Enc A8:=⟨3,λx=>[.str x.text,.int .i64 x.W,.bool x.Y],λ_=>rfl,by decide⟩
instance:Flat A8:={vals:=λx=>[strV x.text,.int .i64 x.W,.bool x.Y],flat:=λ_=>rfl}
def hMix:Pg.follows .mixedOrders=true:=by kernel_rfl
instance:Tab Pg:=⟨.n 5442 2 (.n 3140 4 (.n 2115 6 (.n 1857 1 (.n 1666 2 (.n 1665 1 (.n 1664 0 .e .e) .e) (.n 1856 0 .e .e)) (.n 2113 1 (.n 2112 0 .e .e) (.n 2114 4 .e .e))) (.n 3136 0 (.n 2117 8 (.n 2116 7 .e .e) (.n 2118 9 .e .e)) (.n 3138 2 (.n 3137 1 .e .e) (.n 3139 3 .e .e)))) (.n 3777 1 (.n 3457 1 (.n 3142 6 (.n 3141 5 .e .e) (.n 3456 0 .e .e)) (.n 3459 3 (.n 3458 2 .e .e) (.n 3776 0 .e .e))) (.n 3781 5 (.n 3779 3 (.n 3778 2 .e .e) (.n 3780 4 .e .e)) (.n 5440 0 (.n 3782 6 .e .e) (.n 5441 1 .e .e))))) (.n 7296 0 (.n 6402 2 (.n 5570 2 (.n 5568 0 (.n 5443 3 .e .e) (.n 5569 1 .e .e)) (.n 6400 0 (.n 5571 3 .e .e) (.n 6401 1 .e .e))) (.n 6721 1 (.n 6404 4 (.n 6403 3 .e .e) (.n 6720 0 .e .e)) (.n 7168 0 (.n 6722 2 .e .e) (.n 7169 1 .e .e)))) (.n 9793 1 (.n 9281 1 (.n 7298 2 (.n 7297 1 .e .e) (.n 9280 0 .e .e)) (.n 9473 1 (.n 9472 0 .e .e) (.n 9792 0 .e .e))) (.n 12161 1 (.n 9795 3 (.n 9794 2 .e .e) (.n 12160 0 .e .e)) (.n 17280 0 (.n 12162 2 .e .e) (.n 17281 1 .e .e))))),.n 81 2 (.n 30 2 (.n 24 2 (.n 5 2 (.n 4 2 (.n 3 2 .e .e) .e) (.n 9 2 .e .e)) (.n 27 2 (.n 26 7 .e .e) (.n 29 5 .e .e))) (.n 52 2 (.n 47 2 (.n 33 21 (.n 31 2 .e .e) .e) (.n 49 15 .e .e)) (.n 57 2 (.n 54 9 .e .e) (.n 59 15 .e .e)))) (.n 114 7 (.n 100 11 (.n 85 9 (.n 83 2 (.n 82 2 .e .e) .e) (.n 87 15 .e .e)) (.n 105 7 (.n 103 2 .e .e) (.n 112 5 .e .e))) (.n 190 7 (.n 148 5 (.n 145 5 .e .e) (.n 153 9 .e .e)) (.n 223 33 (.n 222 2 .e .e) (.n 268 2 .e .e)))),.n 47 3 (.n 30 7 (.n 24 2 (.n 22 7 .e .e) (.n 27 2 .e .e)) (.n 34 4 (.n 31 5 .e .e) (.n 37 7 .e .e))) (.n 82 1 (.n 57 3 (.n 52 2 .e .e) (.n 81 4 .e .e)) (.n 103 1 (.n 83 1 .e .e) .e)),by kernel_rfl,by kernel_rfl,by kernel_rfl⟩
def kk9:kindB Pg 9=some (false,1):=by kernel_rfl
def ks9:isStrB Pg 9=true:=by kernel_rfl
def kk49:kindB Pg 49=some (true,7):=by kernel_rfl
def kz105:zeroB Pg 105=some (.agg #[strV ([]),.bool false,strV ([])]):=by kernel_rfl
def kk4:kindB Pg 4=some (false,1):=by kernel_rfl
def zxG:fieldB Pg 105 1=some 1:=by kernel_rfl
def zxH:fieldB Pg 105 2=some 2:=by kernel_rfl
def kk105:kindB Pg 105=some (true,3):=by kernel_rfl
def ke57:elemB Pg 57=some (105,3,40):=by kernel_rfl
def kz59:zeroB Pg 59=some (.agg #[.int .i64 (0:Int),strV ([]),.int .i64 (0:Int),.int .i64 (0:Int),strV ([]),strV ([]),J6]):=by kernel_rfl
def kk3:kindB Pg 3=some (false,1):=by kernel_rfl
def zyi:fieldB Pg 59 0=some 0:=by kernel_rfl
def zyj:fieldB Pg 59 1=some 1:=by kernel_rfl
def zyk:fieldB Pg 59 2=some 2:=by kernel_rfl
def zyl:fieldB Pg 59 3=some 3:=by kernel_rfl
def zym:fieldB Pg 59 4=some 4:=by kernel_rfl
def zyn:fieldB Pg 59 5=some 5:=by kernel_rfl
def zyo:fieldB Pg 59 6=some 6:=by kernel_rfl
def kk57:kindB Pg 57=some (false,1):=by kernel_rfl
def kk59:kindB Pg 59=some (true,7):=by kernel_rfl
def ke37:elemB Pg 37=some (59,7,96):=by kernel_rfl
def kz33:zeroB Pg 33=some (.agg #[strV ([]),strV ([]),J6,.int .i64 (0:Int),.int .i64 (0:Int),J6,J6,J6,J6,.int .i64 (0:Int)]):=by kernel_rfl
def kp33:placesB Pg 33=some [(0,1),(1,3),(4,2),(6,1),(7,1),(8,1),(9,1)]:=by kernel_rfl
def kz26:zeroB Pg 26=some (.agg #[strV ([]),J6,.int .i64 (0:Int)]):=by kernel_rfl
def kp26:placesB Pg 26=some [(0,1),(1,1),(2,1)]:=by kernel_rfl
def kz29:zeroB Pg 29=some (.agg #[.int .i64 (0:Int),J6]):=by kernel_rfl
def kp29:placesB Pg 29=some [(0,1),(1,1)]:=by kernel_rfl
def ke30:elemB Pg 30=some (87,7,104):=by kernel_rfl
def zfV:fieldB Pg 87 0=some 0:=by kernel_rfl
def kz54:zeroB Pg 54=some (.agg #[.int .i64 (0:Int),.int .i64 (0:Int),strV ([]),J6]):=by kernel_rfl
def kp54:placesB Pg 54=some [(0,1),(1,1),(2,1),(3,1)]:=by kernel_rfl
def kk54:kindB Pg 54=some (true,4):=by kernel_rfl
def ke27:elemB Pg 27=some (148,2,16):=by kernel_rfl
def zxK:fieldB Pg 148 1=some 1:=by kernel_rfl
def kk148:kindB Pg 148=some (true,2):=by kernel_rfl
def kz148:zeroB Pg 148=some (.agg #[.int .i64 (0:Int),.int .i64 (0:Int)]):=by kernel_rfl
def kp148:placesB Pg 148=some [(0,1),(1,1)]:=by kernel_rfl
def ke24:elemB Pg 24=some (145,2,24):=by kernel_rfl
def kz145:zeroB Pg 145=some (.agg #[.int .i64 (0:Int),strV ([])]):=by kernel_rfl
def zxJ:fieldB Pg 145 1=some 1:=by kernel_rfl
def kp145:placesB Pg 145=some [(0,1),(1,1)]:=by kernel_rfl
def kz87:zeroB Pg 87=some (.agg #[.int .i64 (0:Int),.int .i64 (0:Int),.int .i64 (0:Int),J6,J6,.int .i64 (0:Int),J6]):=by kernel_rfl
def kk87:kindB Pg 87=some (true,7):=by kernel_rfl
def kz5:zeroB Pg 5=some (.int .u8 (0:Int)):=by kernel_rfl
def ke103:elemB Pg 103=some (5,1,1):=by kernel_rfl
def ki3:intB Pg 3=some .i64:=by kernel_rfl
def ki5:intB Pg 5=some .u8:=by kernel_rfl
def ke83:elemB Pg 83=some (3,1,8):=by kernel_rfl
def kz3:zeroB Pg 3=some (.int .i64 (0:Int)):=by kernel_rfl
def kp87:placesB Pg 87=some [(0,1),(1,1),(2,1),(3,4)]:=by kernel_rfl
def kp105:placesB Pg 105=some [(0,1),(1,1),(2,1)]:=by kernel_rfl
def zxM:fieldB Pg 153 2=some 2:=by kernel_rfl
def zxN:fieldB Pg 153 3=some 3:=by kernel_rfl
def zxL:fieldB Pg 153 1=some 1:=by kernel_rfl
def ke81:elemB Pg 81=some (153,4,48):=by kernel_rfl
def kk153:kindB Pg 153=some (true,4):=by kernel_rfl
def zkT:fieldB Pg 85 0=some 0:=by kernel_rfl
def kk81:kindB Pg 81=some (false,1):=by kernel_rfl
def zfU:fieldB Pg 85 1=some 1:=by kernel_rfl
def kk82:kindB Pg 82=some (false,1):=by kernel_rfl
def ke82:elemB Pg 82=some (81,1,24):=by kernel_rfl
def zmJ:fieldB Pg 85 2=some 2:=by kernel_rfl
def zg8:fieldB Pg 85 3=some 3:=by kernel_rfl
def kk83:kindB Pg 83=some (false,1):=by kernel_rfl
def kz85:zeroB Pg 85=some (.agg #[J6,J6,.int .i64 (0:Int),J6]):=by kernel_rfl
def kz153:zeroB Pg 153=some (.agg #[strV ([]),.int .i64 (0:Int),.bool false,strV ([])]):=by kernel_rfl
def kp85:placesB Pg 85=some [(0,1),(1,1),(2,1),(3,1)]:=by kernel_rfl
def kk85:kindB Pg 85=some (true,4):=by kernel_rfl
def kz81:zeroB Pg 81=some J6:=by kernel_rfl
def kp153:placesB Pg 153=some [(0,1),(1,1),(2,1),(3,1)]:=by kernel_rfl
def kz100:zeroB Pg 100=some (.agg #[.int .i64 (0:Int),.int .i64 (0:Int),.int .i64 (0:Int),strV ([]),.bool false]):=by kernel_rfl
def ke31:elemB Pg 31=some (100,5,48):=by kernel_rfl
def kk100:kindB Pg 100=some (true,5):=by kernel_rfl
def zxF:fieldB Pg 100 4=some 4:=by kernel_rfl
def zbc:fieldB Pg 87 3=some 3:=by kernel_rfl
def zsJ:fieldB Pg 87 2=some 2:=by kernel_rfl
def zxC:fieldB Pg 100 1=some 1:=by kernel_rfl
def zxD:fieldB Pg 100 2=some 2:=by kernel_rfl
def zxE:fieldB Pg 100 3=some 3:=by kernel_rfl
def zjv:fieldB Pg 87 1=some 1:=by kernel_rfl
def kz112:zeroB Pg 112=some (.agg #[strV ([]),strV ([])]):=by kernel_rfl
def ke52:elemB Pg 52=some (112,2,32):=by kernel_rfl
def kp112:placesB Pg 112=some [(0,1),(1,1)]:=by kernel_rfl
def zxI:fieldB Pg 112 1=some 1:=by kernel_rfl
def kp100:placesB Pg 100=some [(0,1),(1,1),(2,1),(3,1),(4,1)]:=by kernel_rfl
def ke34:elemB Pg 34=some (54,4,56):=by kernel_rfl
def ki220:intB Pg 220=some .u64:=by kernel_rfl
def kk5:kindB Pg 5=some (false,1):=by kernel_rfl
def ki222:intB Pg 222=some .u32:=by kernel_rfl
def kz223:zeroB Pg 223=some (arrV (Ih 16 (Wrd.mk 0))):=by kernel_rfl
def ka223:arrB Pg 223=some (16,222,1):=by kernel_rfl
def kk223:kindB Pg 223=some (true,16):=by kernel_rfl
def kk222:kindB Pg 222=some (false,1):=by kernel_rfl
def kz190:zeroB Pg 190=some (.agg #[strV ([]),.int .i64 (0:Int),.bool false]):=by kernel_rfl
def kp190:placesB Pg 190=some [(0,1),(1,1),(2,1)]:=by kernel_rfl
def kz270:zeroB Pg 270=some (.agg #[.pointer none,J6]):=by kernel_rfl
def kk103:kindB Pg 103=some (false,1):=by kernel_rfl
def kc297:callB Pg 297=true:=by kernel_rfl
def kp268:ptrB Pg 268=some (270,2):=by kernel_rfl
def kp289:ptrB Pg 289=some (5,1):=by kernel_rfl
def ku293:unsB Pg 293=true:=by kernel_rfl
def kl270:liesAt Pg Pg.depth 270 (2 / Pg.cellsOf 270) 0 270 1=true:=by kernel_rfl
def kc275:callB Pg 275=true:=by kernel_rfl
def kc278:callB Pg 278=true:=by kernel_rfl
def zyp:fieldTB Pg 85 1=some (1,82):=by kernel_rfl
def kb4:Pg.underlying 4=some .bool:=by kernel_rfl
def zye:fieldB Pg 54 0=some 0:=by kernel_rfl
def zyf:fieldB Pg 54 1=some 1:=by kernel_rfl
def zyg:fieldB Pg 54 2=some 2:=by kernel_rfl
def zyh:fieldB Pg 54 3=some 3:=by kernel_rfl
def kk52:kindB Pg 52=some (false,1):=by kernel_rfl
def hu9:Pg.underlying 9=some (.string):=by kernel_rfl
def hs9:shB Pg 20 9=some ([.str]):=by kernel_rfl
def hu3:Pg.underlying 3=some (.int .i64):=by kernel_rfl
def hs3:shB Pg 20 3=some ([.int .i64]):=by kernel_rfl
def hu22:Pg.underlying 22=some (.slice 49):=by kernel_rfl
def hs22:shB Pg 20 22=some ([.sl 7 (Dec.sh As)]):=by kernel_rfl
def zie (a:Op) (left:Int):Option Int:=if Dc (J7 (left - (a.g.length:Int))<0)then some (-1:Int)else if Dc (J7 (J7 (left - (a.g.length:Int)) - (a.J.length:Int))<0)then some (-1:Int)else some (J7 (J7 (left - (a.g.length:Int)) - (a.J.length:Int)))
def ztJ {a:Op} {left:Int} :Ki 75 [.agg #[strV a.g,.bool a.M,strV a.J],iv left] [] [] (zie a left):=Ch r λZ=>Sr<|Fo (Bx r (Cp r)) λd=>Qn r<|Zt Z 5 r<|Yo (Y.slen ks9 r)<|Qs 2 r<|Nx<|Zw Z 6 r<|Wc r (λb=>Zw Z 4 r<|Wv<|Rq) λb=>Sn<|Zt Z 5 r<|Yo (Y.slen ks9 r)<|Qs 2 r<|Nx<|Zw Z 6 r<|Wc r (λc=>Zw Z 4 r<|Wv<|Rq) λc=>Sn<|Zw Z 5 r<|Wr<|Rq
def zi2 (a:List Op) (left:Int):Option Int:=if Dc (J7 (left - (a.length:Int))<0)then some (-1:Int)else bindC (loopO (λ(b:Int × Int)=>if Dc (b.2<(a.length:Int))then Bb (idx a b.2) λd=>Bb (zie d b.1) λc=>if Dc (c<0)then some (.done (.done (-1:Int)))else some (.go (c,J7 (b.2+1)))else some (.done (.go b.1))) (J7 (left - (a.length:Int)),(0:Int))) (λe=>some e)
def zsP {a:List Op} {left:Int} :Ki 41 [U0,iv left] [] [(U0,lc a)] (zi2 a left):=Ch r λZ=>Dw Z 18 [100] r<|Wc r (λb=>Zw Z 4 r<|Wv<|Rq) λb=>Sn<|Zw Z 5 r<|Ju [] (λT=>[(1,iv T)]) r1 (Wb<|Lu [0] (λT=>[(1,iv T.1),(5,iv T.2)]) r1 λf=>Dw Z 8 [100] r<|Wc r (λc=>Sn<|Zt Z 6 r<|Bi λg d=>Vx Z d 3 [100,0,300] r<|Cc Z [] [] ztJ r r2 λh i _=>Qn r<|Zw Z 5 r<|Wc r (λe=>Zw Z 4 r<|Wr<|Bu<|Rq) λe=>Sk<|Bn<|Ne<|Zt Z 4 r<|Nl<|Lq) λc=>We<|Jq) λj=>Ne<|Zw Z 5 r<|Wr<|Rq
def zfZ (a:As) (left:Int):Option Int:=if Dc (J7 (left - (a.R.length:Int))<0)then some (-1:Int)else if Dc (J7 (J7 (left - (a.R.length:Int)) - (a.g.length:Int))<0)then some (-1:Int)else if Dc (J7 (J7 (J7 (left - (a.R.length:Int)) - (a.g.length:Int)) - (a.T.length:Int))<0)then some (-1:Int)else Bb (zi2 a.Q (J7 (J7 (J7 (left - (a.R.length:Int)) - (a.g.length:Int)) - (a.T.length:Int)))) λb=>if Dc (b<0)then some (-1:Int)else some b
def zr3 {a:As} {left:Int} :Ki 16 [.agg #[iv a.E,strV a.R,iv a.q,iv a.N,strV a.g,strV a.T,U0],iv left] [] [(U0,lc a.Q)] (zfZ a left):=Ch r λZ=>Sr<|Fo (Bx r (Ca ⟨Op',Op',Op',Op',Op',Op',Ob Z.1,⟨⟩⟩)) λf=>Qn r<|Zt Z 5 r<|Yo (Y.slen ks9 r)<|Qs 2 r<|Nx<|Zw Z 6 r<|Wc r (λb=>Zw Z 4 r<|Wv<|Rq) λb=>Sn<|Zt Z 5 r<|Yo (Y.slen ks9 r)<|Qs 2 r<|Nx<|Zw Z 6 r<|Wc r (λc=>Zw Z 4 r<|Wv<|Rq) λc=>Sn<|Zt Z 5 r<|Yo (Y.slen ks9 r)<|Qs 2 r<|Nx<|Zw Z 6 r<|Wc r (λd=>Zw Z 4 r<|Wv<|Rq) λd=>Sn<|Zt Z 5 r<|Cc Z [] [100] zsP r r2 λh i _=>Qn r<|Zw Z 6 r<|Wc r (λe=>Zw Z 4 r<|Wv<|Rq) λe=>Sn<|Zw Z 5 r<|Wr<|Rq
def zhk (a:List As) (left:Int):Option Int:=if Dc (J7 (left - (a.length:Int))<0)then some (-1:Int)else bindC (loopO (λ(b:Int × Int)=>if Dc (b.2<(a.length:Int))then Bb (idx a b.2) λd=>Bb (zfZ d b.1) λc=>if Dc (c<0)then some (.done (.done (-1:Int)))else some (.go (c,J7 (b.2+1)))else some (.done (.go b.1))) (J7 (left - (a.length:Int)),(0:Int))) (λe=>some e)
def zqG {a:List As} {left:Int} :Ki 4 [U0,iv left] [] [(U0,lc a)] (zhk a left):=Ch r λZ=>Dw Z 18 [100] r<|Wc r (λc=>Zw Z 4 r<|Wv<|Rq) λc=>Sn<|Zw Z 5 r<|Ju [] (λT=>[(1,iv T)]) r1 (Wb<|Lu [0] (λT=>[(1,iv T.1),(5,iv T.2)]) r1 λg=>Dw Z 8 [100] r<|Wc r (λd=>Sn<|Zt Z 6 r<|Bi λh b=>Vx Z b 1 [100] r<|have e:=Bj 6 Z.1 b r;Yo (Lz kk49 Z.1 b r)<|Qo r<|Cc (Bq e<|Z) [] [100] zr3 r r2 λi j _=>Qn r<|Zw Z 5 r<|Wc r (λf=>Zw Z 4 r<|Wr<|Bu<|Rq) λf=>Sk<|Bn<|Ne<|Zt Z 4 r<|Nl<|Lq) λd=>We<|Jq) λk=>Ne<|Zw Z 5 r<|Wr<|Rq
def zmN (a:Op):Option Op:=some a
def ztK {a:Op} :Cn Pg 90 [.agg #[strV a.g,.bool a.M,strV a.J]] [] [] (zmN a) (λr (_:Unit)=>.agg #[strV r.g,.bool r.M,strV r.J]) λ_ _=>[]:=Ch r λZ=>Sr<|Fo (Bx r (Cp r)) λb=>Fa kz105 r λc=>Nx<|Sr<|Fa kz105 r λd=>Nx<|Dw Z 26 [0,2,0,0,0,0,2,0,0,0,0,2,0,0,0,0,1] r<|Wr<|Rj () [] [1] r
def zi3 (a:List Op):Option (List Op):=Bb (mkLen 40 (a.length:Int)) λc=>bindC (loopO (λ(b:Int × List Op)=>if Dc (b.1<(a.length:Int))then Bb (idx a b.1) λd=>Bb (zmN d) λe=>Bb (idx b.2 b.1) λg=>some (.go (J7 (b.1+1),(b.2.set b.1.toNat e)))else some (.done (.go b.2))) ((0:Int),(Ih c ((⟨[],false,[]⟩:Op):Op)))) (λf=>some f)
def zsQ {a:List Op} :Kl 51 [U0] [] [(U0,lc a)] (zi3 a):=Ch r λZ=>Dt Z 8 [100] r<|Bi λh d=>Fo (Mk ((⟨[],false,[]⟩:Op):Op) d ke57 kz105) λb=>Qn r<|Zw Z 5 r<|Jn Unit [3] [] (λ_ _=>[]) (λT _=>[.own b (lc T)]) r2 r2 (Wb<|Lp Unit [0,3] [] (λT _=>[(4,iv T.1)]) (λT _=>[.own b (lc T.2)]) () [0] r2 r2 λi j=>Dw Z 8 [100] r<|Wc r (λe=>Sn<|Zt Z 7 r<|Bi λk f=>Vx Z f 2 [100,0,300] r<|Cc Z [] [] ztK r r2 λg l _=>Bi λm c=>Vx Z c 1 [] r<|Fu (Se g 0 kk105 c r (Cp r) r)<|Nl<|Bn<|Ne<|Zt Z 4 r<|Nl<|Lg () [0]) λe=>We<|Jg () [0]) λn o=>Ne<|Zw Z 5 r<|Wr<|Re b [0]
def zf0 (a:As):Option As:=Bb (zi3 a.Q) λb=>some (⟨a.E,a.R,a.q,a.N,a.g,a.T,b⟩:As)
def zr4 {a:As} :Cn Pg 20 [.agg #[iv a.E,strV a.R,iv a.q,iv a.N,strV a.g,strV a.T,U0]] [] [(U0,lc a.Q)] (zf0 a) (λr (X:Va)=>.agg #[iv r.E,strV r.R,iv r.q,iv r.N,strV r.g,strV r.T,X]) λr X=>[.own X (lc r.Q)]:=Ch r λZ=>Sr<|Fo (Bx r (Ca ⟨Op',Op',Op',Op',Op',Op',Ob Z.1,⟨⟩⟩)) λc=>Fa kz59 r λd=>Nx<|Sr<|Fa kz59 r λe=>Nx<|Dt Z 46 [0,2,0,0,0,0,2,0,0,0,0,2,0,0,0,0,2,0,0,0,0,2,0,0,0,0,2,0,0,0,0,2] r<|Cc Z [] [100] zsQ r r2 λf h b=>Dv Z 2 [0,1,1] r<|Nx<|Dw Z 5 [1,2,999,0,0,0,0,0,0,1] r<|Wr<|Rj b [0] [2] r
def zhl (a:List As):Option (List As):=Bb (mkLen 96 (a.length:Int)) λc=>bindC (loopO (λ(b:Int × List As)=>if Dc (b.1<(a.length:Int))then Bb (idx a b.1) λd=>Bb (zf0 d) λe=>Bb (idx b.2 b.1) λg=>some (.go (J7 (b.1+1),(b.2.set b.1.toNat e)))else some (.done (.go b.2))) ((0:Int),(Ih c ((⟨0,[],0,0,[],[],[]⟩:As):As)))) (λf=>some f)
def zfu {a:List As} :Kl 6 [U0] [] [(U0,lc a)] (zhl a):=Ch r λZ=>by
 refine Dt Z 8 [100] r<|Bi λk f=>Fo (Ef.makeN (α:=As) (z:=((⟨0,[],0,0,[],[],[]⟩:As):As)) (zs:=[iv 0,strV ([]),iv 0,iv 0,strV ([]),strV ([]),J6]) f ke37 kz59 r r r r r) λd=>Qn r<|Zw Z 5 r<|Jn Unit [3] [] (λ_ _=>[]) (λT _=>[.own d (lc T)]) r2 r2 (?_) λl m=>?_
 ·exact Wb<|Lp Unit [0,3] [] (λT _=>[(4,iv T.1)]) (λT _=>[.own d (lc T.2)]) () [0] r2 r2 λn o=>Dw Z 8 [100] r<|Wc r (λh=>Sn<|Zt Z 7 r<|Bi λp e=>Vx Z e 1 [100] r<|have i:=Bj 6 Z.1 e r;Yo (Lz kk49 Z.1 e r)<|Cc (Bq i<|Z) [] [100] zr4 r r2 λb s j=>Bi λt c=>Vx Z c 1 [1] r<|TO.fact (zbD (Oc 1 r) c) λu=>Gt (X:=Va) (Ho 1 [1] c r r1) λv=>Fu (Sh 0 [ic b.E,.str b.R,ic b.q,ic b.N,.str b.g,.str b.T,.raw j] kk59 c r (Ca ⟨Op',Op',Op',Op',Op',Op',Ow' 2,⟨⟩⟩) r)<|Nl<|Bn<|Ne<|Zt Z 4 r<|Nl<|Ke (Hc [0,1] b c r (Ck (Ck (Ck (Ck (Ck (Ck (Cf Cz))))))))<|Lg () [0]) λh=>We<|Jg () [0]
 exact Ne<|Zw Z 5 r<|Wr<|Re d [0]
def zz (x A h:Int):Option Bool:=Bb (if Dc (x>=A)then some (Dc (x<=h))else some false) (λa=>some a)
def zu {x A h:Int} :Kb 42 [iv x,iv A,iv h] [] [] (zz x A h):=Ch r λZ=>Zw Z 5 r<|Jv [] (λT=>[(6,.bool T)]) r1 (Zt Z 5 r<|It (λa=>Vg Z a 5 [] r<|Nl<|Bv) λa=>Vg Z a 5 [] r<|Nl<|Bv) λb=>Ne<|Wr<|Rq
def zgc (secret h:J2) (size:Int):Option (Af × Bool):=Bb (if !(Dc ((secret.length:Int)=32))then some true else if !(Dc ((h.length:Int)=32))then some true else Bb (zz size 0 1000) λa=>some (!a)) (λb=>if b=true then some ((⟨[],⟨[],[],0⟩,⟨0,[]⟩,[],[],[],0⟩:Af),false)else some ((⟨secret,⟨h,[],0⟩,⟨size,[]⟩,[],[],[],0⟩:Af),true))
def zpT {secret A:J2} {size:Int} :Cn Pg 17 [strV secret,strV A,iv size] [] [] (zgc secret A size) (λr (X:Va × Va × Va × Va × Va)=>.tuple #[.agg #[strV r.1.F,strV r.1.m.L,X.1,iv r.1.m.H,iv r.1.u.G,X.2.1,X.2.2.1,X.2.2.2.1,X.2.2.2.2,iv r.1.B],.bool r.2]) λr X=>[.own X.1 (lc r.1.m.t),.own X.2.1 (lc r.1.u.j),.own X.2.2.1 (lc r.1.a),.own X.2.2.2.1 (lc r.1.D),.own X.2.2.2.2 (lc r.1.I)]:=Ch r λZ=>Sr<|Fa kz33 r λf=>Qn r<|Sq<|Sq<|Jv [0,1,2,6] (λT=>[(20,.bool T)]) r1 (Zt Z 2 r<|Yo (Y.slen ks9 r)<|Qs 2 r<|It (λb=>Vg Z b 5 [] r<|Of 3 r r r<|Yo (Pt r r)<|Nl<|Bg () [0]) λb=>Vg Z b 1 [] r<|Yg (gdA (zn b)) (Y.slen ks9 r)<|Vg Z b 3 [] r<|It (λc=>Vg Z c 4 [] r<|Nl<|Bg () [0]) λc=>Vg Z c 1 [] r<|Bi λg d=>Fg (gdA (zn c)) (Cl [] zu d r r1) λ_=>Vg Z c 2 [] r<|Nl<|Bg () [0]) λh=>Ne<|Wc r (λe=>Sr<|Yo (Bd kp33 kz33 (Pz) r)<|Zv Z 2 r<|Nx<|Wv<|Ni 2<|Ni 2<|Ni 7<|Ni 5<|Ni 5<|Rj (J6,J6,J6,J6,J6) [4,3,2,1,0] [5] r) λe=>Sn<|Zt Z 4 r<|Yo (Bd kp26 kz26 (Pc r (Cp r)<|Pz) r)<|Qo r<|Yo (Bd kp29 kz29 (Pc r (Cp r)<|Pz) r)<|Yo (Bd kp33 kz33 (Pc r (Cp r)<|Pc r (Cp r)<|Pc r (Cp r)<|Pz) r)<|Zv Z 2 r<|Nx<|Wr<|Ni 2<|Ni 2<|Ni 7<|Ni 5<|Ni 5<|Rj (J6,J6,J6,J6,J6) [4,3,2,1,0] [5] r
def zfB (l:List Am) (id:Int):Option Int:=bindC (loopO (λ(S1:Int)=>if Dc (S1<(l.length:Int))then Bb (idx l S1) λa=>if Dc (a.r=id)then some (.done (.done S1))else some (.go (J7 (S1+1)))else some (.done (.go ()))) (0:Int)) (λb=>some (-1:Int))
def zjM {l:List Am} {id:Int} :Ki 46 [U0,iv id] [] [(U0,lc l)] (zfB l id):=Ch r λZ=>Zw Z 9 r<|Ju [] (λ_=>[]) r1 (Wb<|Lu [0,1] (λT=>[(5,iv T)]) r1 λS1=>Dw Z 8 [100] r<|Wc r (λa=>Sn<|Zt Z 6 r<|Bi λd b=>Vx Z b 5 [100,0,101,0,0,300] r<|Nx<|Wc r (λc=>Zw Z 5 r<|Wr<|Bu<|Rq) λc=>Sk<|Bn<|Ne<|Zt Z 4 r<|Nl<|Lq) λa=>We<|Jq) λe=>Ne<|Zw Z 4 r<|Wr<|Rq
def zF (code:Int):Option At:=some (⟨code,0,[],[]⟩:At)
def zB {code:Int} :Cn Pg 44 [iv code] [] [] (zF code) (λr (X:Va)=>.agg #[iv r.V,iv r.N,strV r.P,X]) λr X=>[.own X (lc r.j)]:=Ch r λZ=>Sr<|Fa kz54 r λa=>Nx<|Zt Z 3 r<|Yo (Bd kp54 kz54 (Pc r (Cp r)<|Pz) r)<|Zv Z 1 r<|Nx<|Wr<|Ni 2<|Rj J6 [0] [1] r
def ze7 (h:Int):Option Int:=Bb (zz h 0 1000) λa=>if !a then some (0:Int)else some (J7 ((2:Int)+(J7 ((2:Int)*(J7 (Il (J7 (h+49)) 50))))))
def ztS {h:Int} :Ki 244 [iv h] [] [] (ze7 h):=Ch r λZ=>Zt Z 8 r<|Cc Z [] [] zu r r2 λb c _=>Qn r<|Wc r (λa=>Zw Z 4 r<|Wv<|Rq) λa=>Sn<|Zt Z 4 r<|Yo (Y.quo (by decide) r r)<|Qs 3 r<|Nx<|Wr<|Rq
def zh5 (s:Ad):Option Int:=bindC (loopO (λ(a:Int × Int)=>if Dc (a.2<(s.j.length:Int))then Bb (idx s.j a.2) λc=>Bb (ze7 c.S) λd=>some (.go (J7 (a.1+d),J7 (a.2+1)))else some (.done (.go a.1))) ((0:Int),(0:Int))) (λb=>bindC (if Dc ((s.j.length:Int)>0)then some (.go (J7 (b+4)))else some (.go b)) (λe=>some e))
def zse {s:Ad} :Ki 190 [.agg #[iv s.G,U0]] [] [(U0,lc s.j)] (zh5 s):=Ch r λZ=>Sr<|Fo (Bx r (Ca ⟨Op',Ob Z.1,⟨⟩⟩)) λd=>Qn r<|Zw Z 9 r<|Ju [1] (λT=>[(3,iv T)]) r1 (Wb<|Lu [1] (λT=>[(3,iv T.1),(4,iv T.2)]) r1 λe=>Dw Z 9 [0,0,100] r<|Wc r (λa=>Sn<|Zt Z 7 r<|Bi λf b=>Vx Z b 3 [100,0,101,0,0,300,0,1] r<|Cc Z [] [] ztS r r2 λg h _=>Qs 2 r<|Nl<|Bn<|Ne<|Zt Z 4 r<|Nl<|Lg () [0]) λa=>We<|Jg () [0]) λi=>Ne<|Dw Z 8 [0,0,100] r<|Jn Unit [] [] (λT _=>[(3,iv T)]) (λ_ _=>[]) r2 r2 (Wc r (λc=>Zt Z 4 r<|Nl<|Jq) λc=>Sk<|Jq) λk l=>Ne<|Zw Z 5 r<|Wr<|Rq
def zbP (s:Ad):Option Bool:=Bb (Bb (zz s.G 0 1000) λc=>if !c then some true else some (Dc ((s.j.length:Int)>4))) (λd=>if d=true then some false else bindC (loopO (λ(a:Int)=>if Dc (a<(s.j.length:Int))then Bb (idx s.j a) λb=>Bb (Bb (zz b.q 1 99) λe=>if !e then some true else Bb (zz b.S 0 1000) λf=>if !f then some true else if Dc (a>0)then Bb (idx s.j (J7 (a - 1))) λg=>some (Dc (g.q>=b.q))else some false) (λh=>if h=true then some (.done (.done false))else some (.go (J7 (a+1))))else some (.done (.go ()))) (0:Int)) (λk=>Bb (zh5 s) λi=>some (Dc (i<=s.G))))
def zhx {s:Ad} :Kb 123 [.agg #[iv s.G,U0]] [] [(U0,lc s.j)] (zbP s):=Ch r λZ=>by
 refine Sr<|Fo (Bx r (Ca ⟨Op',Ob Z.1,⟨⟩⟩)) λn=>Qn r<|Sq<|Sq<|Jv [1] (λT=>[(14,.bool T)]) r1 (Zt Z 3 r<|Cc Z [] [] zu r r2 λo p _=>Qs 2 r<|It (λd=>Vg Z d 5 [] r<|Nl<|Bg () [0]) λd=>Vg Z d 5 [0,0,0,0,0,100] r<|Nl<|Bg () [0]) λq=>Ne<|Wc r (λe=>Zw Z 4 r<|Wv<|Rq) λe=>Sn<|Zw Z 5 r<|Ju [1] (λ_=>[]) r1 (?_) λt=>?_
 ·refine Wb<|Lu [1] (λT=>[(3,iv T)]) r1 λu=>Dw Z 9 [0,0,100] r<|Wc r (λf=>?_) λf=>?_
  ·refine Sn<|Zt Z 7 r<|Bi λv g=>Vx Z g 2 [100,0,300] r<|Fa kz148 r λw=>Zv Z 1 r<|Nx<|Sq<|Jb Unit [1,3] [1] (λT _=>[(52,.bool T)]) (λ_ _=>[]) r2 r2 (?_) λx y=>?_
   ·exact Dz 2 [] [] r hMix<|Aj Z [0,1] [] [] r<|Ai λz h=>A1 2<|Xe r (Cl [] zu h r r1) λ_=>Aq [3,4] r<|Ia (λb=>Ah Z b [5,6,7,8,9,10] [] [] r<|Ax [11,12,13] r r r<|Au [14,15,16,17,18,19,20,21,22,23] r r<|Ax [24] r r r<|Ay 25 r (Pt r r)<|Az<|Bg () [1]) λb=>Ah Z b [5,6] [] [] r<|Ai λA i=>A1 7<|Xeg (gdA (zn b)) r (Cl [] zu i r r1) λ_=>Ah Z b [8,9,10] [] [] r<|Ia (λa=>Ah Z a [11,12,13] [] [] r<|Au [14,15,16,17,18,19,20,21,22,23] r r<|Ah Z a [24,25] [] [] r<|Az<|Bg () [1]) λa=>Ah Z a [11,12,13] [] [] r<|Ia (λc=>Ah Z c [14,15,16,17] [] [0,0,0,1] r<|Ai λB k=>Ak (Kk Z (Xc k<|Xz) (Gc c<|Gc a<|Gz)) [18,19,20,21,22,23,24,25] [] [0,100,0,0,101,0,0,0,300,0,0,0,0,0,0,0,1,0,1] r<|Az<|Bg () [1]) λc=>Ak (Kg Z (Gc c<|Gc a<|Gz)) [14,15,16,17,18,19,20,21,22,23,24,25] [] [0,0,0,0,0,0,0,0,0,0,1,0,1] r<|Az<|Bg () [1]
   exact Ne<|Wc r (λl=>Zw Z 4 r<|Wr<|Bu<|Rq) λl=>Sk<|Bn<|Ne<|Zt Z 4 r<|Nl<|Lg () [0]
  exact We<|Jg () [0]
 exact Ne<|Sq<|Dz 1 [] [] r hMix<|Aj Z [0,2,3] [] [] r<|Ai λC m=>A1 1<|Xe r (Cl [] zse m r r1 ⟨(Bc Z.1),⟨⟩⟩) λ_=>Aq [4,5] r<|Az<|Ne<|Wr<|Rq
def zdZ (s:Ad):Option Ad:=Bb (app 16 ([]:List A5) s.j) λa=>some (⟨s.G,a⟩:Ad)
def zhR {s:Ad} :Cn Pg 49 [.agg #[iv s.G,U0]] [] [(U0,lc s.j)] (zdZ s) (λr (X:Va)=>.agg #[iv r.G,X]) λr X=>[.own X (lc r.j)]:=Ch r λZ=>Sr<|Fo (Bx r (Ca ⟨Op',Ob Z.1,⟨⟩⟩)) λc=>Fa kz29 r λd=>Nx<|Sq<|Dz 2 [] [7] r hMix<|Aj Z [0,1,3,4] [] [] r<|A1 2<|Xe r (Bs ([]:List A5) ke27 kz148) λe=>Ai λf a=>A1 5<|Xe r (Ap [0] a ke27 kz148 r (Bc Z.1)) λb=>A1 6<|Xy r (Bd kp29 kz29 (Pc r (Cp r)<|Pc r (Co 0)<|Pz) r)<|A1 7<|Xu r (Sj Z [1,999,0,1] r)<|Az<|Ne<|Wr<|Rj b [0] [1] r
def zby (s:Ad) (tenant A:Int):Option (Ad × Bool):=Bb (zbP s) λf=>if !f then some ((⟨0,[]⟩:Ad),false)else bindC (loopO (λ(a:Bool × Int × List A5)=>if Dc (a.2.1<(s.j.length:Int))then Bb (if !a.1 then Bb (idx s.j a.2.1) λg=>some (Dc (g.q>=tenant))else some false) (λh=>bindC (if h=true then Bb (app 16 a.2.2 ([(⟨tenant,A⟩:A5)])) λi=>some (.go (true,i))else some (.go (a.1,a.2.2))) (λb=>Bb (idx s.j a.2.1) λd=>bindC (if !(Dc (d.q=tenant))then Bb (app 16 b.2 ([d])) λk=>some (.go k)else some (.go b.2)) (λl=>some (.go (b.1,J7 (a.2.1+1),l)))))else some (.done (.go (a.1,a.2.2)))) (false,(0:Int),([]:List A5))) (λc=>bindC (if !c.1 then Bb (app 16 c.2 ([(⟨tenant,A⟩:A5)])) λm=>some (.go m)else some (.go c.2)) (λe=>Bb (zbP (⟨s.G,e⟩:Ad)) λn=>if !n then Bb (zdZ s) λo=>some (o,false)else some ((⟨s.G,e⟩:Ad),true)))
def zkm {s:Ad} {quota:Int} :Cn Pg 78 [.agg #[iv s.G,U0],iv tenant,iv quota] [] [(U0,lc s.j)] (zby s tenant quota) (λr (X:Va)=>.tuple #[.agg #[iv r.1.G,X],.bool r.2]) λr X=>[.own X (lc r.1.j)]:=Ch r λZ=>by
 refine Sr<|Fo (Bx r (Ca ⟨Op',Ob Z.1,⟨⟩⟩)) λA=>Fa kz29 r λB=>Qn r<|Dt Z 4 [1] r<|Cc Z [] [100] zhx r r2 λC D _=>Qn r<|Wc r (λe=>Sr<|Yo (Bd kp29 kz29 (Pz) r)<|Zv Z 2 r<|Nx<|Wv<|Ni 2<|Rj J6 [0] [1] r) λe=>Sn<|Dt Z 4 [0,1] r<|Yo (Bd kp29 kz29 (Pc r (Cp r)<|Pz) r)<|Fa kz29 r λa=>Zv Z 1 r<|Nx<|Zw Z 9 r<|Jn Va [1,2,3,6,8] [2,1] (λT _=>[(9,.bool T.1)]) (λT X=>[.box a 29 [iv s.G,X],.own X (lc T.2)]) r2 r2 (?_) λE f=>?_
 ·refine Wb<|Nw 2<|Lp Va [1,2,3,6,8] [3,2] (λT _=>[(9,.bool T.1),(10,iv T.2.1)]) (λT X=>[.box a 29 [iv s.G,X],.own X (lc T.2.2)]) J6 [3,2,1,0] r2 r2 λF c=>Dw Z 9 [0,0,100] r<|Wc r (λg=>?_) λg=>?_
  ·exact Sn<|Zw Z 4 r<|Jv [1,2,3,6,8,9,10] (λT=>[(36,.bool T)]) r1 (Zt Z 4 r<|It (λb=>Vg Z b 3 [] r<|Bi λH h=>Vk Z h b 6 [0,100,0,0,101,0,0,0,300] r<|Nl<|Bg () [0,0,0,0]) λb=>Vg Z b 9 [] r<|Nl<|Bg () [0,0,0,0]) λI=>Ne<|Jn Va [1,2,3,6,8,10] [0,0] (λT _=>[(9,.bool T.1)]) (λT X=>[.box a 29 [iv s.G,X],.own X (lc T.2)]) r2 r2 (Wc r (λi=>Dt Z 6 [0,2] r<|Yo (Bd kp148 kz148 (Pc r (Cp r)<|Pc r (Cp r)<|Pz) r)<|Fo (Bs [(⟨tenant,quota⟩:A5)] ke27 kz148) λJ=>Bi λK k=>Fo (Ap [4] k ke27 kz148 r (Oc 0 r)) λl=>Dv Z 2 [0,4,1] r<|Nx<|Zt Z 2 r<|Nl<|Jg l [2,2,2,0]) λi=>Sk<|Jg c [0,0,0,0]) λL m=>Ne<|Zt Z 5 r<|Bi λn d=>Vx Z d 5 [100,0,101,0,0,300] r<|Nx<|Jn Va [1,2,3,6,8,9,10] [0,0] (λ_ _=>[]) (λT X=>[.box a 29 [iv s.G,X],.own X (lc T)]) r2 r2 (Wc r (λo=>Dz 4 [3,2] [8,10] r hMix<|Ae Z d [0,1,2,3,4,5,6] [0,1792] [0,1,0,0,100,0,300] r<|A1 7<|Xe r (Bs [n] ke27 kz148) λM=>Ai λN p=>A1 8<|Xe r (Ap [1] p ke27 kz148 r (Oc 0 r)) λq=>Aj Z [9] [] [] r<|A1 10<|Xu r (Sj Z [2,1] r)<|Az<|Jg q [3,3,2,0]) λo=>Sk<|Jg m [0,0,0,0]) λO t=>Bn<|Ne<|Zt Z 4 r<|Nl<|Lg t [0,0,0,0]
  exact We<|Jg c [0,0,0,0]
 exact Ne<|Zw Z 6 r<|Jn Va [3,6,8] [0,0] (λ_ _=>[]) (λT X=>[.box a 29 [iv s.G,X],.own X (lc T)]) r2 r2 (Wc r (λu=>Dt Z 5 [0,2] r<|Yo (Bd kp148 kz148 (Pc r (Cp r)<|Pc r (Cp r)<|Pz) r)<|Fo (Bs [(⟨tenant,quota⟩:A5)] ke27 kz148) λP=>Bi λQ v=>Fo (Ap [4] v ke27 kz148 r (Oc 0 r)) λw=>Dv Z 2 [0,4,1] r<|Nl<|Jg w [2,2,2,0]) λu=>Sk<|Jg f [0,0,0,0]) λR x=>Ne<|Dt Z 4 [2] r<|Cc Z [] [3] zhx r r2 λS U _=>Qn r<|Wc r (λy=>Zt Z 3 r<|Cc Z [] [100] zhR r r2 λV W z=>Dv Z 2 [2,999,0,1] r<|Nx<|Wv<|Rj z [0] [2] r) λy=>Sn<|Dw Z 6 [2,1,999,0,4] r<|Wr<|Rj x [3] [1] r
def zbl (d:A7):Option Bool:=Bb (if !(Dc ((d.L.length:Int)=32))then some true else if Dc ((d.t.length:Int)>4)then some true else Bb (zz d.H 0 1000000) λc=>some (!c)) (λe=>if e=true then some false else bindC (loopO (λ(a:Int)=>if Dc (a<(d.t.length:Int))then Bb (idx d.t a) λb=>Bb (Bb (zz b.q 1 99) λf=>if !f then some true else if !(Dc ((b.g.length:Int)=32))then some true else if Dc (a>0)then Bb (idx d.t (J7 (a - 1))) λh=>some (Dc (h.q>=b.q))else some false) (λi=>if i=true then some (.done (.done false))else some (.go (J7 (a+1))))else some (.done (.go ()))) (0:Int)) (λj=>some true))
def zht:Kb 184 [.agg #[strV d.L,U0,iv d.H]] [] [(U0,lc d.t)] (zbl d):=Ch r λZ=>by
 refine Sr<|Fo (Bx r (Ca ⟨Op',Ob Z.1,Op',⟨⟩⟩)) λn=>Qn r<|Sq<|Sq<|Jv [1] (λT=>[(20,.bool T)]) r1 (Zt Z 3 r<|Yo (Y.slen ks9 r)<|Qs 2 r<|It (λf=>Vg Z f 6 [] r<|Of 4 r r r<|Yo (Pt r r)<|Nl<|Bg () [0]) λf=>Vg Z f 6 [0,0,0,0,0,100] r<|It (λb=>Vg Z b 5 [] r<|Nl<|Bg () [0]) λb=>Vg Z b 2 [] r<|Bi λo g=>Fg (gdA (zn b)) (Cl [] zu g r r1) λ_=>Vg Z b 2 [] r<|Nl<|Bg () [0]) λp=>Ne<|Wc r (λh=>Zw Z 4 r<|Wv<|Rq) λh=>Sn<|Zw Z 5 r<|Jn Unit [] [] (λ_ _=>[]) (λ_ _=>[]) r2 r2 (?_) λq s=>?_
 ·refine Wb<|Lu [1] (λT=>[(3,iv T)]) r1 λu=>Dw Z 9 [0,0,100] r<|Wc r (λi=>?_) λi=>?_
  ·refine Sn<|Zt Z 7 r<|Bi λv j=>Vx Z j 2 [100,0,300] r<|Fa kz145 r λw=>Zv Z 1 r<|Nx<|Sq<|Jb Unit [1,3] [1] (λT _=>[(58,.bool T)]) (λ_ _=>[]) r2 r2 (?_) λx y=>?_
   ·exact Dz 2 [] [] r hMix<|Aj Z [0,1] [] [] r<|Ai λz k=>A1 2<|Xe r (Cl [] zu k r r1) λ_=>Aq [3,4] r<|Ia (λc=>Ah Z c [5,6,7,8,9,10] [] [] r<|Ax [11,12,13] r r r<|Au [14,15,16,17,18,19,20,21,22,23] r r<|Ax [24] r r r<|Ay 25 r (Pt r r)<|Az<|Bg () [1]) λc=>Ah Z c [5,6] [] [] r<|Ag 7 0 (gdA (zn c)) r (Y.slen ks9 r)<|Ah Z c [8,9,10] [] [] r<|Ia (λa=>Ah Z a [11,12,13] [] [] r<|Au [14,15,16,17,18,19,20,21,22,23] r r<|Ah Z a [24,25] [] [] r<|Az<|Bg () [1]) λa=>Ah Z a [11,12,13] [] [] r<|Ia (λe=>Ah Z e [14,15,16,17] [] [0,0,0,1] r<|Ai λA l=>Ak (Kk Z (Xc l<|Xz) (Gc e<|Gc a<|Gz)) [18,19,20,21,22,23,24,25] [] [0,100,0,0,101,0,0,0,300,0,0,0,0,0,0,0,1,0,1] r<|Az<|Bg () [1]) λe=>Ak (Kg Z (Gc e<|Gc a<|Gz)) [14,15,16,17,18,19,20,21,22,23,24,25] [] [0,0,0,0,0,0,0,0,0,0,1,0,1] r<|Az<|Bg () [1]
   exact Ne<|Wc r (λm=>Zw Z 4 r<|Wr<|Bu<|Rq) λm=>Sk<|Bn<|Ne<|Zt Z 4 r<|Nl<|Lg () [0]
  exact We<|Jq
 exact Ne<|Zw Z 4 r<|Wr<|Rq
def zey (d:A7):Option A7:=Bb (app 24 ([]:List A6) d.t) λa=>some (⟨d.L,a,d.H⟩:A7)
def zgi:Cn Pg 48 [.agg #[strV d.L,U0,iv d.H]] [] [(U0,lc d.t)] (zey d) (λr (X:Va)=>.agg #[strV r.L,X,iv r.H]) λr X=>[.own X (lc r.t)]:=Ch r λZ=>Sr<|Fo (Bx r (Ca ⟨Op',Ob Z.1,Op',⟨⟩⟩)) λc=>Fa kz26 r λe=>Nx<|Sr<|Fo (Bs ([]:List A6) ke24 kz145) λf=>Dv Z 2 [0,2] r<|Bi λg a=>Fo (Ap [0] a ke24 kz145 r (Bc Z.1)) λb=>Dv Z 2 [0,2,1] r<|Nx<|Dw Z 5 [2,1,999,0,1] r<|Wr<|Rj b [0] [1] r
def zh2 (d:A7) (tenant:Int) (key:J2):Option (A7 × Bool):=Bb (zbl d) λg=>if !g then some ((⟨[],[],0⟩:A7),false)else Bb (zey d) λb=>bindC (loopO (λ(a:Bool × Int × List A6)=>if Dc (a.2.1<(d.t.length:Int))then Bb (if !a.1 then Bb (idx d.t a.2.1) λh=>some (Dc (h.q>=tenant))else some false) (λi=>bindC (if i=true then Bb (app 24 a.2.2 ([(⟨tenant,key⟩:A6)])) λj=>some (.go (true,j))else some (.go (a.1,a.2.2))) (λe=>Bb (idx d.t a.2.1) λk=>Bb (app 24 e.2 ([k])) λl=>some (.go (e.1,J7 (a.2.1+1),l))))else some (.done (.go (a.1,a.2.2)))) (false,(0:Int),([]:List A6))) (λc=>bindC (if !c.1 then Bb (app 24 c.2 ([(⟨tenant,key⟩:A6)])) λm=>some (.go m)else some (.go c.2)) (λf=>Bb (zbl (⟨b.L,f,b.H⟩:A7)) λn=>if !n then some (b,false)else some ((⟨b.L,f,b.H⟩:A7),true)))
def zsb:Cn Pg 118 [.agg #[strV d.L,U0,iv d.H],iv tenant,strV key] [] [(U0,lc d.t)] (zh2 d tenant key) (λr (X:Va)=>.tuple #[.agg #[strV r.1.L,X,iv r.1.H],.bool r.2]) λr X=>[.own X (lc r.1.t)]:=Ch r λZ=>by
 refine Sr<|Fo (Bx r (Ca ⟨Op',Ob Z.1,Op',⟨⟩⟩)) λy=>Fa kz26 r λz=>Qn r<|Dt Z 4 [1] r<|Cc Z [] [100] zht r r2 λA B _=>Qn r<|Wc r (λc=>Sr<|Yo (Bd kp26 kz26 (Pz) r)<|Zv Z 2 r<|Nx<|Wv<|Ni 2<|Rj J6 [0] [1] r) λc=>Sn<|Dt Z 3 [1] r<|Cc Z [] [100] zgi r r2 λC e D=>Fa kz26 r λE=>Dv Z 1 [0,999,0,2] r<|Nx<|Sr<|Fo (Bs ([]:List A6) ke24 kz145) λf=>Qn r<|Zw Z 9 r<|Jn Va [1,2,3,6,8] [4,3,1,1] (λT X=>[(9,X),(10,.bool T.1)]) (λT X=>[.own X (lc T.2)]) r2 r2 (?_) λF g=>?_
 ·refine Wb<|Lp Va [1,2,3,6,8] [4,3,1,1] (λT X=>[(9,X),(10,.bool T.1),(11,iv T.2.1)]) (λT X=>[.own X (lc T.2.2)]) (.slice (some ⟨f,0,none⟩) 0 0) [4,3,1,1,0] r2 r2 λG b=>Dw Z 9 [0,0,100] r<|Wc r (λh=>?_) λh=>?_
  ·exact Sn<|Zw Z 4 r<|Jv [1,2,3,6,8,9,10,11] (λT=>[(37,.bool T)]) r1 (Zt Z 4 r<|It (λa=>Vg Z a 3 [] r<|Bi λI i=>Vk Z i a 6 [0,100,0,0,101,0,0,0,300] r<|Nl<|Bg () [0,0,0,0,0]) λa=>Vg Z a 9 [] r<|Nl<|Bg () [0,0,0,0,0]) λJ=>Ne<|Jn Va [1,2,3,6,8,11] [0,0,0,0] (λT X=>[(9,X),(10,.bool T.1)]) (λT X=>[.own X (lc T.2)]) r2 r2 (Wc r (λj=>Zt Z 5 r<|Yo (Bd kp145 kz145 (Pc r (Cp r)<|Pc r (Cp r)<|Pz) r)<|Fo (Bs [(⟨tenant,key⟩:A6)] ke24 kz145) λK=>Bi λM k=>Fo (Ap [5] k ke24 kz145 r (Oc 0 r)) λl=>Qn r<|Zt Z 2 r<|Nl<|Jg l [2,2,2,2,0]) λj=>Sk<|Jg b [0,0,0,0,0]) λN O=>Ne<|Zt Z 5 r<|Bi λm n=>Vx Z n 2 [100,0,300] r<|Fo (Bs [m] ke24 kz145) λP=>Bi λQ o=>Fo (Ap [5] o ke24 kz145 r (Oc 0 r)) λp=>Qo r<|Nl<|Bn<|Ne<|Zt Z 4 r<|Nl<|Lg p [2,2,2,2,0]
  exact We<|Jg b [0,0,0,0,0]
 exact Ne<|Zw Z 6 r<|Jn Va [3,6,8] [0,0,0,0] (λ_ X=>[(9,X)]) (λT X=>[.own X (lc T)]) r2 r2 (Wc r (λq=>Zt Z 4 r<|Yo (Bd kp145 kz145 (Pc r (Cp r)<|Pc r (Cp r)<|Pz) r)<|Fo (Bs [(⟨tenant,key⟩:A6)] ke24 kz145) λR=>Bi λS s=>Fo (Ap [5] s ke24 kz145 r (Oc 0 r)) λu=>Qo r<|Nl<|Jg u [2,2,2,2,0]) λq=>Sk<|Jg g [0,0,0,0,0]) λU v=>Ne<|Dt Z 10 [0,2,5,2] r<|Cc Z [] [4] zht r r2 λV W _=>Qn r<|Wc r (λw=>Zt Z 3 r<|Fo (Cl [] zgi e r r1 ⟨(Bc Z.1),⟨⟩⟩) λx=>Dv Z 2 [2,999,0,1] r<|Nx<|Wv<|Rj x [0] [2] r) λw=>Sn<|Dw Z 6 [2,1,999,0,5] r<|Wr<|Rj v [4] [1] r
def zh6 (l:List Am) (t:Am):Option (List Am):=bindC (loopO (λ(a:Bool × Int × List (Option Am) × Option (List Ac) × Option (List (List Ac)) × Option (List Int) × List Am)=>if Dc (a.2.1<(a.2.2.1.length:Int))then Bb (if !a.1 then Bb (idx a.2.2.1 a.2.1) λg=>Bb (g) λh=>some (Dc (h.r>t.r),a.2.2.2.1,a.2.2.2.2.1,a.2.2.2.2.2.1)else some (false,a.2.2.2.1,a.2.2.2.2.1,a.2.2.2.2.2.1)) (λ(d:Bool × Option (List Ac) × Option (List (List Ac)) × Option (List Int))=>bindC (if d.1=true then Bb (d.2.1) λi=>Bb (d.2.2.1) λj=>Bb (d.2.2.2) λk=>Bb (app 104 a.2.2.2.2.2.2 ([(⟨t.r,t.K,t.O,⟨i,j,t.b.c,k⟩⟩:Am)])) λm=>some (.go (true,none,none,none,m))else some (.go (a.1,d.2.1,d.2.2.1,d.2.2.2,a.2.2.2.2.2.2))) (λ(f:Bool × Option (List Ac) × Option (List (List Ac)) × Option (List Int) × List Am)=>Bb (idx a.2.2.1 a.2.1) λn=>Bb (n) λo=>Bb (app 104 f.2.2.2.2 ([o])) λp=>some (.go (f.1,J7 (a.2.1+1),(a.2.2.1.set a.2.1.toNat none),f.2.1,f.2.2.1,f.2.2.2.1,p))))else some (.done (.go (a.1,a.2.2.2.1,a.2.2.2.2.1,a.2.2.2.2.2.1,a.2.2.2.2.2.2)))) (false,(0:Int),(l.map some),(some t.b.x),(some t.b.s),(some t.b.A),([]:List Am))) (λ(e:Bool × Option (List Ac) × Option (List (List Ac)) × Option (List Int) × List Am)=>bindC (if !e.1 then Bb (e.2.1) λq=>Bb (e.2.2.1) λu=>Bb (e.2.2.2.1) λv=>Bb (app 104 e.2.2.2.2 ([(⟨t.r,t.K,t.O,⟨q,u,t.b.c,v⟩⟩:Am)])) λw=>some (.go w)else some (.go e.2.2.2.2)) (λy=>some y))
def zsh {l:List Am} {t:Am} {U1 U2 U3:Va} :Kl 119 [U0,.agg #[iv t.r,iv t.K,iv t.O,U1,U2,iv t.b.c,U3]] [.own U0 (lc l),.own U1 (lc t.b.x),.own U2 (lc t.b.s),.own U3 (lc t.b.A)] [] (zh6 l t):=Ch r λZ=>by
 refine Sr<|Fo (Bx r (Ca ⟨Op',Op',Op',Ow' 1,Ow' 2,Op',Ow' 3,⟨⟩⟩)) λh=>Qn r<|Sr<|Fo (Bk [] ke30 kz87 r (Qz)) λo=>Kt (Ha [0] ([]:List Am) r Cz)<|Qn r<|Zw Z 9 r<|Jn (J0) [3] [] (λT X=>[(5,X.2.2.2),(6,.bool T.1)]) (λT X=>[.box h 87 [iv t.r,iv t.K,iv t.O,X.1,X.2.1,iv t.b.c,X.2.2.1],mayI X.1 T.2.1,mayI X.2.1 T.2.2.1,mayI X.2.2.1 T.2.2.2.1,.own X.2.2.2 (lc T.2.2.2.2)]) r2 r2 (?_) λU i=>?_
 ·refine Wb<|Kw (Hm [2] r)<|Lp (J0) [0,3] [] (λT X=>[(5,X.2.2.2),(6,.bool T.1),(7,iv T.2.1)]) (λT X=>[.box h 87 [iv t.r,iv t.K,iv t.O,X.1,X.2.1,iv t.b.c,X.2.2.1],.own U0 (lc T.2.2.1),mayI X.1 T.2.2.2.1,mayI X.2.1 T.2.2.2.2.1,mayI X.2.2.1 T.2.2.2.2.2.1,.own X.2.2.2 (lc T.2.2.2.2.2.2)]) (U1,U2,U3,.slice (some ⟨o,0,none⟩) 0 0) [2,0,1,1,1,0] r2 r2 λV a=>Dw Z 8 [1] r<|Wc r (λp=>?_) λp=>?_
  ·refine Sn<|Zw Z 4 r<|Jb (J1) [0,3,5,6,7] [1,4] (λT _=>[(26,.bool T.1)]) (λT X=>[.box h 87 [iv t.r,iv t.K,iv t.O,X.1,X.2.1,iv t.b.c,X.2.2],mayI X.1 T.2.1,mayI X.2.1 T.2.2.1,mayI X.2.2 T.2.2.2]) r2 r2 (Dz 6 [] [] r hMix<|Aq [0,1,2] r<|Ia (λe=>Ah Z e [3,4] [] [] r<|Ai λW n=>Ao Z n e [5,6,8,9] [] [0,1,0,0,2] r<|Ai λY q=>A1 7<|Xyg (gdA (zbr e)) r (Le kk3 (Oc 1 r) (zgy n q) r)<|Ah Z e [10,11] [] [] r<|Az<|Bg (a.1,a.2.1,a.2.2.1) [1,4,0,0,0,0]) λe=>Ah Z e [3,4,5,6,7,8,9,10,11] [] [] r<|Az<|Bg (a.1,a.2.1,a.2.2.1) [1,4,0,0,0,0]) λT8 d=>Ne<|Jn (J0) [0,3,7] [0] (λT X=>[(5,X.2.2.2),(6,.bool T.1)]) (λT X=>[.box h 87 [iv t.r,iv t.K,iv t.O,X.1,X.2.1,iv t.b.c,X.2.2.1],mayI X.1 T.2.1,mayI X.2.1 T.2.2.1,mayI X.2.2.1 T.2.2.2.1,.own X.2.2.2 (lc T.2.2.2.2)]) r2 r2 (?_) λaa j=>?_
   ·refine Wc r (λu=>?_) λu=>?_
    ·exact Dt Z 4 [2] r<|Bi λv w=>Kt (Mb [3] w r)<|Bi λy z=>Kt (Mb [4] z r)<|Bi λB C=>Kt (Mb [5] C r)<|Fo (Bk [ic t.r,ic t.K,ic t.O,.raw d.1,.raw d.2.1,ic t.b.c,.raw d.2.2] ke30 kz87 r (Qc (Ca ⟨Op',Op',Op',Ow' 2,Ow' 1,Op',Ow' 0,⟨⟩⟩)<|Qz)) λab=>Kt (Ha [0,2,1,0] ([(⟨t.r,t.K,t.O,⟨v,y,t.b.c,B⟩⟩:Am)]:List Am) r (Ck (Ck (Ck (Cf (Cf (Ck (Cf Cz))))))))<|Bi λac D=>Fo (Aw [2,0] D ke30 kz87 r) λE=>Qn r<|Zt Z 2 r<|Nl<|Ke Mn<|Ke Mn<|Ke Mn<|Jg (d.1,d.2.1,d.2.2,E) [4,4,2,1,0,0]
    exact Sk<|Jg (d.1,d.2.1,d.2.2,a.2.2.2) [0,1,1,1,1,0]
   exact Ne<|Zt Z 4 r<|Bi λad f=>Vx Z f 1 [] r<|TO.fact (zbD (Oc 0 r) f) λae=>Bi λg k=>Gt (X:=J1) (Ho 3 [0] (zgy f k) r r1) λm=>Yo (Lh 0 kk87 (zgy f k) r)<|Fo (Bk [ic g.r,ic g.K,ic g.O,.raw m.1,.raw m.2.1,ic g.b.c,.raw m.2.2] ke30 kz87 r (Qc (Ca ⟨Op',Op',Op',Ow' 1,Ow' 2,Op',Ow' 3,⟨⟩⟩)<|Qz)) λaf=>Kt (Ha [0,1,1,1] ([g]:List Am) r (Ck (Ck (Ck (Cf (Cf (Ck (Cf Cz))))))))<|Bi λag F=>Fo (Aw [6,0] F ke30 kz87 r) λG=>Qo r<|Nl<|Bn<|Ne<|Zt Z 4 r<|Nl<|Ke (Hc (α:=(Option Am)) [1] none (zgy f k) r (Cd (Cd (Cd (Cd (Cd (Cd (Cd Cz))))))))<|Lg (j.1,j.2.1,j.2.2.1,G) [2,0,1,1,1,0]
  exact We<|Jg (a.1,a.2.1,a.2.2.1,a.2.2.2) [0,1,1,1,1]
 exact Ne<|Zw Z 6 r<|Jn Va [] [] (λ_ X=>[(5,X)]) (λT X=>[.own X (lc T)]) r2 r2 (Wc r (λH=>Zt Z 3 r<|Bi λI J=>Kt (Mb [1] J r)<|Bi λL M=>Kt (Mb [2] M r)<|Bi λN P=>Kt (Mb [3] P r)<|Fo (Bk [ic t.r,ic t.K,ic t.O,.raw i.1,.raw i.2.1,ic t.b.c,.raw i.2.2.1] ke30 kz87 r (Qc (Ca ⟨Op',Op',Op',Ow' 2,Ow' 1,Op',Ow' 0,⟨⟩⟩)<|Qz)) λah=>Kt (Ha [0,2,1,0] ([(⟨t.r,t.K,t.O,⟨I,L,t.b.c,N⟩⟩:Am)]:List Am) r (Ck (Ck (Ck (Cf (Cf (Ck (Cf Cz))))))))<|Bi λai Q=>Fo (Aw [2,0] Q ke30 kz87 r) λR=>Qo r<|Nl<|Jg R [0]) λH=>Sk<|Jg i.2.2.2 [4]) λaj S=>Ne<|Zw Z 5 r<|Wr<|Re S [0]
def zeh (n:Int):Option J2:=Bb (zz n 0 562949953421311) λc=>if !c then some ([])else bindC (loopO (λ(a:Int × J2)=>if Dc (a.1>=128)then Bb (app 1 a.2 ([toU8 (J7 ((128:Int)+(Ii a.1 128)))])) λd=>some (.go (J7 (Il a.1 128),d))else some (.done (.go (a.1,a.2)))) (n,([]:J2))) (λb=>Bb (app 1 b.2 ([toU8 b.1])) λe=>some e)
def zhy:Ks 127 [iv n] [] [] (zeh n):=Ch r λZ=>Zt Z 8 r<|Cc Z [] [] zu r r2 λj k _=>Qn r<|Wc r (λa=>Zw Z 4 r<|Wv<|Rq) λa=>Sn<|Sr<|Fo (Bs ([]:J2) ke103 kz5) λb=>Qn r<|Sq<|Jn Va [] [] (λT X=>[(0,iv T.1),(3,X)]) (λT X=>[.own X (lc T.2)]) r2 r2 (Wb<|Lp Va [] [] (λT X=>[(0,iv T.1),(3,X)]) (λT X=>[.own X (lc T.2)]) (.slice (some ⟨b,0,none⟩) 0 0) [0] r2 r2 λc d=>Zw Z 6 r<|Wc r (λe=>Sn<|Zt Z 5 r<|Yo (Y.rem (by decide) r r)<|Qo r<|Yo (Y.conv8 ki3 ki5 r)<|Fo (Bs [toU8 (J7 ((128:Int)+(Ii c.1 128)))] ke103 kz5) λl=>Bi λm f=>Fo (Ap [1] f ke103 kz5 r (Oc 0 r)) λg=>Qn r<|Zt Z 2 r<|Yo (Y.quo (by decide) r r)<|Qo r<|Nl<|Bn<|Lg g [0]) λe=>We<|Jg d [0]) λh o=>Ne<|Zt Z 4 r<|Yo (Y.conv8 ki3 ki5 r)<|Fo (Bs [toU8 h.1] ke103 kz5) λp=>Bi λq i=>Fo (Ap [1] i ke103 kz5 r (Oc 0 r)) λs=>Yo (Y.toStr ke103 ki5 ks9 (Oc 0 r) r)<|Qn r<|Wr<|Rq
def zi6 (n h:Int):Option J2:=Bb (Bb (zz h 1 7) λc=>if !c then some true else some (Dc (n<0))) (λd=>if d=true then some ([])else bindC (loopO (λ(a:Int × J2 × Int)=>if Dc (a.2.2<h)then Bb (cat ([toU8 (Ii a.1 256)]) a.2.1) λe=>some (.go (J7 (Il a.1 256),e,J7 (a.2.2+1)))else some (.done (.go (a.1,a.2.1)))) (n,[],(0:Int))) (λb=>if Dc (b.1>0)then some ([])else some b.2))
def ztc {A:Int} :Ks 192 [iv n,iv A] [] [] (zi6 n A):=Ch r λZ=>Zw Z 6 r<|Jv [0,1] (λT=>[(13,.bool T)]) r1 (Zt Z 2 r<|Cc Z [] [] zu r r2 λg h _=>Qs 2 r<|It (λa=>Vg Z a 3 [] r<|Nl<|Bv) λa=>Vg Z a 3 [] r<|Nl<|Bv) λi=>Ne<|Wc r (λb=>Zw Z 4 r<|Wv<|Rq) λb=>Sn<|Zw Z 9 r<|Ju [] (λT=>[(0,iv T.1),(5,strV T.2)]) r1 (Wb<|Lu [1] (λT=>[(0,iv T.1),(5,strV T.2.1),(6,iv T.2.2)]) r1 λc=>Zw Z 7 r<|Wc r (λd=>Sn<|Zt Z 5 r<|Yo (Y.rem (by decide) r r)<|Yo (Y.conv8 ki3 ki5 r)<|Fo (Bs [toU8 (Ii c.1 256)] ke103 kz5) λj=>Yo (Y.toStr ke103 ki5 ks9 (Oc 0 r) r)<|Qo r<|Bi λk e=>Yo (Y.cat e r r)<|Qn r<|Zt Z 2 r<|Yo (Y.quo (by decide) r r)<|Qo r<|Nl<|Bn<|Ne<|Zt Z 4 r<|Nl<|Lq) λd=>We<|Jq) λl=>Ne<|Zw Z 6 r<|Wc r (λf=>Zw Z 4 r<|Wv<|Rq) λf=>Sn<|Zw Z 5 r<|Wr<|Rq
def zdV (kind n:Int):Option J2:=Bb (Bb (zz kind 0 255) λa=>if !a then some true else Bb (zz n 0 562949953421311) λb=>some (!b)) (λc=>if c=true then some ([])else Bb (zi6 n 7) λd=>Bb (cat ([toU8 kind,(0:UInt8),(0:UInt8),(0:UInt8),(0:UInt8)]) d) λe=>some e)
def zhQ {kind:Int} :Ks 129 [iv kind,iv n] [] [] (zdV kind n):=Ch r λZ=>Zw Z 6 r<|Jv [0,1] (λT=>[(12,.bool T)]) r1 (Zt Z 2 r<|Cc Z [] [] zu r r2 λf g _=>Qs 2 r<|It (λa=>Vg Z a 4 [] r<|Nl<|Bv) λa=>Vg Z a 1 [] r<|Bi λh b=>Fg (gdA (zn a)) (Cl [] zu b r r1) λ_=>Vg Z a 2 [] r<|Nl<|Bv) λi=>Ne<|Wc r (λc=>Zw Z 4 r<|Wv<|Rq) λc=>Sn<|Sq<|Wi λj d=>Wi λk e=>Dr [] [] r hMix<|Aq [0] r<|Ay 1 r (Y.conv8 ki3 ki5 r)<|Aq [4] r<|Ts (Sc 5 r (λ_ _ A=>Cl [] ztc d r r1) Sz) r<|Me 2 r (λ_ _ A=>Bs [toU8 kind,(0:UInt8),(0:UInt8),(0:UInt8),(0:UInt8)] ke103 kz5) λl=>Mi 3 r (λ_ _ A=>Y.toStr ke103 ki5 ks9 (Oc 0 r) r)<|Mc λ_=>Mo<|Ay 6 r (Y.cat e r r)<|Aq [7] r<|Az<|Ne<|Wr<|Rq
def zT (s:J2) (at_:Int):Option Int:=Bb (sidx s at_) λa=>Bb (sidx s (J7 (at_+1))) λb=>Bb (sidx s (J7 (at_+2))) λc=>Bb (sidx s (J7 (at_+3))) λd=>some (ior .i64 (ior .i64 (ior .i64 (J7 (a.toNat:Int)) (ishl .i64 (J7 (b.toNat:Int)) 8)) (ishl .i64 (J7 (c.toNat:Int)) 16)) (ishl .i64 (J7 (d.toNat:Int)) 24))
def zeR:Ki 245 [strV s,iv at_] [] [] (zT s at_):=Ch r λZ=>Zw Z 5 r<|Dr [] [] r hMix<|Aq [0,1] r<|Ai λe a=>Ay 2 r (Y.sidx a ks9 r r)<|Ay 3 r (Y.conv ki5 ki3 r)<|Aq [4,5,6] r<|Ai λf b=>Ay 7 r (Y.sidx b ks9 r r)<|Ay 8 r (Y.conv ki5 ki3 r)<|Ay 9 r (Y.shl (by decide) r r)<|Aq [10,11,12,13] r<|Ai λg c=>Ay 14 r (Y.sidx c ks9 r r)<|Ay 15 r (Y.conv ki5 ki3 r)<|Ay 16 r (Y.shl (by decide) r r)<|Aq [17,18,19,20] r<|Ai λh d=>Ay 21 r (Y.sidx d ks9 r r)<|Ay 22 r (Y.conv ki5 ki3 r)<|Ay 23 r (Y.shl (by decide) r r)<|Aq [24,25] r<|Az<|Ne<|Wr<|Rq
def zbM (x:Int):Option Int:=some (iand .i64 x 4294967295)
def zdc {x:Int} :Ki 247 [iv x] [] [] (zbM x):=Ch r λZ=>Zw Z 10 r<|Wr<|Rq
def zcF (x n:Int):Option Int:=Bb (nn n) λb=>Bb (zbM (ior .i64 (ishl .i64 x n) (ishr .i64 x (IntKind.u64.wrap ((32:Int) - n))))) λa=>some a
def zgh {x:Int} :Ki 281 [iv x,.int .u64 n] [] [] (zcF x n):=Ch r λZ=>Zt Z 8 r<|Bi λb a=>Yo (Y.shl (nn_ge a) r r)<|Qs 3 r<|Yo (Y.shr (zgl r _) r r)<|Qo r<|Cc Z [] [] zdc r r2 λc d _=>Qn r<|Wr<|Rq
def zk (s:List Int) (a b c d:Int):Option (List Int):=Bb (idx s a) λl=>Bb (idx s b) λm=>Bb (zbM (J7 (l+m))) λe=>Bb (idx (s.set a.toNat e) d) λn=>Bb (zcF (ixor .i64 n e) (16:Int)) λf=>Bb (idx ((s.set a.toNat e).set d.toNat f) c) λo=>Bb (zbM (J7 (o+f))) λg=>Bb (idx (((s.set a.toNat e).set d.toNat f).set c.toNat g) b) λp=>Bb (zcF (ixor .i64 p g) (12:Int)) λh=>Bb (idx ((((s.set a.toNat e).set d.toNat f).set c.toNat g).set b.toNat h) a) λq=>Bb (zbM (J7 (q+h))) λi=>Bb (idx (((((s.set a.toNat e).set d.toNat f).set c.toNat g).set b.toNat h).set a.toNat i) d) λt=>Bb (zcF (ixor .i64 t i) (8:Int)) λj=>Bb (idx ((((((s.set a.toNat e).set d.toNat f).set c.toNat g).set b.toNat h).set a.toNat i).set d.toNat j) c) λu=>Bb (zbM (J7 (u+j))) λk=>Bb (idx (((((((s.set a.toNat e).set d.toNat f).set c.toNat g).set b.toNat h).set a.toNat i).set d.toNat j).set c.toNat k) b) λv=>Bb (zcF (ixor .i64 v k) (7:Int)) λw=>some ((((((((s.set a.toNat e).set d.toNat f).set c.toNat g).set b.toNat h).set a.toNat i).set d.toNat j).set c.toNat k).set b.toNat w)
def zbw {s:List Int} {a b c d:Int} :Kl 246 [U0,iv a,iv b,iv c,iv d] [.own U0 (lc s)] [] (zk s a b c d):=Ch r λZ=>by
 refine Zw Z 5 r<|Dr [0] [13] r hMix<|Aq [0,1,2,3] r<|Ai λF e=>Ae Z e [4,5,6,7] [15392,15360] [0,0,200] r<|Ai λG m=>Ae Z m [8,9,10] [15872,15360] [0,0,200] r<|Ai λn o=>A1 11<|Xe r (Cl [] zdc o r r1) λ_=>Ae Z e [12] [8192] [] r<|A1 13<|Xu r (Se n 0 kk3 e r (Cp r) r)<|Az<|Ne<|Sq<|Dr [0] [13] r hMix<|Aq [0,1,2,3] r<|Ai λH f=>Ae Z f [4,5,6,7] [15392,15360] [0,0,200] r<|Ab 8 15872 r (Ix ke83 (Oc 0 r) (zg e) r)<|Ab 9 15360 r (Le kk3 (Oc 0 r) (zg e) r)<|Aq [10] r<|Ai λp q=>A1 11<|Xe r (Cl [] zgh q r r1) λ_=>Ae Z f [12] [8192] [] r<|A1 13<|Xu r (Se p 0 kk3 f r (Cp r) r)<|Az<|Ne<|Sq<|Dr [0] [13] r hMix<|Aq [0,1,2,3] r<|Ai λI g=>Ae Z g [4,5,6,7] [15392,15360] [0,0,200] r<|Ab 8 15872 r (Ix ke83 (Oc 0 r) (zg f) r)<|Ab 9 15360 r (Le kk3 (Oc 0 r) (zg f) r)<|Aq [10] r<|Ai λt u=>A1 11<|Xe r (Cl [] zdc u r r1) λ_=>Ae Z g [12] [8192] [] r<|A1 13<|Xu r (Se t 0 kk3 g r (Cp r) r)<|Az<|Ne<|Sq<|Dr [0] [13] r hMix<|Aq [0,1,2,3] r<|Ai λJ h=>Ae Z h [4,5,6,7] [15392,15360] [0,0,200] r<|Ab 8 15872 r (Ix ke83 (Oc 0 r) (zg g) r)<|Ab 9 15360 r (Le kk3 (Oc 0 r) (zg g) r)<|Aq [10] r<|Ai λv w=>A1 11<|Xe r (Cl [] zgh w r r1) λ_=>?_
 refine Ae Z h [12] [8192] [] r<|A1 13<|Xu r (Se v 0 kk3 h r (Cp r) r)<|Az<|Ne<|Sq<|Dr [0] [13] r hMix<|Aq [0,1,2,3] r<|Ai λK i=>Ae Z i [4,5,6,7] [15392,15360] [0,0,200] r<|Ab 8 15872 r (Ix ke83 (Oc 0 r) (zg h) r)<|Ab 9 15360 r (Le kk3 (Oc 0 r) (zg h) r)<|Aq [10] r<|Ai λx y=>A1 11<|Xe r (Cl [] zdc y r r1) λ_=>Ae Z i [12] [8192] [] r<|A1 13<|Xu r (Se x 0 kk3 i r (Cp r) r)<|Az<|Ne<|Sq<|Dr [0] [13] r hMix<|Aq [0,1,2,3] r<|Ai λL j=>Ae Z j [4,5,6,7] [15392,15360] [0,0,200] r<|Ab 8 15872 r (Ix ke83 (Oc 0 r) (zg i) r)<|Ab 9 15360 r (Le kk3 (Oc 0 r) (zg i) r)<|Aq [10] r<|Ai λz A=>A1 11<|Xe r (Cl [] zgh A r r1) λ_=>Ae Z j [12] [8192] [] r<|A1 13<|Xu r (Se z 0 kk3 j r (Cp r) r)<|Az<|Ne<|Sq<|Dr [0] [13] r hMix<|Aq [0,1,2,3] r<|Ai λM k=>Ae Z k [4,5,6,7] [15392,15360] [0,0,200] r<|Ab 8 15872 r (Ix ke83 (Oc 0 r) (zg j) r)<|Ab 9 15360 r (Le kk3 (Oc 0 r) (zg j) r)<|Aq [10] r<|Ai λB C=>A1 11<|Xe r (Cl [] zdc C r r1) λ_=>Ae Z k [12] [8192] [] r<|A1 13<|Xu r (Se B 0 kk3 k r (Cp r) r)<|Az<|Ne<|Sq<|Dr [0] [13] r hMix<|Aq [0,1,2,3] r<|Ai λN l=>Ae Z l [4,5,6,7] [15392,15360] [0,0,200] r<|Ab 8 15872 r (Ix ke83 (Oc 0 r) (zg k) r)<|Ab 9 15360 r (Le kk3 (Oc 0 r) (zg k) r)<|Aq [10] r<|Ai λD E=>?_
 exact A1 11<|Xe r (Cl [] zgh E r r1) λ_=>Ae Z l [12] [8192] [] r<|A1 13<|Xu r (Se D 0 kk3 l r (Cp r) r)<|Az<|Ne<|Zw Z 5 r<|Wr<|Re U0 [0]
def zjO (key:J2) (counter:Int) (nonce:J2):Option J2:=bindC (loopO (λ(b:Int × List Int)=>if Dc (b.1<8)then Bb (zT key (J7 ((4:Int)*b.1))) λf=>Bb (app 8 b.2 ([f])) λg=>some (.go (J7 (b.1+1),g))else some (.done (.go b.2))) ((0:Int),([(1634760805:Int),(857760878:Int),(2036477234:Int),(1797285236:Int)]))) (λh=>Bb (zT nonce 0) λi=>Bb (zT nonce 4) λj=>Bb (zT nonce 8) λk=>Bb (app 8 h ([counter,i,j,k])) λe=>Bb (app 8 ([]:List Int) e) λl=>bindC (loopO (λ(c:Int × List Int)=>if Dc (c.1<10)then Bb (zk c.2 0 4 (8:Int) (12:Int)) λm=>Bb (zk m 1 5 (9:Int) (13:Int)) λn=>Bb (zk n 2 6 (10:Int) (14:Int)) λo=>Bb (zk o 3 7 (11:Int) (15:Int)) λp=>Bb (zk p 0 5 (10:Int) (15:Int)) λq=>Bb (zk q 1 6 (11:Int) (12:Int)) λs=>Bb (zk s 2 7 (8:Int) (13:Int)) λt=>Bb (zk t 3 4 (9:Int) (14:Int)) λu=>some (.go (J7 (c.1+1),u))else some (.done (.go c.2))) ((0:Int),l)) (λv=>bindC (loopO (λ(a:Int × J2)=>if Dc (a.1<16)then Bb (idx v a.1) λw=>Bb (idx e a.1) λx=>Bb (zbM (J7 (w+x))) λd=>Bb (app 1 a.2 ([toU8 (iand .i64 d 255),toU8 (iand .i64 (ishr .i64 d 8) 255),toU8 (iand .i64 (ishr .i64 d 16) 255),toU8 (ishr .i64 d 24)])) λy=>some (.go (J7 (a.1+1),y))else some (.done (.go a.2))) ((0:Int),([]:J2))) (λz=>some z)))
def zqX:Ks 191 [strV key,iv counter,strV nonce] [] [] (zjO key counter nonce):=Ch r λZ=>by
 refine Zt Z 6 r<|Fo (Bs [(1634760805:Int),(857760878:Int),(2036477234:Int),(1797285236:Int)] ke83 kz3) λb=>Qn r<|Zw Z 5 r<|Jn Va [1,2] [] (λ_ X=>[(7,X)]) (λT X=>[.own X (lc T)]) r2 r2 (Wb<|Lp Va [0,1,2] [] (λT X=>[(7,X),(8,iv T.1)]) (λT X=>[.own X (lc T.2)]) (.slice (some ⟨b,0,none⟩) 4 4) [0] r2 r2 λz c=>Zw Z 6 r<|Wc r (λd=>Sn<|Zt Z 7 r<|Cc Z [] [] zeR r r2 λe A _=>Fo (Bs [e] ke83 kz3) λB=>Bi λC f=>Fo (Ap [1] f ke83 kz3 r (Oc 0 r)) λg=>Qo r<|Nl<|Bn<|Ne<|Zt Z 4 r<|Nl<|Lg g [0]) λd=>We<|Jg c [0]) λD E=>Ne<|Zt Z 5 r<|Cc Z [] [] zeR r r2 λh F _=>Qo r<|Cc Z [] [] zeR r r2 λi G _=>Qo r<|Cc Z [] [] zeR r r2 λj H _=>Fo (Bs [counter,h,i,j] ke83 kz3) λI=>Bi λJ k=>Fo (Ap [1] k ke83 kz3 r (Oc 0 r)) λK=>Qn r<|Sr<|Fo (Bs ([]:List Int) ke83 kz3) λL=>Qo r<|Bi λM l=>Fo (Ap [0] l ke83 kz3 r (Oc 1 r)) λm=>Qn r<|Zw Z 5 r<|Jn Va [7] [1] (λ_ X=>[(9,X)]) (λT X=>[.own X (lc T)]) r2 r2 (?_) λN O=>?_
 ·refine Wb<|Lp Va [7] [1] (λT X=>[(9,X),(10,iv T.1)]) (λT X=>[.own X (lc T.2)]) m [1,0] r2 r2 λP n=>Zw Z 6 r<|Wc r (λo=>?_) λo=>?_
  ·exact Sn<|Zt Z 5 r<|Cc Z [1] [] zbw r r2 λQ R S=>Qn r<|Zt Z 3 r<|Cc Z [0] [] zbw r r2 λU V W=>Qn r<|Zt Z 3 r<|Cc Z [0] [] zbw r r2 λaa ab ac=>Qn r<|Zt Z 3 r<|Cc Z [0] [] zbw r r2 λad ae af=>Qn r<|Zt Z 3 r<|Cc Z [0] [] zbw r r2 λag ah ai=>Qn r<|Zt Z 3 r<|Cc Z [0] [] zbw r r2 λaj ak al=>Qn r<|Zt Z 3 r<|Cc Z [0] [] zbw r r2 λam an ao=>Qn r<|Zt Z 2 r<|Cc Z [0] [] zbw r r2 λap aq p=>Qo r<|Nl<|Bn<|Ne<|Zt Z 4 r<|Nl<|Lg p [1,0]
  exact We<|Jg n [0,0]
 refine Ne<|Sr<|Fo (Bs ([]:J2) ke103 kz5) λq=>Qn r<|Zw Z 5 r<|Jn Va [] [] (λ_ X=>[(11,X)]) (λT X=>[.own X (lc T)]) r2 r2 (?_) λar au=>?_
 ·refine Wb<|Lp Va [7,9] [1,1] (λT X=>[(11,X),(12,iv T.1)]) (λT X=>[.own X (lc T.2)]) (.slice (some ⟨q,0,none⟩) 0 0) [1,1,0] r2 r2 λav s=>Zw Z 6 r<|Wc r (λt=>?_) λt=>?_
  ·exact Sn<|Zw Z 3 r<|Dz 3 [] [] r hMix<|Aq [0,1] r<|Ai λaw u=>Ae Z u [2,3,4,5] [] [1,0,201] r<|Ai λax v=>Ae Z v [6,7,8] [] [0,0,200] r<|Ai λa w=>A1 9<|Xe r (Cl [] zdc w r r1) λ_=>Aq [10] r<|Az<|Ne<|Zt Z 4 r<|Yo (Y.conv8 ki3 ki5 r)<|Qo r<|Yo (Y.shr (by decide) r r)<|Qo r<|Yo (Y.conv8 ki3 ki5 r)<|Qo r<|Yo (Y.shr (by decide) r r)<|Qo r<|Yo (Y.conv8 ki3 ki5 r)<|Qo r<|Yo (Y.shr (by decide) r r)<|Yo (Y.conv8 ki3 ki5 r)<|Fo (Bs [toU8 (iand .i64 a 255),toU8 (iand .i64 (ishr .i64 a 8) 255),toU8 (iand .i64 (ishr .i64 a 16) 255),toU8 (ishr .i64 a 24)] ke103 kz5) λay=>Bi λaz x=>Fo (Ap [3] x ke103 kz5 r (Oc 0 r)) λy=>Qo r<|Nl<|Bn<|Ne<|Zt Z 4 r<|Nl<|Lg y [2,2,0]
  exact We<|Jg s [2]
 exact Ne<|Zt Z 3 r<|Yo (Y.toStr ke103 ki5 ks9 (Oc 0 r) r)<|Qn r<|Wr<|Rq
def zct (key:J2) (counter:Int) (nonce:J2):Option J2:=Bb (if !(Dc ((key.length:Int)=32))then some true else if !(Dc ((nonce.length:Int)=12))then some true else Bb (zz counter 0 4294967295) λa=>some (!a)) (λb=>if b=true then some ([])else Bb (zjO key counter nonce) λc=>some c)
def zhq:Ks 128 [strV key,iv counter,strV nonce] [] [] (zct key counter nonce):=Ch r λZ=>Zw Z 6 r<|Jv [0,1,2] (λT=>[(19,.bool T)]) r1 (Zt Z 2 r<|Yo (Y.slen ks9 r)<|Qs 2 r<|It (λa=>Vg Z a 5 [] r<|Of 3 r r r<|Yo (Pt r r)<|Nl<|Bv) λa=>Vg Z a 1 [] r<|Yg (gdA (zn a)) (Y.slen ks9 r)<|Vg Z a 3 [] r<|It (λb=>Vg Z b 4 [] r<|Nl<|Bv) λb=>Vg Z b 1 [] r<|Bi λe c=>Fg (gdA (zn b)) (Cl [] zu c r r1) λ_=>Vg Z b 2 [] r<|Nl<|Bv) λf=>Ne<|Wc r (λd=>Zw Z 4 r<|Wv<|Rq) λd=>Sn<|Zt Z 5 r<|Cc Z [] [] zqX r r2 λg h _=>Qn r<|Wr<|Rq
def zcK (secret:J2) (tenant A:Int):Option J2:=Bb (if !(Dc ((secret.length:Int)=32))then some true else Bb (zz tenant 1 99) λa=>if !a then some true else Bb (zz A 0 1000000) λb=>some (!b)) (λc=>if c=true then some ([])else Bb (zeh tenant) λd=>Bb (zeh A) λe=>Bb (cat d e) λf=>Bb (zdV 2 tenant) λg=>Bb (zct secret A g) λh=>Bb (ssub h 0 8) λi=>Bb (cat f i) λj=>some j)
def zgs {secret:J2} {A:Int} :Ks 80 [strV secret,iv tenant,iv A] [] [] (zcK secret tenant A):=Ch r λZ=>Zw Z 6 r<|Jv [0,1,2] (λT=>[(19,.bool T)]) r1 (Zt Z 2 r<|Yo (Y.slen ks9 r)<|Qs 2 r<|It (λa=>Vg Z a 5 [] r<|Of 3 r r r<|Yo (Pt r r)<|Nl<|Bv) λa=>Vg Z a 1 [] r<|Bi λi c=>Fg (gdA (zn a)) (Cl [] zu c r r1) λ_=>Vg Z a 3 [] r<|It (λb=>Vg Z b 4 [] r<|Nl<|Bv) λb=>Vg Z b 1 [] r<|Bi λj d=>Fg (gdA (zn b)) (Cl [] zu d r r1) λ_=>Vg Z b 2 [] r<|Nl<|Bv) λk=>Ne<|Wc r (λe=>Zw Z 4 r<|Wv<|Rq) λe=>Sn<|Zt Z 3 r<|Cc Z [] [] zhy r r2 λl m _=>Qo r<|Cc Z [] [] zhy r r2 λn o _=>Bi λp f=>Yo (Y.cat f r r)<|Qs 3 r<|Cc Z [] [] zhQ r r2 λq s _=>Cc Z [] [] zhq r r2 λt u _=>Bi λv g=>Yo (Y.ssub_to g ks9 r r)<|Bi λw h=>Yo (Y.cat h r r)<|Qn r<|Wr<|Rq
def zfC (s:Af) (c:As):Option (Af × At):=Bb (Bb (zz c.q 1 99) λd=>if !d then some true else Bb (zz c.N 0 40) λe=>if !e then some true else if !(Dc ((c.g.length:Int)=32))then some true else Bb (zfB s.a c.q) λf=>some (Dc (f>=0))) (λh=>if h=true then Bb (zF 1) λi=>some (s,i)else if Dc ((s.a.length:Int)>=4)then Bb (zF 4) λj=>some (s,j)else Bb (zby s.u c.q c.N) λb=>if !b.2 then Bb (zF 6) λk=>some (s,k)else Bb (zh2 s.m c.q c.g) λl=>Bb (zh6 s.a (⟨c.q,0,0,⟨[],[],0,[]⟩⟩:Am)) λn=>Bb (zcK s.F c.q 0) λo=>some ((⟨s.F,l.1,b.1,n,s.D,s.I,s.B⟩:Af),(⟨0,1,o,[]⟩:At)))
def zoV {s:Af} {c:As} {U1 U2 U3 U4 U5:Va} :Cn Pg 76 [.agg #[strV s.F,strV s.m.L,U0,iv s.m.H,iv s.u.G,U1,U2,U3,U4,iv s.B],.agg #[iv c.E,strV c.R,iv c.q,iv c.N,strV c.g,strV c.T,U5]] [.own U0 (lc s.m.t),.own U1 (lc s.u.j),.own U2 (lc s.a),.own U3 (lc s.D),.own U4 (lc s.I)] [(U5,lc c.Q)] (zfC s c) (λr (X:Va × Va × Va × Va × Va × Va)=>.tuple #[.agg #[strV r.1.F,strV r.1.m.L,X.1,iv r.1.m.H,iv r.1.u.G,X.2.1,X.2.2.1,X.2.2.2.1,X.2.2.2.2.1,iv r.1.B],.agg #[iv r.2.V,iv r.2.N,strV r.2.P,X.2.2.2.2.2]]) λr X=>[.own X.1 (lc r.1.m.t),.own X.2.1 (lc r.1.u.j),.own X.2.2.1 (lc r.1.a),.own X.2.2.2.1 (lc r.1.D),.own X.2.2.2.2.1 (lc r.1.I),.own X.2.2.2.2.2 (lc r.2.j)]:=Ch r λZ=>by
 refine Sr<|Fo (Bx r (Ca ⟨Op',Op',Ow' 0,Op',Op',Ow' 1,Ow' 2,Ow' 3,Ow' 4,Op',⟨⟩⟩)) λK=>Fo (Bx r (Ca ⟨Op',Op',Op',Op',Op',Op',Ob Z.1,⟨⟩⟩)) λM=>Fa kz33 r λO=>Fa kz54 r λS=>Nx<|Sq<|Sq<|Jv [2,3,4,5] (λT=>[(33,.bool T)]) r1 (?_) λU=>?_
 ·exact Dt Z 3 [0,2] r<|Cc Z [] [] zu r r2 λW H8 _=>Qs 2 r<|It (λb=>Vg Z b 6 [] r<|Of 4 r r r<|Yo (Pt r r)<|Qo r<|Of 6 r r r<|Yo (Pt r r)<|Nl<|Bg () [0,0,0,0,0,0,0,0,0]) λb=>Vg Z b 2 [0,0,0,2] r<|Bi λaa f=>Fg (gdA (zn b)) (Cl [] zu f r r1) λ_=>Vg Z b 3 [] r<|It (λd=>Vg Z d 6 [] r<|Of 6 r r r<|Yo (Pt r r)<|Nl<|Bg () [0,0,0,0,0,0,0,0,0]) λd=>Vg Z d 2 [0,0,0,2] r<|Yg (gdA (zn d)) (Y.slen ks9 r)<|Vg Z d 3 [] r<|It (λe=>Vg Z e 7 [] r<|Nl<|Bg () [0,0,0,0,0,0,0,0,0]) λe=>Vg Z e 4 [0,0,0,3,0,0,0,2] r<|Bi λab h=>Fg (gdA (zn e)) (Cl [] zjM h r r1 ⟨(Oc 6 r),⟨⟩⟩) λ_=>Vg Z e 2 [] r<|Nl<|Bg () [0,0,0,0,0,0,0,0,0]
 refine Ne<|Wc r (λi=>Sq<|Dz 9 [1] [2,3] r hMix<|Aj Z [0] [] [1] r<|Ai λac k=>A1 1<|Xe r (Cl [] zB k r r1) λl=>A1 2<|Xu r (Sj Z [1,999,0,0,6,0,0,7,8,9,10] r)<|A1 3<|Xu r (Sj Z [2,999,0,0,0,1] r)<|Az<|Ne<|Wv<|Rj (U0,U1,U2,U3,U4,l) [5,5,5,5,5,0] [1,2] r) λi=>Sn<|Dw Z 8 [0,3,6] r<|Wc r (λn=>Sq<|Dz 9 [1] [2,3] r hMix<|Aj Z [0] [] [1] r<|Ai λad o=>A1 1<|Xe r (Cl [] zB o r r1) λp=>A1 2<|Xu r (Sj Z [1,999,0,0,6,0,0,7,8,9,10] r)<|A1 3<|Xu r (Sj Z [2,999,0,0,0,1] r)<|Az<|Ne<|Wv<|Rj (U0,U1,U2,U3,U4,p) [5,5,5,5,5,0] [1,2] r) λn=>Sn<|Dt Z 8 [0,3,0,2,0,2] r<|Cc Z [] [5] zkm r r2 λae af v=>Qs 3 r<|Fa kz29 r λag=>Dv Z 2 [0,999,0,2] r<|Nx<|Zw Z 6 r<|Wc r (λw=>Sq<|Dz 11 [3,2] [2,3] r hMix<|Aj Z [0] [] [3] r<|Ai λah x=>A1 1<|Xe r (Cl [] zB x r r1) λy=>A1 2<|Xu r (Sj Z [1,999,0,0,8,0,0,9,10,11,12] r)<|A1 3<|Xu r (Sj Z [2,999,0,0,0,1] r)<|Az<|Ne<|Wv<|Rj (U0,U1,U2,U3,U4,y) [7,7,7,7,7,0] [1,2] r) λw=>Sn<|Dt Z 14 [0,0,5,999,0,2,0,5,0,4,0,4] r<|Cc Z [] [6] zsb r r2 λai aj z=>?_
 exact Qs 3 r<|Fa kz26 r λak=>Dv Z 2 [0,999,0,2] r<|Nx<|Dt Z 12 [0,0,7,999,0,2,0,0,7,0,6] r<|Yo (Bd kp87 kz87 (Pc r (Cp r)<|Pz) r)<|Bi λal A=>No 4<|No 1<|No 1<|Fo (Cl [13,2,1,0] zsh A r r1) λC=>Dv Z 2 [0,8,1] r<|Nx<|Sq<|Dz 13 [6,5] [7,8] r hMix<|Aj Z [0,1,2,3,4] [] [6,0,6,0,5] r<|Ai λam J=>A1 5<|Xe r (Cl [] zgs J r r1) λ_=>Ay 6 r (Bd kp54 kz54 (Pc r (Cp r)<|Pc r (Cp r)<|Pz) r)<|A1 7<|Xu r (Sj Z [0,999,0,0,5,0,0,7,3,12,13] r)<|A1 8<|Xu r (Sj Z [1] r)<|Az<|Ne<|Wr<|Ni 2<|Rj (z,v,C,U3,U4,J6) [5,6,3,9,9,0] [1,2] r
def zef (d:A7) (tenant:Int):Option J2:=bindC (loopO (λ(a:Int)=>Bb (if Dc (a<(d.t.length:Int))then Bb (zbl d) λc=>some c else some false) (λe=>if e=true then Bb (idx d.t a) λb=>if Dc (b.q=tenant)then some (.done (.done b.g))else some (.go (J7 (a+1)))else some (.done (.go ())))) (0:Int)) (λf=>some ([]))
def zjG:Ks 121 [.agg #[strV d.L,U0,iv d.H],iv tenant] [] [(U0,lc d.t)] (zef d tenant):=Ch r λZ=>Sr<|Fo (Bx r (Ca ⟨Op',Ob Z.1,Op',⟨⟩⟩)) λg=>Qn r<|Zw Z 5 r<|Jn Unit [] [] (λ_ _=>[]) (λ_ _=>[]) r2 r2 (Wb<|Lu [1,2] (λT=>[(5,iv T)]) r1 λh=>Sq<|Sq<|Jv [1,2,5] (λT=>[(14,.bool T)]) r1 (Dt Z 7 [0,0,100] r<|It (λa=>Vg Z a 1 [] r<|Bi λi c=>Fg (gdA (zbr a)) (Cl [] zht c r r1 ⟨(Bc Z.1),⟨⟩⟩) λ_=>Yo (Pt a r)<|Nl<|Bg () [0]) λa=>Vg Z a 3 [] r<|Nl<|Bg () [0]) λj=>Ne<|Wc r (λe=>Sn<|Zt Z 7 r<|Bi λk b=>Vx Z b 5 [100,0,101,0,0,300] r<|Nx<|Wc r (λf=>Vw (Kx Z (Xc b<|Xz)) 10 [0,0,100,0,101,0,0,300,0,1] r<|Wr<|Bu<|Rq) λf=>Sk<|Bn<|Ne<|Zt Z 4 r<|Nl<|Lg () [0]) λe=>We<|Jq) λl m=>Ne<|Zw Z 4 r<|Wr<|Rq
def zij (boot seq:Int):Option Bool:=Bb (Bb (zz boot 0 1000) λa=>if a=true then Bb (zz seq 0 999999) λb=>some b else some false) (λc=>some c)
def zn4 {boot seq:Int} :Kb 185 [iv boot,iv seq] [] [] (zij boot seq):=Ch r λZ=>Zw Z 5 r<|Jv [] (λT=>[(4,.bool T)]) r1 (Zt Z 2 r<|Cc Z [] [] zu r r2 λc d _=>Qo r<|It (λa=>Vg Z a 1 [] r<|Bi λe b=>Fg (gdA (zbr a)) (Cl [] zu b r r1) λ_=>Vg Z a 2 [] r<|Nl<|Bv) λa=>Vg Z a 4 [] r<|Nl<|Bv) λf=>Ne<|Wr<|Rq
def zdT (key:J2) (counter:Int) (nonce text:J2):Option J2:=Bb (zct key counter nonce) λd=>if Dc (d=([]))then some ([])else bindC (loopO (λ(a:Int × J2)=>if Dc (a.1<(text.length:Int))then Bb (zct key (J7 (counter+(J7 (Il a.1 64)))) nonce) λc=>if Dc (c=([]))then some (.done (.done ([])))else bindC (loopO (λ(b:Int × J2)=>Bb (if Dc (b.1<(text.length:Int))then some (Dc (b.1<J7 (a.1+64)))else some false) (λe=>if e=true then Bb (sidx text b.1) λf=>Bb (sidx c (J7 (b.1 - a.1))) λg=>Bb (app 1 b.2 ([(f ^^^ g)])) λh=>some (.go (J7 (b.1+1),h))else some (.done (.go b.2)))) (a.1,a.2)) (λi=>some (.go (J7 (a.1+64),i)))else some (.done (.go a.2))) ((0:Int),([]:J2))) (λj=>some j)
def zjF {text:J2} :Ks 187 [strV key,iv counter,strV nonce,strV text] [] [] (zdT key counter nonce text):=Ch r λZ=>by
 refine Zt Z 6 r<|Fo (Bs ([]:J2) ke103 kz5) λc=>Qn r<|Zt Z 6 r<|Cc Z [] [] zhq r r2 λp q _=>Qn r<|Wc r (λd=>Zw Z 4 r<|Wv<|Rq) λd=>Sn<|Zw Z 5 r<|Jn Va [] [] (λ_ X=>[(9,X)]) (λT X=>[.own X (lc T)]) r2 r2 (?_) λs t=>?_
 ·refine Wb<|Lp Va [0,1,2,3] [] (λT X=>[(9,X),(10,iv T.1)]) (λT X=>[.own X (lc T.2)]) (.slice (some ⟨c,0,none⟩) 0 0) [0] r2 r2 λu b=>Zt Z 5 r<|Yo (Y.slen ks9 r)<|Qn r<|Wc r (λe=>?_) λe=>?_
  ·refine Sn<|Zt Z 7 r<|Yo (Y.quo (by decide) r r)<|Qs 2 r<|Cc Z [] [] zhq r r2 λv w _=>Qn r<|Zw Z 6 r<|Wc r (λf=>Zw Z 4 r<|Wv<|Bu<|Rq) λf=>Sn<|Zw Z 5 r<|Jn Va [0,1,2,3,10] [] (λ_ X=>[(9,X)]) (λT X=>[.own X (lc T)]) r2 r2 (?_) λx g=>?_
   ·exact Wb<|Lp Va [0,1,2,3,10,11] [] (λT X=>[(9,X),(12,iv T.1)]) (λT X=>[.own X (lc T.2)]) b [0] r2 r2 λy h=>Sq<|Sq<|Jv [0,1,2,3,9,10,11,12] (λT=>[(44,.bool T)]) r1 (Zt Z 3 r<|Yo (Y.slen ks9 r)<|Qs 2 r<|It (λa=>Vg Z a 5 [] r<|Nl<|Bg () [0]) λa=>Vg Z a 5 [] r<|Nl<|Bg () [0]) λz=>Ne<|Wc r (λi=>Sn<|Sq<|Wb<|Dr [0] [11] r hMix<|Aq [0,1,2] r<|Ai λj k=>Ay 3 r (Y.sidx k ks9 r r)<|Aq [4,5,6,7] r<|Ai λl m=>Ay 8 r (Y.sidx m ks9 r r)<|Ay 9 r (Y.xor8 r r)<|A1 10<|Xe r (Bs [(j ^^^ l)] ke103 kz5) λA=>Ai λB n=>A1 11<|Xe r (Ap [1] n ke103 kz5 r (Oc 0 r)) λo=>Aq [12] r<|Az<|Bn<|Ne<|Zt Z 4 r<|Nl<|Lg o [0]) λi=>We<|Jg h [0]
   exact Bn<|Ne<|Zt Z 4 r<|Nl<|Lg g [0]
  exact We<|Jg b [0]
 exact Ne<|Zt Z 3 r<|Yo (Y.toStr ke103 ki5 ks9 (Oc 0 r) r)<|Qn r<|Wr<|Rq
def ze8 (s:J2):Option (Int × Int):=bindC (loopO (λ(S1:Int)=>Bb (if Dc (S1<=7)then some (Dc (S1<=(s.length:Int)))else some false) (λc=>if c=true then bindC (loopO (λ(a:Int × Int)=>if Dc (a.2>=0)then Bb (sidx s a.2) λd=>some (.go (J7 (J7 (a.1*128)+(Ii (J7 (d.toNat:Int)) 128)),J7 (a.2 - 1)))else some (.done (.go a.1))) ((0:Int),J7 (S1 - 1))) (λb=>Bb (ssub s 0 S1) λe=>Bb (zeh b) λf=>if Dc (f=e)then some (.done (.done (b,S1)))else some (.go (J7 (S1+1))))else some (.done (.go ())))) (1:Int)) (λg=>some ((0:Int),(0:Int)))
def zqR:Cn Pg 132 [strV s] [] [] (ze8 s) (λr (_:Unit)=>.tuple #[iv r.1,iv r.2]) λ_ _=>[]:=Ch r λZ=>by
 refine Zw Z 10 r<|Ju [] (λ_=>[]) r1 (?_) λh=>?_
 ·refine Wb<|Lu [0] (λT=>[(4,iv T)]) r1 λS1=>Sq<|Sq<|Jv [0,4] (λT=>[(14,.bool T)]) r1 (Zt Z 4 r<|It (λa=>Vg Z a 2 [] r<|Yg (gdA (zbr a)) (Y.slen ks9 r)<|Vg Z a 2 [] r<|Nl<|Bv) λa=>Vg Z a 5 [] r<|Nl<|Bv) λi=>Ne<|Wc r (λb=>?_) λb=>?_
  ·exact Sn<|Zw Z 13 r<|Ju [0,4] (λT=>[(5,iv T)]) r1 (Wb<|Lu [0,4] (λT=>[(5,iv T.1),(6,iv T.2)]) r1 λj=>Zw Z 6 r<|Wc r (λc=>Sn<|Zt Z 7 r<|Bi λk d=>Yo (Y.sidx d ks9 r r)<|Yo (Y.conv ki5 ki3 r)<|Yo (Y.rem (by decide) r r)<|Qs 2 r<|Nl<|Bn<|Ne<|Zt Z 4 r<|Nl<|Lq) λc=>We<|Jq) λl=>Ne<|Sq<|Dr [] [] r hMix<|Aq [0,2,3] r<|Ai λm e=>Ay 4 r (Y.ssub_to e ks9 r r)<|Ai λn f=>A1 1<|Xe r (Cl [] zhy f r r1) λ_=>Aq [5] r<|Az<|Ne<|Wc r (λg=>Zw Z 7 r<|Wr<|Bu<|Rq) λg=>Sk<|Bn<|Ne<|Zt Z 4 r<|Nl<|Lq
  exact We<|Jq
 exact Ne<|Zw Z 5 r<|Wr<|Rq
def zbz (s:J2) (at_ n:Int):Option (List Int × Int):=bindC (loopO (λ(a:Int × Int × List Int)=>if Dc (a.2.1<n)then Bb (if Dc (a.1<0)then some true else some (Dc (a.1>(s.length:Int)))) (λd=>if d=true then some (.done (.done (a.2.2,(-1:Int))))else Bb (ssub s a.1 (s.length:Int)) λe=>Bb (ze8 e) λb=>if Dc (b.2=0)then some (.done (.done (a.2.2,(-1:Int))))else Bb (app 8 a.2.2 ([b.1])) λf=>some (.go (J7 (a.1+b.2),J7 (a.2.1+1),f)))else some (.done (.go (a.1,a.2.2)))) (at_,(0:Int),([]:List Int))) (λc=>some (c.2,c.1))
def ziy:Cn Pg 82 [strV s,iv at_,iv n] [] [] (zbz s at_ n) (λr (X:Va)=>.tuple #[X,iv r.2]) λr X=>[.own X (lc r.1)]:=Ch r λZ=>by
 refine Zt Z 7 r<|Fo (Bs ([]:List Int) ke83 kz3) λc=>Qn r<|Zw Z 5 r<|Jn Va [] [] (λT X=>[(1,iv T.1),(8,X)]) (λT X=>[.own X (lc T.2)]) r2 r2 (?_) λl d=>?_
 ·refine Wb<|Lp Va [0,2] [] (λT X=>[(1,iv T.1),(8,X),(9,iv T.2.1)]) (λT X=>[.own X (lc T.2.2)]) (.slice (some ⟨c,0,none⟩) 0 0) [0] r2 r2 λm b=>Zw Z 7 r<|Wc r (λe=>?_) λe=>?_
  ·exact Sn<|Zw Z 4 r<|Jv [0,1,2,8,9] (λT=>[(25,.bool T)]) r1 (Zt Z 4 r<|It (λa=>Vg Z a 5 [] r<|Nl<|Bg () [0]) λa=>Vg Z a 2 [] r<|Yg (gdA (zn a)) (Y.slen ks9 r)<|Vg Z a 2 [] r<|Nl<|Bg () [0]) λo=>Ne<|Wc r (λf=>Zw Z 6 r<|Wv<|Bu<|Re b [0]) λf=>Sn<|Zt Z 4 r<|Bi λp g=>Yo (Y.ssub_from g ks9 r r)<|Cc Z [] [] zqR r r2 λh q _=>Qs 5 r<|Nx<|Zw Z 6 r<|Wc r (λi=>Zw Z 6 r<|Wv<|Bu<|Re b [0]) λi=>Sn<|Zt Z 4 r<|Fo (Bs [h.1] ke83 kz3) λt=>Bi λu j=>Fo (Ap [1] j ke83 kz3 r (Oc 0 r)) λk=>Qn r<|Zt Z 5 r<|Nl<|Bn<|Ne<|Zt Z 4 r<|Nl<|Lg k [0]
  exact We<|Jg b [0]
 exact Ne<|Zw Z 7 r<|Wr<|Re d [0]
def zdw (s:J2) (at_:Int):Option (J2 × Int):=Bb (zbz s at_ (1:Int)) λa=>Bb (if Dc (a.2<0)then some true else Bb (idx a.1 0) λc=>some (Dc (c>J7 ((s.length:Int) - a.2)))) (λd=>if d=true then some ([],(-1:Int))else Bb (idx a.1 0) λb=>Bb (ssub s a.2 (J7 (a.2+b))) λe=>some (e,J7 (a.2+b)))
def zl8:Cn Pg 242 [strV s,iv at_] [] [] (zdw s at_) (λr (_:Unit)=>.tuple #[strV r.1,iv r.2]) λ_ _=>[]:=Ch r λZ=>Zt Z 9 r<|Cc Z [] [] ziy r r2 λf g h=>Qs 5 r<|Nx<|Sq<|Sq<|Jv [0,6,7] (λT=>[(25,.bool T)]) r1 (Zt Z 4 r<|It (λa=>Vg Z a 9 [] r<|Nl<|Bg () [0]) λa=>Vg Z a 1 [] r<|Bi λi c=>Vk Z c a 3 [0,0,0,0,200] r<|Yg (gdA (zn a)) (Y.slen ks9 r)<|Vg Z a 4 [] r<|Nl<|Bg () [0]) λj=>Ne<|Wc r (λd=>Zw Z 5 r<|Wv<|Rq) λd=>Sn<|Sq<|Dz 1 [] [] r hMix<|Aq [0,1,2,3] r<|Ai λk b=>Ae Z b [4,5,6] [] [0,0,200] r<|Ai λl e=>Ay 7 r (Y.ssub_both e ks9 r r r)<|Ae Z b [8,9,10,11,12,13,14] [] [0,0,200] r<|Az<|Ne<|Wr<|Rq
def ze9 (o:Op):Option Bool:=Bb (Bb (zz (o.g.length:Int) (1:Int) (10:Int)) λa=>if a=true then if Dc ((o.J.length:Int)<=16)then if !o.M then some true else some (Dc (o.J=([])))else some false else some false) (λb=>some b)
def zkA {o:Op} :Kb 201 [.agg #[strV o.g,.bool o.M,strV o.J]] [] [] (ze9 o):=Ch r λZ=>Sr<|Fo (Bx r (Cp r)) λd=>Qn r<|Sq<|Jb Unit [] [] (λT _=>[(2,.bool T)]) (λ_ _=>[]) r2 r2 (Zt Z 3 r<|Yo (Y.slen ks9 r)<|Cc Z [] [] zu r r2 λe f _=>Qo r<|It (λb=>Vg Z b 2 [] r<|Yg (gdA (zbr b)) (Y.slen ks9 r)<|Vg Z b 3 [] r<|It (λa=>Vg Z a 4 [] r<|It (λc=>Vv (Kg Z (Gc c<|Gc a<|Gz)) 6 [0,0,0,1,0,1] r<|Nl<|Bv) λc=>Vv (Kg Z (Gc c<|Gc a<|Gz)) 6 [0,0,0,0,0,1,0,1] r<|Nl<|Bv) λa=>Vg Z a 4 [] r<|Ou 3 r r<|Vg Z a 3 [] r<|Nl<|Bv) λb=>Vg Z b 6 [] r<|Of 4 r r r<|Ou 3 r r<|Of 1 r r r<|Yo (Pf r r)<|Qo r<|Nl<|Bv) λh i=>Ne<|Wr<|Rq
def zcW (l:List Op):Option Bool:=Bb (zz (l.length:Int) (1:Int) (6:Int)) λb=>if !b then some false else bindC (loopO (λ(a:Int)=>if Dc (a<(l.length:Int))then Bb (idx l a) λc=>Bb (ze9 c) λd=>if !d then some (.done (.done false))else some (.go (J7 (a+1)))else some (.done (.go ()))) (0:Int)) (λe=>some true)
def zfx {l:List Op} :Kb 188 [U0] [] [(U0,lc l)] (zcW l):=Ch r λZ=>Dt Z 9 [100] r<|Cc Z [] [] zu r r2 λe f _=>Qn r<|Wc r (λa=>Zw Z 4 r<|Wv<|Rq) λa=>Sn<|Zw Z 5 r<|Ju [] (λ_=>[]) r1 (Wb<|Lu [0] (λT=>[(3,iv T)]) r1 λg=>Dw Z 8 [100] r<|Wc r (λb=>Sn<|Zt Z 6 r<|Bi λh c=>Vx Z c 2 [100,0,300] r<|Cc Z [] [] zkA r r2 λi j _=>Qn r<|Wc r (λd=>Zw Z 4 r<|Wr<|Bu<|Rq) λd=>Sk<|Bn<|Ne<|Zt Z 4 r<|Nl<|Lq) λb=>We<|Jq) λk=>Ne<|Zw Z 4 r<|Wr<|Rq
def zd1 (s:J2):Option J2:=Bb (zeh (s.length:Int)) λa=>Bb (cat a s) λb=>some b
def zhS:Ks 250 [strV s] [] [] (zd1 s):=Ch r λZ=>Zt Z 7 r<|Yo (Y.slen ks9 r)<|Cc Z [] [] zhy r r2 λb c _=>Qo r<|Bi λd a=>Yo (Y.cat a r r)<|Qn r<|Wr<|Rq
def zdY (l:List Op):Option J2:=Bb (zcW l) λc=>if !c then some ([])else Bb (zeh (l.length:Int)) λd=>bindC (loopO (λ(a:J2 × Int)=>if Dc (a.2<(l.length:Int))then Bb (idx l a.2) λb=>bindC (if b.M=true then Bb (cat a.1 ([1])) λe=>Bb (zd1 b.g) λf=>Bb (cat e f) λh=>some (.go h)else Bb (cat a.1 ([0])) λi=>Bb (zd1 b.g) λj=>Bb (cat i j) λk=>Bb (zd1 b.J) λm=>Bb (cat k m) λn=>some (.go n)) (λo=>some (.go (o,J7 (a.2+1))))else some (.done (.go a.1))) (d,(0:Int))) (λp=>some p)
def zjJ {l:List Op} :Ks 196 [U0] [] [(U0,lc l)] (zdY l):=Ch r λZ=>by
 refine Zt Z 8 r<|Cc Z [] [100] zfx r r2 λm n _=>Qn r<|Wc r (λb=>Zw Z 4 r<|Wv<|Rq) λb=>Sn<|Dt Z 4 [100] r<|Cc Z [] [] zhy r r2 λo p _=>Qn r<|Zw Z 5 r<|Ju [] (λT=>[(3,strV T)]) r1 (?_) λq=>?_
 ·refine Wb<|Lu [0] (λT=>[(3,strV T.1),(4,iv T.2)]) r1 λs=>Dw Z 8 [100] r<|Wc r (λc=>?_) λc=>?_
  ·exact Sn<|Zt Z 6 r<|Bi λt a=>Vx Z a 3 [100,0,101,0,0,300,0,1] r<|Nx<|Ju [0,4] (λT=>[(3,strV T)]) r1 (Wc r (λd=>Zt Z 2 r<|Bi λu e=>Yo (Y.cat e r r)<|Vx Z a 5 [100,0,101,0,0,300] r<|Cc Z [] [] zhS r r2 λv w _=>Bi λx f=>Yo (Y.cat f r r)<|Qo r<|Nl<|Jq) λd=>Dr [] [] r hMix<|Aq [0] r<|Ai λy g=>Ay 1 r (Y.cat g r r)<|Ae Z a [2,3,4,5,6,9,10,11,12,13] [] [100,0,101,0,0,300,0,0,100,0,101,0,0,300,0,2] r<|Ai λz h=>A1 7<|Xe r (Cl [] zhS h r r1) λ_=>Ai λA i=>Ay 8 r (Y.cat i r r)<|Ai λB j=>A1 14<|Xe r (Cl [] zhS j r r1) λ_=>Ai λC k=>Ay 15 r (Y.cat k r r)<|Aq [16] r<|Az<|Jq) λD=>Bn<|Ne<|Zt Z 4 r<|Nl<|Lq
  exact We<|Jq
 exact Ne<|Zw Z 5 r<|Wr<|Rq
def zck (s:J2):Option (List Op × Bool):=Bb (zbz s 0 1) λb=>Bb (if Dc (b.2<0)then some true else Bb (idx b.1 0) λh=>some (Dc (h>6))) (λi=>if i=true then some (([]:List Op),false)else bindC (loopO (λ(a:Int × Int × List Op)=>Bb (idx b.1 0) λj=>if Dc (a.2.1<j)then if Dc (a.1>=(s.length:Int))then some (.done (.done (([]:List Op),false)))else Bb (sidx s a.1) λf=>Bb (zdw s (J7 (a.1+1))) λc=>bindC (if !(Dc ((f.toNat:Int)=1))then Bb (zdw s c.2) λg=>some (.go (g.2,g.1))else some (.go (c.2,[]))) (λd=>if Dc (d.1<0)then some (.done (.done (([]:List Op),false)))else Bb (app 40 a.2.2 ([(⟨c.1,Dc ((f.toNat:Int)=1),d.2⟩:Op)])) λk=>some (.go (d.1,J7 (a.2.1+1),k)))else some (.done (.go a.2.2))) (b.2,(0:Int),([]:List Op))) (λe=>Bb (if Dc ((e.length:Int)=0)then some true else Bb (zdY e) λl=>some (!(Dc (l=s)))) (λm=>if m=true then some (([]:List Op),false)else some (e,true))))
def zoQ:Cn Pg 186 [strV s] [] [] (zck s) (λr (X:Va)=>.tuple #[X,.bool r.2]) λr X=>[.own X (lc r.1)]:=Ch r λZ=>by
 refine Zt Z 7 r<|Fo (Bs ([]:List Op) ke57 kz105) λc=>Qn r<|Zt Z 3 r<|Cc Z [] [] ziy r r2 λz A B=>Qs 5 r<|Nx<|Sq<|Sq<|Jv [0,4,5,6] (λT=>[(25,.bool T)]) r1 (Zt Z 4 r<|It (λb=>Vg Z b 5 [] r<|Nl<|Bg () [0,0]) λb=>Vg Z b 1 [] r<|Bi λC d=>Vk Z d b 4 [0,0,0,0,200] r<|Nl<|Bg () [0,0]) λD=>Ne<|Wc r (λe=>Zw Z 6 r<|Wv<|Re (.slice (some ⟨c,0,none⟩) 0 0) [1]) λe=>Sn<|Zw Z 5 r<|Jn Va [0] [] (λ_ X=>[(4,X)]) (λT X=>[.own X (lc T)]) r2 r2 (?_) λE f=>?_
 ·refine Wb<|Lp Va [0,5] [0] (λT X=>[(4,X),(6,iv T.1),(7,iv T.2.1)]) (λT X=>[.own X (lc T.2.2)]) (.slice (some ⟨c,0,none⟩) 0 0) [0,0] r2 r2 λF g=>Zt Z 5 r<|Bi λG h=>Vx Z h 3 [0,0,200] r<|Nx<|Wc r (λi=>?_) λi=>?_
  ·exact Sn<|Zt Z 7 r<|Yo (Y.slen ks9 r)<|Qn r<|Wc r (λj=>Sr<|Fo (Bs ([]:List Op) ke57 kz105) λk=>Qs 2 r<|Nx<|Wv<|Bu<|Re (.slice (some ⟨k,0,none⟩) 0 0) [0]) λj=>Sn<|Zt Z 4 r<|Bi λl m=>Yo (Y.sidx m ks9 r r)<|Qs 2 r<|Nx<|Zt Z 5 r<|Cc Z [] [] zl8 r r2 λn H _=>Qs 5 r<|Nx<|Zw Z 10 r<|Ju [0,4,5,7,8,9] (λT=>[(10,iv T.1),(11,strV T.2)]) r1 (Wc r (λo=>Zt Z 3 r<|Cc Z [] [] zl8 r r2 λI J _=>Qs 5 r<|Nl<|Jg () [0,0]) λo=>Sk<|Jg () [0,0]) λp=>Ne<|Zw Z 6 r<|Wc r (λq=>Sr<|Fo (Bs ([]:List Op) ke57 kz105) λt=>Qs 2 r<|Nx<|Wv<|Bu<|Re (.slice (some ⟨t,0,none⟩) 0 0) [0]) λq=>Sn<|Zt Z 6 r<|Yo (Bd kp105 kz105 (Pc r (Cp r)<|Pc r (Cp r)<|Pc r (Cp r)<|Pz) r)<|Fo (Bs [(⟨n.1,Dc ((l.toNat:Int)=1),p.2⟩:Op)] ke57 kz105) λK=>Bi λL u=>Fo (Ap [2] u ke57 kz105 r (Oc 0 r)) λv=>Qn r<|Zt Z 3 r<|Nl<|Bn<|Ne<|Zt Z 4 r<|Nl<|Lg v [2,0]
  exact We<|Jg g [1]
 exact Ne<|Sq<|Sq<|Jv [4] (λT=>[(77,.bool T)]) r1 (Zt Z 5 r<|It (λa=>Vg Z a 5 [] r<|Nl<|Bg () [0]) λa=>Vg Z a 1 [] r<|Bi λM w=>Fg (gdA (zn a)) (Cl [] zjJ w r r1 ⟨(Oc 0 r),⟨⟩⟩) λ_=>Vg Z a 3 [] r<|Nl<|Bg () [0]) λN=>Ne<|Wc r (λx=>Sr<|Fo (Bs ([]:List Op) ke57 kz105) λy=>Qs 2 r<|Nx<|Wv<|Re (.slice (some ⟨y,0,none⟩) 0 0) [0]) λx=>Sn<|Zw Z 6 r<|Wr<|Re f [0]
def zdW (key:J2) (boot seq:Int) (s:J2):Option (List Op × Bool):=Bb (if !(Dc ((key.length:Int)=32))then some true else Bb (zij boot seq) λb=>some (!b)) (λc=>if c=true then some (([]:List Op),false)else Bb (zdV 3 (J7 (J7 (boot*1000000)+seq))) λd=>Bb (zdT key 0 d s) λe=>Bb (zck e) λa=>some (a.1,a.2))
def zoP {boot seq:Int} :Cn Pg 120 [strV key,iv boot,iv seq,strV s] [] [] (zdW key boot seq s) (λr (X:Va)=>.tuple #[X,.bool r.2]) λr X=>[.own X (lc r.1)]:=Ch r λZ=>Zw Z 7 r<|Jv [0,1,2,3] (λT=>[(20,.bool T)]) r1 (Zt Z 2 r<|Yo (Y.slen ks9 r)<|Qs 2 r<|It (λa=>Vg Z a 5 [] r<|Nl<|Bv) λa=>Vg Z a 2 [] r<|Bi λf b=>Fg (gdA (zn a)) (Cl [] zn4 b r r1) λ_=>Vg Z a 2 [] r<|Nl<|Bv) λg=>Ne<|Wc r (λc=>Sr<|Fo (Bs ([]:List Op) ke57 kz105) λd=>Qs 2 r<|Nx<|Wv<|Re (.slice (some ⟨d,0,none⟩) 0 0) [0]) λc=>Sn<|Zt Z 7 r<|Cc Z [] [] zhQ r r2 λh i _=>Qo r<|Cc Z [] [] zjF r r2 λj k _=>Cc Z [] [] zoQ r r2 λl m e=>Qs 5 r<|Nx<|Zw Z 7 r<|Wr<|Re e [0]
def zja (e:Ac):Option Bool:=Bb (Bb (ze9 (⟨e.g,e.M,e.J⟩:Op)) λa=>if a=true then Bb (zz e.c 0 1000000) λb=>some b else some false) (λd=>some d)
def ztg {e:Ac} :Kb 251 [.agg #[strV e.g,iv e.c,.bool e.M,strV e.J]] [] [] (zja e):=Ch r λZ=>Sr<|Fo (Bx r (Cp r)) λd=>Qn r<|Sq<|Jb Unit [] [] (λT _=>[(2,.bool T)]) (λ_ _=>[]) r2 r2 (Zt Z 7 r<|Yo (Bd kp105 kz105 (Pc r (Cp r)<|Pc r (Cp r)<|Pc r (Cp r)<|Pz) r)<|Cc Z [] [] zkA r r2 λf h _=>Qo r<|It (λa=>Vg Z a 2 [] r<|Bi λi b=>Fg (gdA (zbr a)) (Cl [] zu b r r1) λ_=>Vg Z a 2 [] r<|Nl<|Bv) λa=>Vg Z a 5 [] r<|Nl<|Bv) λj k=>Ne<|Wr<|Rq
def zcX (a b:Ac):Option Bool:=Bb (if sLt a.g b.g then some true else if Dc (a.g=b.g)then some (Dc (a.c>b.c))else some false) (λd=>some d)
def zfH {a b:Ac} :Kb 243 [.agg #[strV a.g,iv a.c,.bool a.M,strV a.J],.agg #[strV b.g,iv b.c,.bool b.M,strV b.J]] [] [] (zcX a b):=Ch r λZ=>Sr<|Fo (Bx r (Cp r)) λf=>Fo (Bx r (Cp r)) λh=>Qn r<|Sq<|Jb Unit [] [] (λT _=>[(4,.bool T)]) (λ_ _=>[]) r2 r2 (Dt Z 7 [0,1] r<|It (λd=>Vg Z d 6 [] r<|Ou 5 r r<|Vg Z d 3 [] r<|Nl<|Bv) λd=>Vg Z d 6 [0,0,0,1] r<|It (λe=>Vv (Kg Z (Gc e<|Gc d<|Gz)) 8 [0,0,0,1,0,0,0,0,0,1,0,1] r<|Nl<|Bv) λe=>Vv (Kg Z (Gc e<|Gc d<|Gz)) 8 [0,0,0,0,0,1,0,1] r<|Nl<|Bv) λi j=>Ne<|Wr<|Rq
end Go.Proofs.YtblaakdafebglaaGreat
end
end
