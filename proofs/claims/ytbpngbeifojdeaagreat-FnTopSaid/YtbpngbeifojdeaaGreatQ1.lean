/-
  The functions that a law reaches, each as a pure function, with the proof that the program computes it, and the step from a pure law to the given statement. Conditions: none.
-/
import Derived.Test.YtbpngbeifojdeaaGreatPm
import Derived.Lib.Bytealg
import Derived.Test.YtbpngbeifojdeaaGreatRows
set_option linter.unusedVariables false
set_option linter.unusedSimpArgs false
set_option linter.defProp false
set_option maxRecDepth 100000
set_option maxHeartbeats 4000000
section
open Decidable renaming decide->Dc
open Prod.mk renaming injEq->Xh
open List renaming replicate->Xi,take_append_drop->Xo,flatMap_append->Xq,nodup_append->Xs,length_take->Xv,flatMap_cons->Xx,perm_append_comm->Yb,singleton_append->Yc,length_replicate->Yd,length_append->Yh,length_drop->Yl,cons_append->Ym,length_map->Yn,append_nil->Yp,mem_append->Yq,nil_append->Yr,map_cons->Yt
open Bool renaming and_eq_true->Xj,not_eq_true'->Xp
open Nat renaming blt->Xk,beq->Xl,ble_eq_true_of_le->Xt,ble->Xw,mul_le_mul_right->Yf,zero_add->Yi,add->Yj
open List.cons renaming injEq->Xm
open Option.some renaming injEq->Xn
open Option renaming map_some->Ya,bind_some->Yk
open Array renaming toArray_toList->Ye
open Int renaming ofNat_inj->Yu
open Go renaming Value->Va,World->Wo,Operand->Od,Program->Pm,TypeId->Ti,IntKind->Ik
namespace Go.Proofs.YtbpngbeifojdeaaGreat.Sl
open Go Go.RowKit
variable {v u:Va} {is is' aq rest pre bs aq' bs':J6} {fr' fr:Fr} {x:Od} {P:Pm} {ops ops':Array Oper} {X R α τ β σ ρ:Type} {n sz t s fuel2 j by_ k e d dj o fuel L sz':Nat} {w0:Wo} {S0 hs' S hs S1:J5} {i:Int} {c c':Code} {m:Option R} {z:α} {l':List Oper} {gd:Option (Nat × Bool)} {Q Q':R->Exit->Act->Wo->Prop} {b want ag:Bool} {ty:Ti} {aft:Array Edge} {fn:Func} {post:R->X->J6} {q:R} {f:FuncId} {us args vs Vs:J4} {dst:Option Nat} {H:Hd} {ats:Array Ti} {cs ds cs' zs:List C} {frf:τ->X->Fr} {isf:τ->X->J6} {ps:List (Nat × Od)} {os:List Od} {ls:List (Option α)} {k':Ik} {g:Nat × Bool} {uss:List J4} {l:List α}
def r.{u} {α:Sort u} {a:α} :a=a:=rfl
def r1.{u,v} {X:Sort u} {α:Sort v} {f:X->α} : ∀x,f x=f x:=λ_=>rfl
def r2.{u,v,t} {T:Sort t} {X:Sort u} {α:Sort v} {f:T->X->α} : ∀t x,f t x=f t x:=λ_ _=>rfl
abbrev iv (n:Int):Va:=.int .i64 n
abbrev ic (n:Int):C:=.int .i64 n
abbrev pt (b:Nat):Va:=.pointer (some ⟨b,0,none⟩)
def pullK {β:Type} :Nat->J6->(Item->J6->Option β)->Option β
 | _,[],_=>none
 | 0,i::s,k=>k i s
 | n+1,i::s,k=>pullK n s λj t=>k j (i::t)
def takeK {β:Type} :J5->J6->(J6->J6->Option β)->Option β
 | [],is,k=>k [] is
 | n::ns,is,k=>pullK n is λi s=>takeK ns s λjs t=>k (i::js) t
def appK {β:Type} :J6->J6->(J6->Option β)->Option β
 | [],js,k=>k js
 | i::is,js,k=>appK is js λs=>k (i::s)
def setK {β:Type} :Nat->J6->Item->(J6->Option β)->Option β
 | _,[],_,_=>none
 | 0,_::s,j,k=>k (j::s)
 | n+1,i::s,j,k=>setK n s j λt=>k (i::t)
def keepK {β:Type} :J5->Fr->Fr->(Fr->Option β)->Option β
 | [],_,ex,k=>k ex
 | d::ds,fr,ex,k=>match lk d fr with
   | some v=>keepK ds fr ex λt=>k ((d,v)::t)
   | none=>none
def takeI (A:J5) (is h:J6):Option J6:=takeK A is λpre _=>appK pre h some
def takeP (h:J5) (is:J6):Option (J6 × J6):=takeK h is λpre rest=>some (pre,rest)
def zAl {k:Item->J6->Option β} {b:β} (h:pullK n is k=some b): ∃i s,pull n is=some (i,s)/\k i s=some b:=by
 induction n generalizing is k with
 | zero=>
   cases is with
   | nil=>cases h
   | cons i s=>exact ⟨i,s,rfl,h⟩
 | succ n ih=>
   cases is with
   | nil=>cases h
   | cons i s=>obtain ⟨j,t,a,c⟩:=ih h;exact ⟨j,i::t,by simp only[pull,a],c⟩
def zAE {E:J5} {k:J6->J6->Option β} {b:β} (h:takeK E is k=some b):
    ∃pre rest,k pre rest=some b/\∀w S,sats w is S->∃T,sats w (pre++rest) T/\T.Perm S:=by
 induction E generalizing is k with
 | nil=>exact ⟨[],is,h,λw S D=>⟨S,D,.refl _⟩⟩
 | cons n E ih=>obtain ⟨i,s,a,c⟩:=zAl h;obtain ⟨pre,rest,d,e⟩:=ih c;refine ⟨i::pre,rest,d,λw S D=>?_⟩;obtain ⟨A,B,F,G,f⟩:=ztS a D;obtain ⟨T,I,g⟩:=e w B G;exact ⟨A++T,⟨A,T,rfl,F,I⟩,(List.Perm.append_left A g).trans f⟩
def St.takeK {β:Type} {w0 w:Wo} {S0 D:J5} {is:J6} {k:J6->J6->Option β} {b:β} (h:Sl.takeK D is k=some b):
    ∃pre rest,k pre rest=some b/\∀w,St w0 S0 is w->St w0 S0 (pre++rest) w:=by obtain ⟨pre,rest,c,d⟩:=zAE h;refine ⟨pre,rest,c,λw ⟨os,tape,output,size,base,S,A,e,f⟩=>?_⟩;obtain ⟨T,B,a⟩:=d w S A;exact ⟨os,tape,output,size,base,T,B,a.nodup_iff.2 e,λb g=>f b (a.mem_iff.1 g)⟩
def zmg {js:J6} {k:J6->Option β} :appK is js k=k (is++js):=by
 induction is generalizing k with
 | nil=>rfl
 | cons i is ih=>exact ih
def zsI {j:Item} {k:J6->Option β} {b:β} (h:setK n is j k=some b):k (is.set n j)=some b:=by
 induction n generalizing is k with
 | zero=>
   cases is with
   | nil=>cases h
   | cons i s=>exact h
 | succ n ih=>
   cases is with
   | nil=>cases h
   | cons i s=>exact ih h
def St.takeP {w0 w:Wo} {S0 A:J5} {is pre rest:J6} (h:Sl.takeP A is=some (pre,rest)) (hs:St w0 S0 is w):St w0 S0 (pre++rest) w:=by obtain ⟨p,q,a,b⟩:=St.takeK (w0:=w0) (w:=w) (S0:=S0) h;simp_all
def kq:Ik->Ik->Bool
 | .i64,.i64=>true
 | .u8,.u8=>true
 | .u32,.u32=>true
 | .u64,.u64=>true
 | _,_=>false
def kq_eq {k:Ik} (h:kq k k'=true):k=k':=by cases k<;>cases k'<;>first | rfl | cases h
def iop (o:BinOp) (k:Ik) (p q:Int):Option Va:=match o with
 | .add=>some (.int k (k.wrap (p+q)))
 | .sub=>some (.int k (k.wrap (p - q)))
 | .mul=>some (.int k (k.wrap (p*q)))
 | .lss=>some (.bool (Dc (p<q)))
 | .leq=>some (.bool (Dc (p<=q)))
 | .gtr=>some (.bool (Dc (p>q)))
 | .geq=>some (.bool (Dc (p>=q)))
 | .eql=>some (.bool (Dc (p=q)))
 | .neq=>some (.bool (!Dc (p=q)))
 | .and=>some (.int k (iand k p q))
 | .or=>some (.int k (ior k p q))
 | .xor=>some (.int k (ixor k p q))
 | _=>none
def sop (o:BinOp) (s u:J3):Option Va:=match o with
 | .eql=>some (.bool (Dc (s=u)))
 | .neq=>some (.bool (!Dc (s=u)))
 | .lss=>some (.bool (sLt s u))
 | .leq=>some (.bool (sLt s u||decide (s=u)))
 | .gtr=>some (.bool (!(sLt s u||decide (s=u))))
 | .geq=>some (.bool (!sLt s u))
 | _=>none
def bop (o:BinOp):Option Va->Option Va->Option Va
 | some (.int k p),some (.int k' q)=>match kq k k' with
   | true=>iop o k p q
   | false=>none
 | some (.string ⟨⟨s⟩⟩),some (.string ⟨⟨u⟩⟩)=>sop o s u
 | _,_=>none
def sval (fr:Fr):Op->Option Va
 | .move x=>ev fr x
 | .assign x=>ev fr x
 | .binOp o _ x y _=>bop o (ev fr x) (ev fr y)
 | .unOp .not _ x=>match ev fr x with
   | some (.bool b)=>some (.bool (!b))
   | _=>none
 | .unOp .neg _ x=>match ev fr x with
   | some (.int k p)=>some (.int k (k.wrap (0 - p)))
   | _=>none
 | .extract x k=>match ev fr x with
   | some (.tuple ⟨vs⟩)=>vs[k]?
   | _=>none
 | .nilCheck x=>match ev fr x with
   | some (.pointer (some a))=>some (.pointer (some a))
   | _=>none
 | _=>none
section
variable {pos:String}
def Y.bop {o:BinOp} {t t':Ti} {x y:Od} {v:Va} (h:Sl.bop o (ev fr x) (ev fr y)=some v):Y P w0 S0 n fr is ⟨dst,.binOp o t x y t',ty,pos,aft,gd⟩ v:=by
 cases a:ev fr x with
 | none=>rw[a]at h;cases h
 | some A=>
   cases b:ev fr y with
   | none=>rw[a,b]at h;unfold Sl.bop at h;split at h<;>first | cases h | (rename_i d c;cases c)
   | some B=>
     rw[a,b]at h;unfold Sl.bop at h;split at h
     ·rename_i k p k' q d c;cases d;cases c;split at h
      ·rename_i e;obtain rfl:=kq_eq e;cases o<;>first | (cases h;first | exact Y.add a b | exact Y.sub a b | exact Y.mul a b | exact Y.lss a b | exact Y.leq a b | exact Y.gtr a b | exact Y.geq a b | exact Y.eql a b | exact Y.neq a b | exact Y.and a b | exact Y.or a b | exact Y.xor a b) | cases h
      ·cases h
     ·rename_i s u d c;cases d;cases c;cases o<;>first | (cases h;first | exact Y.seql a b | exact Y.sneq a b | exact Y.slss a b | exact Y.sleq a b | exact Y.sgtr a b | exact Y.sgeq a b) | cases h
     ·cases h
def Y.sval {o:Op} {v:Va} (h:Sl.sval fr o=some v):Y P w0 S0 n fr is ⟨dst,o,ty,pos,aft,gd⟩ v:=by
 unfold Sl.sval at h;split at h
 ·exact Y.move h
 ·exact Y.assign h
 ·exact Y.bop h
 ·split at h
  ·rename_i a;cases h;exact Y.not a
  ·cases h
 ·split at h
  ·rename_i a;cases h;exact Y.neg a
  ·cases h
 ·split at h
  ·rename_i a;exact Y.extract (vs:=_) a h
  ·cases h
 ·split at h
  ·rename_i a;cases h;exact Y.nilCheck a
  ·cases h
 ·cases h
end
def qrun (n:Nat):Nat->List Oper->Fr->Option (List Oper × Fr)
 | 0,l,fr=>some (l,fr)
 | k+1,⟨some d,o,_,_,_,none⟩::l,fr=>match Xk d n with
   | true=>match sval fr o with
     | some v=>qrun n k l ((d,v)::fr)
     | none=>none
   | false=>none
 | _,_,_=>none
def orun (n j:Nat) (want:Bool) (dj:Nat):Nat->List Oper->Fr->Option (List Oper × Fr)
 | 0,l,fr=>some (l,fr)
 | k+1,⟨some d,_,_,_,_,some (j',want')⟩::l,fr=>match Xk d n&&(Xl j' j&&(want' == want&& !Nat.beq dj d)) with
   | true=>orun n j want dj k l ((d,undef)::fr)
   | false=>none
 | _,_,_=>none
section
variable {o:Op} {pos:String} {l:List Oper}
def Qs (k:Nat) (a:qrun n k l fr=some (l',fr')) (h:TO P w0 S0 m n fr' is ops l' Q):TO P w0 S0 m n fr is ops l Q:=by
 induction k generalizing l fr with
 | zero=>cases a;exact h
 | succ k ih=>
   unfold qrun at a;split at a
   ·trivial
   ·rename_i k' d o ty pos aft f b;cases b;split at a
    ·rename_i c;split at a
     ·rename_i v e;exact TO.y (Y.sval e) rfl rfl c (ih a)
     ·trivial
    ·trivial
   ·trivial
def zns (h:Xl dj d=false):lk dj ((d,v)::fr)=lk dj fr:=by simp only[lk,h,cF]
def Of (k:Nat) (i:(b == want)=false) (f:(l.head?.bind (·.guard),(ops[j]?).bind (·.dst),lk dj fr)=(some (j,want),some dj,some (.bool b))) (a:orun n j want dj k l fr=some (l',fr')) (h:TO P w0 S0 m n fr' is ops l' Q):TO P w0 S0 m n fr is ops l Q:=by
 obtain ⟨-,p,g⟩:_/\_/\_:=by simpa using f
 clear f;induction k generalizing l fr with
 | zero=>cases a;exact h
 | succ k ih=>
   unfold orun at a;split at a
   ·trivial
   ·rename_i k' d o ty pos aft B A w e;cases e;split at a
    ·rename_i c;simp only[Xj,Xp]at c;obtain ⟨c,q,s,t⟩:=c;have u:B=j:=by simpa using q
     have v:A=want:=by simpa using s
     subst u v;refine TO.off (Gd.at _ _ dj b rfl p g i) rfl c (ih a ?_);rw[zns t];exact g
    ·trivial
   ·trivial
end
section
def Sr {id:Nat} {l:List Oper} {y:Code} (h:TO P w0 S0 m n fr is l.toArray l (λr=>Exit.then (y.wp P (Q r)) (Q r))):TW P w0 S0 m n fr is (.seq (.region id l.toArray false) y) Q:=Sq (Rg h)
def Nl (h:TE w0 S0 m n fr is .normal Q):TO P w0 S0 m n fr is ops [] Q:=h
def Ne {y:Code} (h:TW P w0 S0 m n fr is y Q):TE w0 S0 m n fr is .normal (λr=>Exit.then (y.wp P (Q r)) (Q' r)):=h
def Nx {y:Code} (h:TW P w0 S0 m n fr is y Q):TO P w0 S0 m n fr is ops [] (λr=>Exit.then (y.wp P (Q r)) (Q' r)):=h
def Sn {y:Code} (h:TW P w0 S0 m n fr is y Q):TW P w0 S0 m n fr is .skip (λr=>Exit.then (y.wp P (Q r)) (Q' r)):=Sk h
theorem It {a c:Option R} {l:List Oper} (d:b=true->TO P w0 S0 a n fr is ops l Q) (e:b=false->TO P w0 S0 c n fr is ops l Q):
 TO P w0 S0 (if b=true then a else c) n fr is ops l Q:=by grind
def Tr {Q':R->Act->Wo->Prop} (h:TE w0 S0 m n fr is .ret Q):TE w0 S0 m n fr is .ret (λr=>Exit.then (Q' r) (Q r)):=h
def Tx {Q':R->Act->Wo->Prop} {id:Nat} (h:TE w0 S0 m n fr is (.exit id) Q):TE w0 S0 m n fr is (.exit id) (λr=>Exit.then (Q' r) (Q r)):=h
def Br {id:Nat} (h:TE w0 S0 m n fr is .ret Q):TE w0 S0 m n fr is .ret (λr=>Exit.inBlock id (Q r)):=h
def Bn {id:Nat} (h:TE w0 S0 m n fr is .normal Q):TE w0 S0 m n fr is .normal (λr=>Exit.inBlock id (Q r)):=h
def No {l:List Oper} (sz:Nat) (h:TO P w0 S0 m n fr (.own (.slice none 0 0) (.sl sz 0 [])::is) ops l Q):TO P w0 S0 m n fr is ops l Q:=Gt (Gh.nilItem sz) λ_=>h
def Na (sz:Nat) (h:TA P w0 S0 m n fr (.own (.slice none 0 0) (.sl sz 0 [])::is) H ops fuel L Q):TA P w0 S0 m n fr is H ops fuel L Q:=Ga (Gh.nilItem sz) λ_=>h
def Jn (X:Type) {m:Option (Ctl τ R)} {k:τ->Option R} {frf:τ->X->Fr} {isf:τ->X->J6} (ls A:J5) (g:τ->X->Fr) (h:τ->X->J6) (_: ∀t x,keepK ls fr (g t x) some=some (frf t x)) (_: ∀t x,takeI A is (h t x)=some (isf t x)) (a:TW P w0 S0 m n fr is c (jn (Mid w0 S0 n frf isf) Q)) (b: ∀t x,TE w0 S0 (k t) n (frf t x) (isf t x) .normal Q):TW P w0 S0 (bindC m k) n fr is c Q:=TW.joinX frf isf a b
def Ju {m:Option (Ctl τ R)} {k:τ->Option R} {frf:τ->Fr} (ls:J5) (g:τ->Fr) (_: ∀t,keepK ls fr (g t) some=some (frf t)) (a:TW P w0 S0 m n fr is c (jn (Mid w0 S0 n (λt (_:Unit)=>frf t) (λ_ _=>is)) Q)) (b: ∀t,TE w0 S0 (k t) n (frf t) is .normal Q):TW P w0 S0 (bindC m k) n fr is c Q:=TW.joinX _ _ a λt _=>b t
def Jb (X:Type) {m:Option τ} {k:τ->Option R} {frf:τ->X->Fr} {isf:τ->X->J6} (ls A:J5) (g:τ->X->Fr) (h:τ->X->J6) (_: ∀t x,keepK ls fr (g t x) some=some (frf t x)) (_: ∀t x,takeI A is (h t x)=some (isf t x)) (a:TW P w0 S0 m n fr is c (jb (Mid w0 S0 n frf isf))) (b: ∀t x,TE w0 S0 (k t) n (frf t x) (isf t x) .normal Q):TW P w0 S0 (m.bind k) n fr is c Q:=TW.joinBX frf isf a b
def Jv {m:Option τ} {k:τ->Option R} {frf:τ->Fr} (ls:J5) (g:τ->Fr) (_: ∀t,keepK ls fr (g t) some=some (frf t)) (a:TW P w0 S0 m n fr is c (jb (Mid w0 S0 n (λt (_:Unit)=>frf t) (λ_ _=>is)))) (b: ∀t,TE w0 S0 (k t) n (frf t) is .normal Q):TW P w0 S0 (m.bind k) n fr is c Q:=TW.joinBX _ _ a λt _=>b t
def Jw (X:Type) {frf:X->Fr} {isf:X->J6} (ls A:J5) (g:X->Fr) (h:X->J6) (_: ∀x,keepK ls fr (g x) some=some (frf x)) (_: ∀x,takeI A is (h x)=some (isf x)) (a:TW P w0 S0 (some ()) n fr is c (jb (Mid w0 S0 n (λ(_:Unit) x=>frf x) (λ_ x=>isf x)))) (b: ∀x,TE w0 S0 m n (frf x) (isf x) .normal Q):TW P w0 S0 m n fr is c Q:=TW.joinU _ _ a λ_ x=>b x
def Lp (X:Type) {body:σ->Option (Ctl σ ρ)} {s0:σ} {Q:ρ->Exit->Act->Wo->Prop} {frf:σ->X->Fr} {isf:σ->X->J6} (ls A:J5) (g:σ->X->Fr) (h:σ->X->J6) (a:X) (qs:J5) (_: ∀t x,keepK ls fr (g t x) some=some (frf t x)) (_: ∀t x,takeI A is (h t x)=some (isf t x)) (b: ∀s x,TW P w0 S0 (body s) n (frf s x) (isf s x) c (lp (Mid w0 S0 n frf isf) Q)) (d:Sub (frf s0 a) fr:=by repeat (first | refine ⟨r,?_⟩ | exact trivial)) (e:pulls qs is=some (isf s0 a):=by exact r):
    TW P w0 S0 (loopO body s0) n fr is (.loop c) Q:=TW.loopX frf isf a qs d e b
def Lu {body:σ->Option (Ctl σ ρ)} {s0:σ} {Q:ρ->Exit->Act->Wo->Prop} {frf:σ->Fr} (ls:J5) (g:σ->Fr) (_: ∀t,keepK ls fr (g t) some=some (frf t)) (d: ∀s,TW P w0 S0 (body s) n (frf s) is c (lp (Mid w0 S0 n (λs (_:Unit)=>frf s) (λ_ _=>is)) Q)) (f:Sub (frf s0) fr:=by repeat (first | refine ⟨r,?_⟩ | exact trivial)):
    TW P w0 S0 (loopO body s0) n fr is (.loop c) Q:=by
 refine TW.loop (Mid w0 S0 n (λs (_:Unit)=>frf s) (λ_ _=>is)) (λa w b hs=>⟨(),b.sub f,hs⟩) ?_;rintro s x i a w ⟨y,b,hs⟩;refine wp_mono (d s x i a w b hs) λe a w h=>?_;cases x with
 | go t=>exact h
 | done q=>exact h
end
def backE:Exit->Bool
 | .ret=>true
 | .normal=>true
 | _=>false
def resT:List ResultVar->Option J5
 | []=>some []
 | .tmp t::s=>match resT s with
   | some ts=>some (t::ts)
   | none=>none
 | _=>none
def lks (fr:Fr):J5->Option J4
 | []=>some []
 | t::s=>match lk t fr with
   | some v=>match lks fr s with
     | some vs=>some (v::vs)
     | none=>none
   | none=>none
section
def RV.tmps: ∀{h:List ResultVar} {ts:J5} {vs:J4},resT h=some ts->lks fr ts=some vs->RV P fr is h vs
 | [],ts,vs,a,b=>by cases a;cases b;trivial
 | .tmp t::s,ts,vs,a,b=>by
   unfold resT at a;split at a
   ·rename_i A c;cases a;unfold lks at b;split at b
    ·rename_i v d;split at b
     ·rename_i B e;cases b;exact ⟨d,RV.tmps c e⟩
     ·trivial
    ·trivial
   ·trivial
 | .cell _ _::_,_,_,a,_=>by cases a
def Re {val:R->X->Va} {e:Exit} {ts:J5} (x:X) (h:J5) (a:backE e=true:=by exact r) (b:resT fn.results.toList=some ts:=by exact r) (c:lks fr ts=some vs:=by exact r) (d:retV vs=val q x:=by exact r) (hi:pulls h is=some (post q x):=by exact r):
    TE w0 S1 (some q) n fr is e (λq=>bodyPost P fn (λe w'=>∃x,e= .returned (val q x)/\St w0 S1 (post q x) w')):=
 TE.leaf λ_ _ f hs=>zxb (by cases e<;>first | exact .inl rfl | exact .inr rfl | cases a) (Ye).symm (RV.tmps b c) f hs ⟨x,by rw[d],hs.pulls h hi⟩
def Jg {t:τ} (x:X) (h:J5) (a:pulls h is=some (isf t x):=by exact r) (b:Sub (frf t x) fr:=by repeat (first | refine ⟨r,?_⟩ | exact trivial)):
    TE w0 S0 (some (.go t)) n fr is .normal (jn (Mid w0 S0 n frf isf) Q):=
 TE.leaf λ_ _ c hs=>⟨rfl,x,c.sub b,hs.pulls h a⟩
def Bg {t:τ} (x:X) (h:J5) (a:pulls h is=some (isf t x):=by exact r) (b:Sub (frf t x) fr:=by repeat (first | refine ⟨r,?_⟩ | exact trivial)):
    TE w0 S0 (some t) n fr is .normal (jb (Mid w0 S0 n frf isf)):=
 TE.leaf λ_ _ c hs=>⟨rfl,x,c.sub b,hs.pulls h a⟩
def Lg {Q:ρ->Exit->Act->Wo->Prop} {frf:σ->X->Fr} {isf:σ->X->J6} {t:σ} (x:X) (h:J5) (a:pulls h is=some (isf t x):=by exact r) (b:Sub (frf t x) fr:=by repeat (first | refine ⟨r,?_⟩ | exact trivial)):
    TE w0 S0 (some (.go t)) n fr is .normal (lp (Mid w0 S0 n frf isf) Q):=
 TE.leaf λ_ _ c hs=>⟨rfl,x,c.sub b,hs.pulls h a⟩
end
section
variable {o:Op} {pos:String} {l:List Oper}
def Yo (a:Y P w0 S0 n fr is ⟨some d,o,ty,pos,aft,none⟩ v) (h:TO P w0 S0 m n ((d,v)::fr) is ops l Q) (b:Xk d n=true:=by exact r):TO P w0 S0 m n fr is ops (⟨some d,o,ty,pos,aft,none⟩::l) Q:=TO.y a rfl rfl b h
def Yg (a: ∀o:Oper,o.guard=some g->Gd ops fr o true) (b:Y P w0 S0 n fr is ⟨some d,o,ty,pos,aft,some g⟩ v) (h:TO P w0 S0 m n ((d,v)::fr) is ops l Q) (c:Xk d n=true:=by exact r):
    TO P w0 S0 m n fr is ops (⟨some d,o,ty,pos,aft,some g⟩::l) Q:=TO.y b (a _ rfl) rfl c h
def Fo {val:X->Va} {is':X->J6} (a:Ef P w0 S0 n fr is ⟨some d,o,ty,pos,aft,none⟩ val is') (h: ∀x,TO P w0 S0 m n ((d,val x)::fr) (is' x) ops l Q) (b:Xk d n=true:=by exact r):
    TO P w0 S0 m n fr is ops (⟨some d,o,ty,pos,aft,none⟩::l) Q:=TO.ef a rfl rfl b h
def Fg {val:X->Va} {is':X->J6} (a: ∀o:Oper,o.guard=some g->Gd ops fr o true) (b:Ef P w0 S0 n fr is ⟨some d,o,ty,pos,aft,some g⟩ val is') (h: ∀x,TO P w0 S0 m n ((d,val x)::fr) (is' x) ops l Q) (c:Xk d n=true:=by exact r):
    TO P w0 S0 m n fr is ops (⟨some d,o,ty,pos,aft,some g⟩::l) Q:=TO.ef b (a _ rfl) rfl c h
def Fu (a:Ef P w0 S0 n fr is ⟨none,o,ty,pos,aft,none⟩ (λ_:Unit=>undef) (λ_=>is')) (h:TO P w0 S0 m n fr is' ops l Q):
    TO P w0 S0 m n fr is ops (⟨none,o,ty,pos,aft,none⟩::l) Q:=TO.ef0 a rfl rfl λ_=>h
def gdA {q:Bool} (c:(b == want)=q) (a:((ops[j]?).bind (·.dst),lk dj fr)=(some dj,some (.bool b)):=by exact r): ∀o:Oper,o.guard=some (j,want)->Gd ops fr o q:=by intro o d;simp only[Xh]at a;exact Gd.at j want dj b d a.1 a.2 c
end
def takeV:Nat->J4->Option J4
 | 0,_=>some []
 | n+1,v::s=>match takeV n s with
   | some t=>some (v::t)
   | none=>none
 | _+1,[]=>none
def partO (off sz:Nat) (ag:Bool) (vs:J4):Option Va:=match off,vs with
 | 0,vs=>match ag with
   | true=>match takeV sz vs with
     | some t=>some (.agg ⟨t⟩)
     | none=>none
   | false=>match vs with
     | v::_=>some v
     | []=>none
 | off+1,_::s=>partO off sz ag s
 | _+1,[]=>none
def zvY: ∀{n:Nat} {vs t:J4},takeV n vs=some t->t=vs.take n/\n<=vs.length
 | 0,vs,t,h=>by cases h;simp
 | n+1,v::s,t,h=>by
   unfold takeV at h;split at h
   ·rename_i t' a;cases h;obtain ⟨rfl,b⟩:=zvY a;simp_all
   ·cases h
 | _+1,[],_,h=>by cases h
def zqt: ∀{off sz:Nat} {ag:Bool} {vs:J4} {v:Va},partO off sz ag vs=some v->part vs off sz ag=some v
 | 0,sz,ag,vs,v,h=>by
   unfold partO at h;cases ag with
   | true=>
     simp only at h;split at h
     ·rename_i t a;cases h;obtain ⟨rfl,b⟩:=zvY a;have:Xw (0+sz) vs.length=true:=Xt (by omega);rw[Yi]at this;simp only[part,cT,Yi,this,List.drop_zero]
     ·cases h
   | false=>
     simp only at h;split at h
     ·trivial
     ·cases h
 | off+1,sz,ag,[],v,h=>by cases h
 | off+1,sz,ag,u::s,v,h=>by
   have:=zqt (off:=off) (vs:=s) h;cases ag with
   | true=>
     simp only[part,cT,List.length_cons,List.drop_succ_cons]at this |-
     have e:Xw (off+1+sz) (s.length+1)=Xw (off+sz) s.length:=by rw[show off+1+sz=(off+sz)+1 by omega];rfl
     simp_all
   | false=>simpa[part] using this
section
variable {pos:String}
def Fb {b f:Nat} (a:fieldB P s f=some o) (c:ev fr x=some (.pointer (some ⟨b,k,none⟩))):Y P w0 S0 n fr is ⟨dst,.fieldAddr s x f,ty,pos,aft,gd⟩ (.pointer (some ⟨b,Yj k o,none⟩)):=Y.field_box a rfl c
def Ix {y:Od} {e':Nat} {k:Ik} (b:elemB P t=some (e',sz,by_)) (c:Can w0 S0 is v (.sl sz' l.length cs')) (hi:idx l i=some z) (a:(ev fr x,ev fr y)=(some v,some (.int k i))):
    Y P w0 S0 n fr is ⟨dst,.indexAddr t x y,ty,pos,aft,gd⟩ (elP v (i.toNat*sz+0)):=by simp only[Xh]at a;exact Y.index b c hi a.1 a.2
def Fe {f c:Nat} (a:fieldB P s f=some o) (b:Can w0 S0 is v (.sl sz' l.length cs')) (d:idx l i=some z) (e:ev fr x=some (elP v (i.toNat*sz+c))):
    Y P w0 S0 n fr is ⟨dst,.fieldAddr s x f,ty,pos,aft,gd⟩ (elP v (i.toNat*sz+Yj c o)):=Y.field_el a b (zbT d).2.2 rfl e
def lelO (c s:Nat) (ag:Bool) (cs:List C):Option Va:=match valsR ((cs.drop c).take s) with
 | some us=>match Xl us.length s&&(ag||Xl s 1) with
   | true=>loaded ag us
   | false=>none
 | none=>none
def Le [Enc α] {c:Nat} (e:kindB P t=some (ag,s)) (f:Can w0 S0 is v (lc l)) (g:idx l i=some z) (d:(ev fr x,lelO c s ag (Enc.enc z))=(some (elP v (i.toNat*sz+c)),some u)) (h:Enc.sz α=sz:=by exact r):Y P w0 S0 n fr is ⟨dst,.load t x,ty,pos,aft,gd⟩ u:=by
 simp only[Xh]at d;obtain ⟨j,a⟩:=d;unfold lelO at a;split at a
 ·rename_i us k;split at a
  ·rename_i b;simp only[Xj]at b;exact Y.load_el e h f (zbT g).2.2 j k b.1 b.2 a
  ·trivial
 ·trivial
def Lz [Enc α] {c:Nat} (b:kindB P t=some (ag,s)) (d:Base w0 S0 v (lc l)) (e:idx l i=some z) (a:(ev fr x,loaded ag (bvals w0 v (i.toNat*sz) c (((Enc.enc z).drop c).take s)))=(some (elP v (i.toNat*sz+c)),some u)) (f:Enc.sz α=sz:=by exact r) (hl:Xl (((Enc.enc z).drop c).take s).length s=true:=by exact r) (g:Xk 0 s=true:=by exact r) (h:(ag||Xl s 1)=true:=by exact r):
    Y P w0 S0 n fr is ⟨dst,.load t x,ty,pos,aft,gd⟩ u:=by simp only[Xh]at a;exact Y.load_base b f d (zbT e).2.2 a.1 hl g h a.2
def Lh [Enc α] {c:Nat} {j:Int} (i:Nat) (e:kindB P t=some (ag,s)) (f:idx l j=some z) (d:(is[i]?,ev fr x,lelO c s ag zs)=(some (.own v (hl l j.toNat zs)),some (elP v (j.toNat*sz+c)),some u)) (g:Enc.sz α=sz:=by exact r) (h:Xl zs.length sz=true:=by exact r):
    Y P w0 S0 n fr is ⟨dst,.load t x,ty,pos,aft,gd⟩ u:=by
 simp only[Xh]at d;obtain ⟨hi,k,a⟩:=d;unfold lelO at a;split at a
 ·rename_i us m;split at a
  ·rename_i b;simp only[Xj]at b;exact Y.load_hole e g hi (zbT f).2.2 k m b.1 b.2 a h
  ·trivial
 ·trivial
def Pt {c y:Od} (d:b=true) (a:(ev fr c,ev fr x)=(some (.bool b),some u)):Y P w0 S0 n fr is ⟨dst,.pick c x y,ty,pos,aft,gd⟩ u:=by simp only[Xh]at a;exact Y.pick_t d a.1 a.2
def Pf {c y:Od} (d:b=false) (a:(ev fr c,ev fr y)=(some (.bool b),some u)):Y P w0 S0 n fr is ⟨dst,.pick c x y,ty,pos,aft,gd⟩ u:=by simp only[Xh]at a;exact Y.pick_f d a.1 a.2
inductive PartsI (w0:Wo) (S0:J5) (is:J6) (fr:Fr):List (Nat × Od)->List (Nat × J4)->Prop
 | nil:PartsI w0 S0 is fr [] []
 | cons {i:Nat} {o:Od} {v:Va} {us:J4} {ps:List (Nat × Od)} {qs:List (Nat × J4)} :ev fr o=some v->Cel w0 S0 is v us->PartsI w0 S0 is fr ps qs->PartsI w0 S0 is fr ((i,o)::ps) ((i,us)::qs)
def PartsI.parts {qs:List (Nat × J4)} (h:PartsI w0 S0 is fr ps qs):Parts w0 S0 is fr ps qs:=by
 induction h with
 | nil=>trivial
 | cons a b _ ih=>exact ⟨rfl,⟨_,a,b⟩,ih⟩
def Pc {i:Nat} {o:Od} {qs:List (Nat × J4)} (a:ev fr o=some v) (b:Cel w0 S0 is v us) (c:PartsI w0 S0 is fr ps qs):PartsI w0 S0 is fr ((i,o)::ps) ((i,us)::qs):=.cons a b c
def Pz:PartsI w0 S0 is fr [] []:=.nil
def repK {β:Type} :J4->J4->(J4->Option β)->Option β
 | vs,[],k=>k vs
 | _::s,u::us,k=>repK s us λt=>k (u::t)
 | [],_::_,_=>none
def splK {β:Type} :Nat->J4->J4->(J4->Option β)->Option β
 | 0,vs,us,k=>repK vs us k
 | n+1,v::s,us,k=>splK n s us λt=>k (v::t)
 | _+1,[],_,_=>none
def zw9 {β:Type} : ∀{vs us:J4} {k:J4->Option β} {b:β},repK vs us k=some b->us.length<=vs.length/\k (us++vs.drop us.length)=some b
 | vs,[],k,b,h=>⟨by simp,by simpa[repK] using h⟩
 | _::s,u::us,k,b,h=>by obtain ⟨a,c⟩:=zw9 (vs:=s) h;simp_all
 | [],_::_,_,_,h=>by cases h
def zs2 {β:Type} : ∀{n:Nat} {vs us:J4} {k:J4->Option β} {b:β},splK n vs us k=some b->n+us.length<=vs.length/\k (splice vs n us)=some b
 | 0,vs,us,k,b,h=>by obtain ⟨c,a⟩:=zw9 h;exact ⟨by omega,by simpa[splice] using a⟩
 | n+1,v::s,us,k,b,h=>by
   obtain ⟨c,a⟩:=zs2 (vs:=s) h;refine ⟨by simp;omega,?_⟩;have:n+1+us.length=(n+us.length)+1:=by omega
   simpa[splice,this] using a
 | _+1,[],_,_,_,h=>by cases h
def fillsK (place:List (Nat × Nat)):J4->List (Nat × J4)->Option J4
 | cells,[]=>some cells
 | cells,(i,us)::s=>match place[i]? with
   | none=>none
   | some (off,sz)=>match Xl us.length sz with
     | true=>splK off cells us λt=>fillsK place t s
     | false=>none
def ztg {place:List (Nat × Nat)} : ∀{qs:List (Nat × J4)} {cells A:J4},fillsK place cells qs=some A->fills place cells qs=some A
 | [],_,_,h=>h
 | (i,us)::s,cells,A,h=>by
   unfold fillsK at h;unfold fills;split at h
   ·cases h
   ·rename_i off sz a;split at h
    ·rename_i d;obtain ⟨e,b⟩:=zs2 h;have c:(Xl us.length sz&&Xw (off+us.length) cells.length)=true:=by simp_all
     rw[a];simp only[c,cT];exact ztg b
    ·cases h
def Bd {t:Ti} {place:List (Nat × Nat)} {zs cells:J4} {qs:List (Nat × J4)} (a:placesB P t=some place) (b:zeroB P t=some (.agg zs.toArray)) (c:PartsI w0 S0 is fr ps qs) (d:fillsK place zs qs=some cells):Y P w0 S0 n fr is ⟨dst,.build t ps.toArray,ty,pos,aft,gd⟩ (.agg cells.toArray):=Y.build qs a b c.parts (ztg d)
def Bc {c:C} (h:Base w0 S0 v c):Can w0 S0 is v c:=h.can
def Cp (h:v.cells=us.toArray) (a:us.all (·.oneCell')=true:=by exact r):Cel w0 S0 is v us:=Cel.plain h a
def Cb {c:C} (h:Base w0 S0 v c):Cel w0 S0 is v [v]:=Cel.one (One.can h.can)
def Co {c:C} (k:Nat) (h:is[k]? =some (.own v c):=by exact r):Cel w0 S0 is v [v]:=Cel.one (One.can (Oc k h))
def Ob {c:C} (h:Base w0 S0 v c):One w0 S0 is v:=One.can h.can
def Ow' {c:C} (k:Nat) (h:is[k]? =some (.own v c):=by exact r):One w0 S0 is v:=One.can (Oc k h)
def Op' (h:v.oneCell'=true:=by exact r):One w0 S0 is v:=One.plain h
def Sb {y:Od} {b off bt:Nat} (i:Nat) (c:kindB P t=some (ag,sz)) (a:(is[i]?,ev fr x,ev fr y)=(some (.box b bt vs),some (.pointer (some ⟨b,off,none⟩)),some v)) (d:Cel w0 S0 is v us) (e:splK off vs us (λA=>setK i is (.box b bt A) some)=some is') (hl:Xl us.length sz=true:=by exact r):
    Ef P w0 S0 n fr is ⟨none,.store t x y,ty,pos,aft,gd⟩ (λ_:Unit=>undef) (λ_=>is'):=by simp only[Xh]at a;obtain ⟨f,g⟩:=zs2 e;have h:=zsI g;cases h;exact Ef.store_box i c a.1 a.2.1 a.2.2 d hl (Xt f) rfl rfl
def Se [Flat α] {y:Od} {c:Nat} {j:Int} (A:α) (i:Nat) (b:kindB P t=some (ag,s)) (d:idx l j=some z) (a:(is[i]?,ev fr x,ev fr y)=(some (.own v (lc l)),some (elP v (j.toNat*sz+c)),some u)) (e:Cel w0 S0 is u us) (f:setK i is (.own v (lc (l.set j.toNat A))) some=some is') (g:Enc.sz α=sz:=by exact r) (hl:Xl us.length s=true:=by exact r) (h:Xw (c+us.length) sz=true:=by exact r) (hs:splice (Flat.vals z) c us=Flat.vals A:=by exact r):
    Ef P w0 S0 n fr is ⟨none,.store t x y,ty,pos,aft,gd⟩ (λ_:Unit=>undef) (λ_=>is'):=by simp only[Xh]at a;have k:=zsI f;cases k;exact Ef.store_el A i b g a.1 (zbT d).2.2 a.2.1 a.2.2 e hl h hs rfl
def Ap [Flat α] {d:Option Nat} {y:Od} {z:Va} {k q:List α} (F:J5) (f:app by_ l k=some q) (g:elemB P t=some (e,sz,by_)) (h:zeroB P e=some z) (b:(takeP F is,ev fr x,ev fr y)=(some ([.own v (lc l)],is'),some v,some u)) (i:Can w0 S0 is u (lc k)) (j:Xl z.cells.size sz=true:=by exact r) (m:Enc.sz α=sz:=by exact r):
    Ef P w0 S0 n fr is ⟨d,.call {callee:=.builtin .append,args:=#[x,y],argTypes:=#[t,t]},ty,pos,aft,gd⟩ (λD:Va=>D) (λD=>.own D (lc q)::is'):=by
 simp only[Xh]at b;obtain ⟨o,p,s⟩:=b;intro a w K Q c hs E;obtain ⟨D,w',A,B⟩:=append_go (ty:=ty) (hs.takeP o) f g h j m i hs;have C:(execOp a.eval ⟨d,.call {callee:=.builtin .append,args:=#[x,y],argTypes:=#[t,t]},ty,pos,aft,gd⟩).run P w= .ok (.value D) w':=by simp[execOp,resolve,invoke,builtin,c.eval p,c.eval s,A]
 unfold Oper.wp;rw[C];exact E D w' B
def Cn (P:Pm) (f:FuncId) (args:J4) (pre:J6) (rds:List (Va × C)) (m:Option R) (val:R->X->Va) (post:R->X->J6):Prop:=
 callB P f=true/\∀q,m=some q->Con P f args pre rds (val q) (post q)
def BaseR (w:Wo) (S:J5):List (Va × C)->Prop
 | []=>True
 | (v,c)::s=>Base w S v c/\BaseR w S s
def BaseR.of {w:Wo} {S:J5} : ∀{rds:List (Va × C)},(∀p∈rds,Base w S p.1 p.2)->BaseR w S rds
 | [],_=>trivial
 | (_,_)::_,h=>⟨h _ (.head _),BaseR.of λp a=>h p (.tail _ a)⟩
def Ci {rds:List (Va × C)} {val:R->X->Va} (a:P.funcs[f]? =some fn) (b:fn.body=some c) (d:fn.ntmps=k) (h: ∀w S,BaseR w S rds->TW P w S m k (argFr 0 args) pre c (λq=>bodyPost P fn (λe w'=>∃x,e= .returned (val q x)/\St w S (post q x) w'))) (hl:Xw args.length k=true:=by exact r) (hN:(fn.name != "runtime.NumGoroutine")=true:=by exact r):
    Cn P f args pre rds m val post:=by refine ⟨by unfold callB;rw[a];simp only[hN,b,Option.isSome_some,Bool.and_self],λq g=>?_⟩;exact Con.intro a b d hl g λw S i=>h w S (BaseR.of i)
theorem Cl {val:R->X->Va} {is':X->J6} {rds:List (Va × C)} (D:J5) (c:Cn P f args pre rds m val post) (d:m=some q) (b:(evs fr os,takeP D is)=(some args,some (pre,rest))) (g: ∀x,appK (post q x) rest some=some (is' x)) (h:Cans w0 S0 rest rds:=by exact trivial):
 Ef P w0 S0 n fr is ⟨dst,.call {callee:=.value (.func f),args:=os.toArray,argTypes:=ats},ty,pos,aft,gd⟩ (val q) is':=by
 simp only[Xh]at b;intro a w K Q i hs E;obtain ⟨A,B,j,t⟩:=(hs.takeP b.2).frame;have k:=c.2 q d w A B λp l=>j _ _ (h.mem p l);have o:(execOp a.eval ⟨dst,.call {callee:=.value (.func f),args:=os.toArray,argTypes:=ats},ty,pos,aft,gd⟩).run P w= .ok (.enter f args.toArray) w:=by simp[execOp,resolve,Act.eval,Deferred.ofValue,invoke,<-i.evals b.1,zom c.1]
 unfold Oper.wp;rw[o];refine k.mono ?_;rintro e w' ⟨x,rfl,u⟩;have s:=g x;rw[zmg]at s;grind
def Cm {val:X->Va} {post is':X->J6} {rds:List (Va × C)} (h:J5) (a:Con P f args pre rds val post) (b:callB P f=true) (c:(evs fr os,takeP h is)=(some args,some (pre,rest))) (d: ∀x,appK (post x) rest some=some (is' x)) (e:Cans w0 S0 rest rds:=by exact trivial):
    Ef P w0 S0 n fr is ⟨dst,.call {callee:=.value (.func f),args:=os.toArray,argTypes:=ats},ty,pos,aft,gd⟩ val is':=
 Cl (R:=Unit) (m:=some ()) (q:=()) (val:=λ_=>val) (post:=λ_=>post) h ⟨b,λ_ _=>a⟩ rfl c d e
theorem Cw {val:R->X->Va} {is':X->J6} {rds:List (Va × C)} {cs all:J4} (D:J5) (d:Cn P f all pre rds m val post) (i:m=some q) (b:(evs fr os,ev fr x)=(some args,some (.func (.func f) #[] cs.toArray))) (c:takeP D is=some (pre,rest)) (g: ∀x,appK (post q x) rest some=some (is' x)) (j:Cans w0 S0 rest rds:=by exact trivial) (k:args++cs=all:=by exact r):
 Ef P w0 S0 n fr is ⟨dst,.call {callee:=.value x,args:=os.toArray,argTypes:=ats},ty,pos,aft,gd⟩ (val q) is':=by
 simp only[Xh]at b;intro a w K Q h hs E;subst k;obtain ⟨A,B,l,v⟩:=(hs.takeP c).frame;have o:=d.2 q i w A B λp s=>l _ _ (j.mem p s);have t:(execOp a.eval ⟨dst,.call {callee:=.value x,args:=os.toArray,argTypes:=ats},ty,pos,aft,gd⟩).run P w= .ok (.enter f (args++cs).toArray) w:=by have g:=zom d.1 (args++cs).toArray w;have c:=h.evals b.1;simp[execOp,resolve,h.eval b.2,Deferred.ofValue,invoke,List.map_toArray,c];trivial
 unfold Oper.wp;rw[t];refine o.mono ?_;rintro e w' ⟨x,rfl,y⟩;have u:=g x;rw[zmg]at u;grind
end
def aval (ops:Array Oper) (n:Nat):J5->Fr->Option Fr
 | [],fr=>some fr
 | i::s,fr=>match ops[i]? with
   | some ⟨some d,o,_,_,_,none⟩=>match Xk d n with
     | true=>match sval fr o with
       | some v=>aval ops n s ((d,v)::fr)
       | none=>none
     | false=>none
   | _=>none
def aoff (ops:Array Oper) (n j:Nat) (want:Bool) (dj:Nat):J5->Fr->Option Fr
 | [],fr=>some fr
 | i::s,fr=>match ops[i]? with
   | some ⟨some d,_,_,_,_,some (j',want')⟩=>match Xk d n&&(Xl j' j&&(want' == want&& !Nat.beq dj d)) with
     | true=>aoff ops n j want dj s ((d,undef)::fr)
     | false=>none
   | _=>none
def decF:J5->Nat->Option Nat
 | [],f=>some f
 | _::s,f+1=>decF s f
 | _::_,0=>none
def abits:J5->Nat->Nat
 | [],L=>L
 | i::s,L=>abits s (L ||| 2 ^ i)
def ardy (ops:Array Oper):J5->Nat->Bool
 | [],_=>true
 | i::s,L=>rdyB ops i L 0&&ardy ops s (L ||| 2 ^ i)
def anob (H:Hd):J5->Bool
 | []=>true
 | i::s=>nob i H&&anob H s
def achk (ops:Array Oper) (σ:J5):J5->Nat->Bool
 | [],_=>true
 | i::s,L=>chkR ops i 0 σ L&&achk ops σ s (L ||| 2 ^ i)
def asid (ops:Array Oper) (fr0:Fr) (H:Hd) (σ:List Side):J5->Fr->Bool
 | [],_=>true
 | i::s,fr=>match ops[i]? with
   | some ⟨some d,_,_,_,_,_⟩=>sideC fr fr0 H σ&&(nokey d fr0&&(othr ops.size d σ&&asid ops fr0 H σ s fr))
   | _=>false
def ztV {fr fr0:Fr} {H:Hd} {d e:Nat} {v:Va} : ∀{σ:List Side},sideC fr fr0 H σ=true->othr e d σ=true->sideC ((d,v)::fr) fr0 H σ=true
 | [],_,_=>rfl
 | s::σ,h,a=>by
   unfold sideC at h |-
   unfold othr at a;simp only[Xj]at h a |-
   refine ⟨?_,h.2.1,h.2.2.1,h.2.2.2.1,ztV h.2.2.2.2 a.2.2⟩;unfold nokey;rw[Xj];refine ⟨?_,h.1⟩;have:=a.2.1;simp only[Xp]at this |-
   cases b:Xl d s.d with
   | false=>rfl
   | true=>rw[Nat.eq_of_beq_eq_true b,Nat.beq_refl]at this;cases this
def zuK {ops:Array Oper} {fr0:Fr} {H:Hd} {σ:List Side} {d:Nat} {v:Va} : ∀{s:J5} {fr:Fr},sideC fr fr0 H σ=true->othr ops.size d σ=true->asid ops fr0 H σ s fr=true->asid ops fr0 H σ s ((d,v)::fr)=true
 | [],_,_,_,_=>rfl
 | i::s,fr,b,a,h=>by
   unfold asid at h |-
   split at h
   ·rename_i A o ty pos aft g hi;simp only[hi,Xj]at h |-
    exact ⟨ztV h.1 a,h.2.1,h.2.2.1,zuK b a h.2.2.2⟩
   ·cases h
def zipK {β:Type} :J6->J5->(Hd->Option β)->Option β
 | [],_,k=>k []
 | i::is,b::bs,k=>zipK is bs λH=>k ((i,b)::H)
 | _::_,[],_=>none
def heldK (h bs:J5) (is:J6):Option (J6 × Hd):=takeK h is λpre rest=>appK rest pre λis'=>zipK pre bs λH=>some (is',H)
theorem zBr: ∀{is:J6} {bs:J5} {k:Hd->Option β} {b:β},zipK is bs k=some b->∃H,k H=some b:=by
 intro is;induction is with
 | nil=>exact λh=>⟨[],h⟩
 | cons i is ih=>
   intro bs k b h;cases bs with
   | nil=>cases h
   | cons c bs=>obtain ⟨H,a⟩:=ih h;grind
def St.heldK {w0:Wo} {S0 A bs:J5} {is is':J6} {H:Hd} (h:Sl.heldK A bs is=some (is',H)) {w:Wo} (hs:St w0 S0 is w):St w0 S0 is' w:=by obtain ⟨pre,rest,a,b⟩:=St.takeK (w0:=w0) (w:=w) (S0:=S0) h;rw[zmg]at a;obtain ⟨B,c⟩:=zBr a;cases c;exact (b w hs).permL Yb
section
variable {o:Op} {pos:String}
def Dr {id:Nat} (A bs:J5) (b:heldK A bs is=some (is',H)) (c:P.follows .mixedOrders=true) (h:TA P w0 S0 m n fr is' H ops ops.size 0 Q):TW P w0 S0 m n fr is (.region id ops true) Q:=
 λr d a w e hs=>TW.draw c h r d a w e (hs.heldK b)
theorem Ia {a c:Option R} (d:b=true->TA P w0 S0 a n fr is H ops fuel L Q) (e:b=false->TA P w0 S0 c n fr is H ops fuel L Q):
 TA P w0 S0 (if b=true then a else c) n fr is H ops fuel L Q:=by grind
def Az (h:TE w0 S0 m n fr is .normal Q) (a:Region.ready .any ops (bm ops.size L)= []:=by kernel_rfl):TA P w0 S0 m n fr is H ops fuel L Q:=TA.nil a h
def Ab (i B:Nat) (hi:ops[i]? =some ⟨some d,o,ty,pos,aft,none⟩) (a:Y P w0 S0 n fr (hb' ops.size B H) ⟨some d,o,ty,pos,aft,none⟩ v) (h:TA P w0 S0 m n ((d,v)::fr) is H ops fuel (L ||| 2 ^ i) Q) (A:sfx is (hl' ops.size L H)=hl' ops.size L H:=by exact r) (b:Xk d n=true:=by exact r) (c:rdyB ops i L B=true:=by kernel_rfl) (e:nob i H=true:=by exact r):TA P w0 S0 m n fr is H ops (fuel+1) L Q:=TA.y i B hi a rfl rfl b c e A h
def Ay (i:Nat) (hi:ops[i]? =some ⟨some d,o,ty,pos,aft,none⟩) (a:Y P w0 S0 n fr (hb' ops.size 0 H) ⟨some d,o,ty,pos,aft,none⟩ v) (h:TA P w0 S0 m n ((d,v)::fr) is H ops fuel (L ||| 2 ^ i) Q) (A:sfx is (hl' ops.size L H)=hl' ops.size L H:=by exact r) (b:Xk d n=true:=by exact r) (c:rdyB ops i L 0=true:=by kernel_rfl) (e:nob i H=true:=by exact r):TA P w0 S0 m n fr is H ops (fuel+1) L Q:=TA.y i 0 hi a rfl rfl b c e A h
def Ag (i B:Nat) (a: ∀o:Oper,o.guard=some g->Gd ops fr o true) (hi:ops[i]? =some ⟨some d,o,ty,pos,aft,some g⟩) (b:Y P w0 S0 n fr (hb' ops.size B H) ⟨some d,o,ty,pos,aft,some g⟩ v) (h:TA P w0 S0 m n ((d,v)::fr) is H ops fuel (L ||| 2 ^ i) Q) (A:sfx is (hl' ops.size L H)=hl' ops.size L H:=by exact r) (c:Xk d n=true:=by exact r) (e:rdyB ops i L B=true:=by kernel_rfl) (f:nob i H=true:=by exact r):TA P w0 S0 m n fr is H ops (fuel+1) L Q:=TA.y i B hi b (a _ rfl) rfl c e f A h
def Aq (js:J5) (g:(aval ops n js fr,decF js fuel2)=(some fr',some fuel)) (h:TA P w0 S0 m n fr' is H ops fuel (abits js L) Q) (A:sfx is (hl' ops.size L H)=hl' ops.size L H:=by exact r) (c:ardy ops js L=true:=by kernel_rfl) (b:anob H js=true:=by exact r):TA P w0 S0 m n fr is H ops fuel2 L Q:=by
 simp only[Xh]at g;obtain ⟨a,e⟩:=g;induction js generalizing fr fuel2 L with
 | nil=>cases a;cases e;exact h
 | cons i s ih=>
   unfold aval at a;split at a
   ·rename_i d o ty pos aft hi;split at a
    ·rename_i j;split at a
     ·rename_i v k;unfold ardy at c;unfold anob at b;rw[Xj]at c b;cases fuel2 with
      | zero=>cases e
      | succ f=>exact TA.y i 0 hi (Y.sval k) rfl rfl j c.1 b.1 A (ih h (by rw[hl_or b.1];exact A) c.2 b.2 a e)
     ·trivial
    ·trivial
   ·trivial
def Ax (js:J5) (q:(b == want)=false) (l:(js.head?.bind λi=>(ops[i]?).bind (·.guard),(ops[j]?).bind (·.dst),lk dj fr)=(some (j,want),some dj,some (.bool b))) (a:(aoff ops n j want dj js fr,decF js fuel2)=(some fr',some fuel)) (h:TA P w0 S0 m n fr' is H ops fuel (abits js L) Q) (B:sfx is (hl' ops.size L H)=hl' ops.size L H:=by exact r) (e:ardy ops js L=true:=by kernel_rfl) (c:anob H js=true:=by exact r):TA P w0 S0 m n fr is H ops fuel2 L Q:=by
 simp only[Xh]at l a;obtain ⟨-,t,p⟩:=l;obtain ⟨a,k⟩:=a;induction js generalizing fr fuel2 L with
 | nil=>cases a;cases k;exact h
 | cons i s ih=>
   unfold aoff at a;split at a
   ·rename_i d o ty pos aft D A hi;split at a
    ·rename_i g;simp only[Xj,Xp]at g;obtain ⟨g,u,v,w⟩:=g;have x:D=j:=by simpa using u
     have y:A=want:=by simpa using v
     subst x y;unfold ardy at e;unfold anob at c;rw[Xj]at e c;cases fuel2 with
     | zero=>cases k
     | succ f=>exact TA.off i hi (Gd.at _ _ dj b rfl t p q) rfl g e.1 c.1 B (ih h (by rw[hl_or c.1];exact B) e.2 c.2 (by rw[zns w];exact p) a k)
    ·trivial
   ·trivial
def Au (js:J5) (k:(js.head?.bind λi=>(ops[i]?).bind (·.guard),(ops[j]?).bind (·.dst),lk dj fr)=(some (j,want),some dj,some undef)) (a:(aoff ops n j want dj js fr,decF js fuel2)=(some fr',some fuel)) (h:TA P w0 S0 m n fr' is H ops fuel (abits js L) Q) (B:sfx is (hl' ops.size L H)=hl' ops.size L H:=by exact r) (c:ardy ops js L=true:=by kernel_rfl) (b:anob H js=true:=by exact r):TA P w0 S0 m n fr is H ops fuel2 L Q:=by
 simp only[Xh]at k a;obtain ⟨-,p,l⟩:=k;obtain ⟨a,g⟩:=a;induction js generalizing fr fuel2 L with
 | nil=>cases a;cases g;exact h
 | cons i s ih=>
   unfold aoff at a;split at a
   ·rename_i d o ty pos aft D A hi;split at a
    ·rename_i e;simp only[Xj,Xp]at e;obtain ⟨e,q,t,u⟩:=e;have v:D=j:=by simpa using q
     have w:A=want:=by simpa using t
     subst v w;unfold ardy at c;unfold anob at b;rw[Xj]at c b;cases fuel2 with
     | zero=>cases g
     | succ f=>exact TA.off i hi (Gd.un _ _ dj rfl p l) rfl e c.1 b.1 B (ih h (by rw[hl_or b.1];exact B) c.2 b.2 (by rw[zns u];exact l) a g)
    ·trivial
   ·trivial
def Ou (k:Nat) {l:List Oper} (c:(l.head?.bind (·.guard),(ops[j]?).bind (·.dst),lk dj fr)=(some (j,want),some dj,some undef)) (a:orun n j want dj k l fr=some (l',fr')) (h:TO P w0 S0 m n fr' is ops l' Q):TO P w0 S0 m n fr is ops l Q:=by
 obtain ⟨-,g,f⟩:_/\_/\_:=by simpa using c
 clear c;induction k generalizing l fr with
 | zero=>cases a;exact h
 | succ k ih=>
   unfold orun at a;split at a
   ·trivial
   ·rename_i k' d o ty pos aft B A u e;cases e;split at a
    ·rename_i b;simp only[Xj,Xp]at b;obtain ⟨b,i,p,q⟩:=b;have s:B=j:=by simpa using i
     have t:A=want:=by simpa using p
     subst s t;refine TO.off (Gd.un _ _ dj rfl g f) rfl b (ih a ?_);rw[zns q];exact f
    ·trivial
   ·trivial
def Xe {i:Nat} {val:X->Va} {is':X->J6} (hi:ops[i]? =some ⟨some d,o,ty,pos,aft,none⟩) (a:Ef P w0 S0 n fr is ⟨some d,o,ty,pos,aft,none⟩ val is') (h: ∀x,TA P w0 S0 m n ((d,val x)::fr) (is' x) H ops fuel (L ||| 2 ^ i) Q) (A: ∀x,sfx (is' x) (hl' ops.size (L ||| 2 ^ i) H)=hl' ops.size (L ||| 2 ^ i) H:=by exact λ_=>r) (b:Xk d n=true:=by exact r):
    TX P w0 S0 m n fr is H ops fuel L Q i:=TX.ef hi a rfl rfl b A h
def moveK (h:J5) (is:J6):Option J6:=takeK h is λpre rest=>appK rest pre some
def St.moveK {w0:Wo} {S0 A:J5} {is js:J6} (h:Sl.moveK A is=some js) {w:Wo} (hs:St w0 S0 is w):St w0 S0 js w:=by obtain ⟨pre,rest,a,b⟩:=St.takeK (w0:=w0) (w:=w) (S0:=S0) h;rw[zmg]at a;cases a;exact (b w hs).permL Yb
def Ef.move {val:X->Va} {is' js:X->J6} {A:Oper} (B:J5) (h:Ef P w0 S0 n fr is A val is') (b: ∀x,moveK B (is' x)=some (js x)):Ef P w0 S0 n fr is A val js:=
 λa w K Q c hs D=>h a w K Q c hs λx w' hs'=>D x w' (hs'.moveK (b x))
def Xr {i:Nat} {val:X->Va} {is' js:X->J6} (A:J5) (hi:ops[i]? =some ⟨some d,o,ty,pos,aft,none⟩) (a:Ef P w0 S0 n fr is ⟨some d,o,ty,pos,aft,none⟩ val is') (b: ∀x,moveK A (is' x)=some (js x)) (h: ∀x,TA P w0 S0 m n ((d,val x)::fr) (js x) H ops fuel (L ||| 2 ^ i) Q) (B: ∀x,sfx (js x) (hl' ops.size (L ||| 2 ^ i) H)=hl' ops.size (L ||| 2 ^ i) H:=by exact λ_=>r) (c:Xk d n=true:=by exact r):
    TX P w0 S0 m n fr is H ops fuel L Q i:=TX.ef hi (a.move A b) rfl rfl c B h
def Xu {i:Nat} (hi:ops[i]? =some ⟨none,o,ty,pos,aft,none⟩) (a:Ef P w0 S0 n fr is ⟨none,o,ty,pos,aft,none⟩ (λ_:Unit=>undef) (λ_=>is')) (h:TA P w0 S0 m n fr is' H ops fuel (L ||| 2 ^ i) Q) (A:sfx is' (hl' ops.size (L ||| 2 ^ i) H)=hl' ops.size (L ||| 2 ^ i) H:=by exact r):
    TX P w0 S0 m n fr is H ops fuel L Q i:=TX.ef0 hi a rfl rfl (λ_=>A) λ_=>h
def Xy {i:Nat} (hi:ops[i]? =some ⟨some d,o,ty,pos,aft,none⟩) (a:Y P w0 S0 n fr is ⟨some d,o,ty,pos,aft,none⟩ v) (h:TA P w0 S0 m n ((d,v)::fr) is H ops fuel (L ||| 2 ^ i) Q) (A:sfx is (hl' ops.size (L ||| 2 ^ i) H)=hl' ops.size (L ||| 2 ^ i) H:=by exact r) (b:Xk d n=true:=by exact r):TX P w0 S0 m n fr is H ops fuel L Q i:=TX.y hi a rfl rfl b A h
def Xeg {i:Nat} {val:X->Va} {is':X->J6} (a: ∀o:Oper,o.guard=some g->Gd ops fr o true) (hi:ops[i]? =some ⟨some d,o,ty,pos,aft,some g⟩) (b:Ef P w0 S0 n fr is ⟨some d,o,ty,pos,aft,some g⟩ val is') (h: ∀x,TA P w0 S0 m n ((d,val x)::fr) (is' x) H ops fuel (L ||| 2 ^ i) Q) (A: ∀x,sfx (is' x) (hl' ops.size (L ||| 2 ^ i) H)=hl' ops.size (L ||| 2 ^ i) H:=by exact λ_=>r) (c:Xk d n=true:=by exact r):
    TX P w0 S0 m n fr is H ops fuel L Q i:=TX.ef hi b (a _ rfl) rfl c A h
def Xyg {i:Nat} (a: ∀o:Oper,o.guard=some g->Gd ops fr o true) (hi:ops[i]? =some ⟨some d,o,ty,pos,aft,some g⟩) (b:Y P w0 S0 n fr is ⟨some d,o,ty,pos,aft,some g⟩ v) (h:TA P w0 S0 m n ((d,v)::fr) is H ops fuel (L ||| 2 ^ i) Q) (A:sfx is (hl' ops.size (L ||| 2 ^ i) H)=hl' ops.size (L ||| 2 ^ i) H:=by exact r) (c:Xk d n=true:=by exact r):TX P w0 S0 m n fr is H ops fuel L Q i:=TX.y hi b (a _ rfl) rfl c A h
def A1 (i:Nat) (h:TX P w0 S0 m n fr is H ops fuel L Q i) (a:Region.ready .any ops (bm ops.size L)= [i]:=by kernel_rfl):TA P w0 S0 m n fr is H ops (fuel+1) L Q:=TA.one i a h
theorem A2 (i j:Nat) (b:TX P w0 S0 m n fr is H ops fuel L Q i) (c:TX P w0 S0 m n fr is H ops fuel L Q j) (a:Region.ready .any ops (bm ops.size L)= [i,j]:=by kernel_rfl):TA P w0 S0 m n fr is H ops (fuel+1) L Q:=
 TA.all [i,j] a (by simp) λk d=>by grind
def Sz: ∀s∈([]:List Side),s.ok P w0 S0 n fr ops:=λ_ h=>by cases h
def Sc (i:Nat) {val:X->Va} {new:X->J6} {σ:List Side} (hi:ops[i]? =some ⟨some d,o,ty,pos,aft,none⟩) (e: ∀a S1,(∀{v c},Base w0 S0 v c->Base a S1 v c)->Ef P a S1 n fr [] ⟨some d,o,ty,pos,aft,none⟩ val new) (hs: ∀s∈σ,s.ok P w0 S0 n fr ops) (f:Xk d n=true:=by exact r): ∀s∈(⟨i,d,X,val,new⟩:Side)::σ,s.ok P w0 S0 n fr ops:=by
 intro s b;rcases List.mem_cons.1 b with rfl | b
 ·exact ⟨o,ty,pos,aft,hi,f,e⟩
 ·simp_all
def Ts {σ:List Side} (a: ∀s∈σ,s.ok P w0 S0 n fr ops) (b:decF (σ.map (·.i)) fuel2=some fuel) (h:TM P w0 S0 m n fr σ fr is H ops fuel L Q):TA P w0 S0 m n fr is H ops fuel2 L Q:=by
 have key: ∀(l:J5) (f g:Nat),decF l f=some g->f=g+l.length:=by
  intro l;induction l with
  | nil=>exact λf g h=>by cases h;rfl
  | cons x l ih=>
    intro f g h;cases f with
    | zero=>cases h
    | succ f=>rw[ih f g h];simp;omega
 rw[key _ _ _ b,Yn];exact TM.start σ a h
variable {fr0:Fr} {σ:List Side}
def Me (j:Nat) {val:X->Va} {is':X->J6} (hi:ops[j]? =some ⟨some d,o,ty,pos,aft,none⟩) (b: ∀a S1,(∀{v c},Base w0 S0 v c->Base a S1 v c)->Ef P a S1 n fr is ⟨some d,o,ty,pos,aft,none⟩ val is') (h: ∀x,TM P w0 S0 m n fr0 σ ((d,val x)::fr) (is' x) H ops fuel (L ||| 2 ^ j) Q) (e:Xk d n=true:=by exact r) (f:sideC fr fr0 H σ=true:=by exact r) (g:nokey d fr0=true:=by exact r) (k:othr ops.size d σ=true:=by exact r) (l:chkT ops (some j) [] (σ.map (·.i)) L=true:=by kernel_rfl) (hH:sfx is (hl' ops.size L H)=hl' ops.size L H:=by exact r) (hH': ∀x,sfx (is' x) (hl' ops.size (L ||| 2 ^ j) H)=hl' ops.size (L ||| 2 ^ j) H:=by exact λ_=>r):
    TM P w0 S0 m n fr0 σ fr is H ops (fuel+1) L Q:=TM.ef hi b e f g k l hH hH' h
def Mi (j:Nat) (hi:ops[j]? =some ⟨some d,o,ty,pos,aft,none⟩) (e: ∀b S1,(∀{v c},Base w0 S0 v c->Base b S1 v c)->Y P b S1 n fr is ⟨some d,o,ty,pos,aft,none⟩ v) (h:TM P w0 S0 m n fr0 σ ((d,v)::fr) is H ops fuel (L ||| 2 ^ j) Q) (f:Xk d n=true:=by exact r) (g:sideC fr fr0 H σ=true:=by exact r) (k:nokey d fr0=true:=by exact r) (l:othr ops.size d σ=true:=by exact r) (p:chkT ops (some j) [] (σ.map (·.i)) L=true:=by kernel_rfl) (hH:sfx is (hl' ops.size L H)=hl' ops.size L H:=by exact r) (hH':sfx is (hl' ops.size (L ||| 2 ^ j) H)=hl' ops.size (L ||| 2 ^ j) H:=by exact r):
    TM P w0 S0 m n fr0 σ fr is H ops (fuel+1) L Q:=
 TM.ef (X:=Unit) (val:=λ_=>v) (is':=λ_=>is) hi (λb S1 z=>by
  intro a w K Q q hs A
  unfold Oper.wp
  rw[e b S1 z a w q hs]
  exact A () w hs) f g k l p hH (λ_=>hH') λ_=>h
def Mq (js:J5) (g:(aval ops n js fr,decF js fuel2)=(some fr',some fuel)) (h:TM P w0 S0 m n fr0 σ fr' is H ops fuel (abits js L) Q) (A:sfx is (hl' ops.size L H)=hl' ops.size L H:=by exact r) (c:achk ops (σ.map (·.i)) js L=true:=by kernel_rfl) (b:anob H js=true:=by exact r) (hs:asid ops fr0 H σ js fr=true:=by exact r):TM P w0 S0 m n fr0 σ fr is H ops fuel2 L Q:=by
 simp only[Xh]at g;obtain ⟨a,e⟩:=g;induction js generalizing fr fuel2 L with
 | nil=>cases a;cases e;exact h
 | cons i s ih=>
   unfold aval at a;split at a
   ·rename_i d o ty pos aft hi;split at a
    ·rename_i j;split at a
     ·rename_i v k;unfold achk at c;unfold anob at b;unfold asid at hs;rw[hi]at hs;simp only[Xj]at c b hs;cases fuel2 with
      | zero=>cases e
      | succ f=>refine TM.y 0 hi (Y.sval k) rfl rfl j hs.1 hs.2.1 hs.2.2.1 c.1 b.1 A (ih h (by rw[hl_or b.1];exact A) c.2 b.2 ?_ a e);exact zuK hs.1 hs.2.2.1 hs.2.2.2
     ·trivial
    ·trivial
   ·trivial
def Mc {s:Side} (h: ∀x,TM P w0 S0 m n fr0 σ ((s.d,s.val x)::fr) (s.new x++is) H ops fuel (L ||| 2 ^ s.i) Q) (a:sideC fr fr0 H (s::σ)=true:=by exact r) (b:chkT ops none [s.i] (σ.map (·.i)) L=true:=by kernel_rfl) (hH:sfx is (hl' ops.size L H)=hl' ops.size L H:=by exact r):TM P w0 S0 m n fr0 (s::σ) fr is H ops fuel L Q:=TM.close a b hH h
end
def isSl:C->Bool
 | .sl _ _ _=>true
 | _=>false
def opnO:List C->J4->Option (List C × J6)
 | [],_=>some ([],[])
 | c::s,Vs=>match isSl c with
   | true=>match Vs with
     | V::Vs=>match opnO s Vs with
       | some (ds,js)=>some (.raw V::ds,.own V c::js)
       | none=>none
     | []=>none
   | false=>match opnO s Vs with
     | some (ds,js)=>some (c::ds,js)
     | none=>none
def zsC: ∀{cs:List C} {Vs:J4} {ds:List C} {js:J6},opnO cs Vs=some (ds,js)->opnC cs Vs=ds/\opnI cs Vs=js
 | [],_,ds,js,h=>by cases h;exact ⟨rfl,rfl⟩
 | c::s,Vs,ds,js,h=>by
   unfold opnO at h;split at h
   ·rename_i a;split at h
    ·rename_i V D;split at h
     ·rename_i A B b;cases h;obtain ⟨d,e⟩:=zsC b;cases c with
      | sl sz k cs=>exact ⟨by simp only[opnC,d],by simp only[opnI,e]⟩
      | _=>cases a
     ·cases h
    ·cases h
   ·rename_i a;split at h
    ·rename_i A B b;cases h;obtain ⟨d,e⟩:=zsC b;cases c with
     | sl sz k cs=>cases a
     | _=>exact ⟨by simp only[opnC,d],by simp only[opnI,e]⟩
    ·cases h
def opI [Enc α] (v:Va) (l:List α) (k:Nat) (rest:J6):Option (List C × J6)->Option J6
 | some (cs,js)=>appK js rest λt=>some (.own v (hl l k cs)::t)
 | none=>none
section
def Cz:Cls [] [] []:=.nil
def Ck {c:C} (h:Cls cs is ds):Cls (c::cs) is (c::ds):=.keep h
def Cf {V:Va} {c:C} (h:Cls cs is ds):Cls (.raw V::cs) (.own V c::is) (c::ds):=.fill h
def Hc [Enc α] {x:α} {ys:List C} {js:J6} (A:J5) (y:α) (a:idx l i=some x) (b:takeP A is=some (.own v (hl l i.toNat zs)::js,rest)) (c:Cls zs js ys) (d:Enc.enc y=ys:=by exact r):
    ∀w,St w0 S0 is w->St w0 S0 (.own v (lc (l.set i.toNat y))::rest) w:=by intro w h;subst d;rw[zyI (zbT a).2.2];exact St.cls c (h.takeP b)
def Hs [Enc α] {x:α} {ys:List C} {js:J6} (A:J5) (a:idx l i=some x) (b:takeP A is=some (.own v (hl l i.toNat zs)::js,rest)) (c:Cls zs js ys) (d:Enc.enc x=ys:=by exact r):
    ∀w,St w0 S0 is w->St w0 S0 (.own v (lc l)::rest) w:=by intro w h;subst d;rw[zsh (zbT a).2.2];exact St.cls c (h.takeP b)
def Ha [Enc α] {js:J6} (A:J5) (xs:List α) (a:takeP A is=some (.own v (.sl sz k cs)::js,rest)) (b:Cls cs js ds) (c:lc xs= .sl sz k ds:=by exact r):
    ∀w,St w0 S0 is w->St w0 S0 (.own v (lc xs)::rest) w:=by intro w h;rw[c];have:=St.cls (pre:=[]) (post:=[]) b (by simpa using h.takeP a);simp_all
def Ho [Enc α] {x:α} (q:Nat) {isf:Tup q->J6} (A:J5) (d:idx l i=some x) (e:takeP A is=some ([.own v (lc l)],rest)) (f: ∀X:Tup q,opI v l i.toNat rest (opnO (Enc.enc x) (tupL q X))=some (isf X)) (g:slN (Enc.enc x)=q:=by exact r):Gh w0 S0 is isf:=by
 intro w h;have c:=h.takeP e;rw[Yc,zsh (zbT d).2.2]at c;obtain ⟨Vs,j,n⟩:=St.opn c;obtain ⟨X,rfl⟩:=zs6 q Vs (j.trans g);refine ⟨X,?_⟩;have a:=f X;cases b:opnO (Enc.enc x) (tupL q X) with
 | none=>rw[b]at a;cases a
 | some p=>obtain ⟨cs,js⟩:=p;rw[b]at a;obtain ⟨k,m⟩:=zsC b;unfold opI at a;simp only[zmg,Xn]at a;rw[<-a,<-k,<-m];trivial
end
section
variable {pos:String}
def repC {β:Type} :List C->List C->(List C->Option β)->Option β
 | vs,[],k=>k vs
 | _::s,u::us,k=>repC s us λt=>k (u::t)
 | [],_::_,_=>none
def splC {β:Type} :Nat->List C->List C->(List C->Option β)->Option β
 | 0,vs,us,k=>repC vs us k
 | n+1,v::s,us,k=>splC n s us λt=>k (v::t)
 | _+1,[],_,_=>none
theorem zkJ {c:C} {s:List C} {A:J4} (h:valsR (c::s)=some A): ∃v vs,valR c=some v/\valsR s=some vs/\A=v::vs:=by unfold valsR at h;grind
def zt5: ∀{cs:List C} {vs:J4},valsR cs=some vs->vs.length=cs.length
 | [],vs,h=>by cases h;rfl
 | c::cs,vs,h=>by obtain ⟨v,us,b,a,rfl⟩:=zkJ h;simp[zt5 a]
def zw8 {β:Type} : ∀{zs cs:List C} {k:List C->Option β} {b:β} {zv us:J4},repC zs cs k=some b->valsR zs=some zv->valsR cs=some us->
    ∃A,k A=some b/\cs.length<=zs.length/\valsR A=some (us++zv.drop us.length)
 | zs,[],k,b,zv,us,h,a,d=>by cases d;exact ⟨zs,by simpa[repC] using h,by simp,by simpa using a⟩
 | z::s,c::cs,k,b,zv,us,h,a,d=>by
   obtain ⟨v,vs,-,e,rfl⟩:=zkJ a
   obtain ⟨u,ts,f,g,rfl⟩:=zkJ d
   obtain ⟨A,i,j,l⟩:=zw8 (zs:=s) h e g
   exact ⟨c::A,i,by simpa using j,by simp[valsR,f,l]⟩
 | [],_::_,_,_,_,_,h,_,_=>by cases h
def zxf {β:Type} : ∀{n:Nat} {zs cs:List C} {k:List C->Option β} {b:β} {zv us:J4},splC n zs cs k=some b->valsR zs=some zv->valsR cs=some us->
    ∃A,k A=some b/\n+cs.length<=zs.length/\valsR A=some (splice zv n us)
 | 0,zs,cs,k,b,zv,us,h,a,c=>by
   obtain ⟨A,d,g,f⟩:=zw8 h a c
   exact ⟨A,d,by omega,by simpa[splice] using f⟩
 | n+1,z::s,cs,k,b,zv,us,h,a,c=>by
   obtain ⟨v,vs,i,hs,rfl⟩:=zkJ a
   obtain ⟨A,d,g,f⟩:=zxf (zs:=s) h hs c
   refine ⟨z::A,d,by simp;omega,?_⟩
   have e:n+1+us.length=(n+us.length)+1:=by omega
   simp[valsR,i,f,splice,e]
 | _+1,[],_,_,_,_,_,h,_,_=>by cases h
def znB: ∀is:J6,pulls (Xi is.length 0) is=some is
 | []=>rfl
 | i::is=>by show pulls (0::Xi is.length 0) (i::is)=_;simp only[pulls,pull,znB is]
def Sh [Enc α] {y:Od} {c:Nat} {j:Int} {zv:J4} (i:Nat) (cs:List C) (e:kindB P t=some (ag,s)) (f:idx l j=some z) (a:(is[i]?,ev fr x,ev fr y)=(some (.own v (hl l j.toNat zs)),some (elP v (j.toNat*sz+c)),some u)) (g:Cel w0 S0 is u us) (h:splC c zs cs (λE=>setK i is (.own v (hl l j.toNat E)) some)=some is') (b:valsR cs=some us:=by exact r) (d:valsR zs=some zv:=by exact r) (k:Xl us.length s=true:=by exact r) (m:Xl zs.length sz=true:=by exact r) (o:Enc.sz α=sz:=by exact r):
    Ef P w0 S0 n fr is ⟨none,.store t x y,ty,pos,aft,gd⟩ (λ_:Unit=>undef) (λ_=>is'):=by
 simp only[Xh]at a;obtain ⟨E,p,B,q⟩:=zxf h d b;have w:=zsI p;cases w;have A:c+us.length<=sz:=by have D:=zt5 b;simp_all
 exact Ef.store_hole i e o a.1 (zbT f).2.2 a.2.1 a.2.2 g k m (Xt A) d q rfl
inductive CelsI (w0:Wo) (S0:J5) (is:J6):J4->List J4->Prop
 | nil:CelsI w0 S0 is [] []
 | cons {v:Va} {us:J4} {Vs:J4} {uss:List J4} :Cel w0 S0 is v us->CelsI w0 S0 is Vs uss->CelsI w0 S0 is (v::Vs) (us::uss)
def CelsI.cels (h:CelsI w0 S0 is Vs uss):Cels w0 S0 is Vs uss:=by
 induction h with
 | nil=>trivial
 | cons a _ ih=>exact ⟨a,ih⟩
def Qc (h:Cel w0 S0 is v us) (a:CelsI w0 S0 is Vs uss):CelsI w0 S0 is (v::Vs) (us::uss):=.cons h a
def Qz:CelsI w0 S0 is [] []:=.nil
def Bk {d:Option Nat} {len:Nat} {z:Va} (cs:List C) (a:elemB P t=some (e,sz,by_)) (c:zeroB P e=some z) (f:partVs fr 0 ps=some Vs) (g:CelsI w0 S0 is Vs uss) (h:Xl Vs.length len=true:=by exact r) (i:uss.all (λus=>Xl us.length sz)=true:=by exact r) (j:Xw (len*sz) 16777216=true:=by exact r) (k:Xk 0 sz=true:=by exact r) (l:valsR cs=some uss.flatten:=by exact r):
    Ef P w0 S0 n fr is ⟨d,.buildSlice t len ps.toArray,ty,pos,aft,gd⟩ (λb:Nat=>.slice (some ⟨b,0,none⟩) len len) (λb=>.own (.slice (some ⟨b,0,none⟩) len len) (.sl sz len cs)::is):=Ef.buildSliceR uss cs a c f h i j k g.cels l
def Aw [Enc α] {d:Option Nat} {y:Od} {z:Va} {k q:List α} (D:J5) (c:app by_ l k=some q) (f:elemB P t=some (e,sz,by_)) (g:zeroB P e=some z) (b:(takeP D is,ev fr x,ev fr y)=(some ([.own v (lc l),.own u (lc k)],rest),some v,some u)) (h:Xl z.cells.size sz=true:=by exact r) (i:Enc.sz α=sz:=by exact r):
    Ef P w0 S0 n fr is ⟨d,.call {callee:=.builtin .append,args:=#[x,y],argTypes:=#[t,t]},ty,pos,aft,gd⟩ (λA:Va=>A) (λA=>.own A (lc q)::rest):=by simp only[Xh]at b;intro a w K Q j hs B;exact Ef.appN (is':=rest) _ c f g h i (znB _) b.2.1 b.2.2 a w K Q j (hs.takeP b.1) B
def Mk [Flat α] {y:Od} {k:Ik} {zv:Va} {len:Int} {c:Nat} (z:α) (b:mkLen by_ len=some c) (d:elemB P t=some (e,sz,by_)) (f:zeroB P e=some zv) (a:(ev fr x,ev fr y)=(some (.int k len),some (.int k' len)):=by exact r) (g:zv.cells=(Flat.vals z).toArray:=by exact r) (h:Enc.sz α=sz:=by exact r):
    Ef P w0 S0 n fr is ⟨dst,.makeSlice t x y,ty,pos,aft,gd⟩ (λv:Va=>v) (λv=>.own v (lc (Xi c z))::is):=by simp only[Xh]at a;exact Ef.make b d f g h a.1 a.2
def M0 [Flat α] {y:Od} {k:Ik} {zv:Va} {len:Int} {c:Nat} (z:α) (b:mkLen by_ len=some c) (d:elemB P t=some (e,sz,by_)) (f:zeroB P e=some zv) (a:(ev fr x,ev fr y)=(some (.int k 0),some (.int k' len)):=by exact r) (g:zv.cells=(Flat.vals z).toArray:=by exact r) (h:Enc.sz α=sz:=by exact r):
    Ef P w0 S0 n fr is ⟨dst,.makeSlice t x y,ty,pos,aft,gd⟩ (λv:Va=>v) (λv=>.own v (lc ([]:List α))::is):=by simp only[Xh]at a;exact Ef.make0 b d f g h a.1 a.2
def fieldTB (P:Pm) (s i:Nat):Option (Nat × Ti):=
 match P.underlying s with
 | some (.struct fs)=>match fs[i]? with
   | some f=>some (f.offset,f.type)
   | none=>none
 | _=>none
def Fy {cs:Array Va} {f A:Nat} (b:fieldTB P s f=some (o,A)) (l:kindB P A=some (ag,sz)) (e:ev fr x=some (.agg cs)) (c:(bif ag then some (Value.agg (cs.extract o (o+sz))) else cs[o]?)=some v):
    Y P w0 S0 n fr is ⟨dst,.field s x f,ty,pos,aft,gd⟩ v:=by
 intro a w g hs;unfold fieldTB at b;split at b
 ·rename_i D h;split at b
  ·rename_i B j;simp only[Xn,Xh]at b;obtain ⟨rfl,rfl⟩:=b;obtain ⟨d,i,p,hi,m,k⟩:=zix l;cases ag with
   | true=>simp only[cT,Xn]at c;subst c;simp[execOp,g.eval e,Instr.field,run_underlying h,j,Go.part,k w,sizeOf,typeInfo,hi,m,asAgg]
   | false=>simp only[cF]at c;simp[execOp,g.eval e,Instr.field,run_underlying h,j,Go.part,k w,c,asAgg]
  ·trivial
 ·trivial
theorem Can.altb {E:Va} {c D:C} (k:Nat) (h:is[k]? =some (.alt v c E D)) (a:Base w0 S0 E D):Can w0 S0 is v c:=by
 intro w S hs b;obtain ⟨A,B,d⟩:=zcw h hs;rcases B with B | ⟨_,rfl,rfl⟩
 ·obtain ⟨T,F,e⟩:=Ow.rd B;grind
 ·exact a.can w S hs b
end
instance {α:Type} [Enc α]:Enc (Option α):=⟨Enc.sz α,λx=>match x with | some x=>Enc.enc x | none=>Xi (Enc.sz α) .any,λx=>by cases x<;>simp[Enc.len],Enc.pos⟩
def zuX [Enc α] (l:List α):(l.map some).flatMap (Enc.enc (α:=Option α))=l.flatMap Enc.enc:=by
 induction l with
 | nil=>rfl
 | cons x l ih=>rw[Yt,Xx,Xx,ih];rfl
def zwX [Enc α] (l:List α):lc (l.map some)=lc l:=by unfold lc;rw[zuX,Yn];rfl
def allO {α:Type} :List (Option α)->Option (List α)
 | []=>some []
 | x::l=>x.bind λx=>(allO l).map λl=>x::l
def zr8 {α:Type} : ∀{ls:List (Option α)} {l:List α},allO ls=some l->ls=l.map some
 | [],l,h=>by cases h;rfl
 | none::ls,l,h=>by cases h
 | some x::ls,l,h=>by
   simp only[allO,Yk]at h;cases a:allO ls with
   | none=>rw[a]at h;cases h
   | some k=>rw[a]at h;cases h;rw[zr8 a];rfl
def zls {α:Type} : ∀(l:List α),allO (l.map some)=some l
 | []=>rfl
 | x::l=>by simp only[Yt,allO,Yk,zls l,Ya]
def zF {z:Option α} {x:α} (h:idx ls i=some z) (a:z=some x):idx ls i=some (some x):=by rw[h,a]
section
variable {pos:String}
def Cd {c:C} (h:Cls cs is ds) (a:goneC c=true:=by exact r):Cls (c::cs) is (.any::ds):=.drop a h
def Hm [Enc α] (A:J5) (a:takeP A is=some ([.own v (lc l)],rest)): ∀w,St w0 S0 is w->St w0 S0 (.own v (lc (l.map some))::rest) w:=by intro w h;rw[zwX];exact h.takeP a
def Hv [Enc α] (A:J5) (a:allO ls=some l) (b:takeP A is=some ([.own v (lc ls)],rest)): ∀w,St w0 S0 is w->St w0 S0 (.own v (lc l)::rest) w:=by intro w h;rw[<-zwX,<-zr8 a];exact h.takeP b
def cmpS (s u:J3):Int:=Lib.compareBytes s u
def Es {d:Option Nat} {y:Od} {s u:J3} (e:P.funcs[f]? =some fn) (g:ev fr x=some (strV s)) (h:ev fr y=some (strV u)) (i:(fn.name == "runtime.NumGoroutine")=false:=by kernel_rfl) (j:fn.body.isNone=true:=by kernel_rfl) (k:Extern.findNext fn=none:=by kernel_rfl) (l:Extern.find fn=some Extern.BytealgCompare.compare:=by kernel_rfl):
    Ef P w0 S0 n fr is ⟨d,.call {callee:=.value (.func f),args:=#[x,y],argTypes:=ats},ty,pos,aft,gd⟩ (λ_:Unit=>.int .i64 (cmpS s u)) (λ_=>is):=by
 intro a w K Q b m hK;have o:(execOp a.eval ⟨d,.call {callee:=.value (.func f),args:=#[x,y],argTypes:=ats},ty,pos,aft,gd⟩).run P w= .ok (.value (.int .i64 (cmpS s u))) w:=by have c:=run_callFunc_extern e i j k l #[strV s,strV u] w;have p:(Extern.BytealgCompare.compare #[strV s,strV u]).run P w= .ok (.int .i64 (cmpS s u)) w:=Lib.run_compareString ⟨s.toArray⟩ ⟨u.toArray⟩ w;rw[p]at c;simp only[Result.andThen_ok]at c;have q:a.eval (.func f)= .func (.func f) #[] #[]:=rfl;simp[execOp,resolve,q,Deferred.ofValue,invoke,b.eval g,b.eval h];trivial
 unfold Oper.wp;rw[o];exact hK () w m
def Nc {c:Nat} (b:Can w0 S0 is v (.sl sz' l.length cs')) (d:idx l i=some z) (e:ev fr x=some (elP v c)):
    Y P w0 S0 n fr is ⟨dst,.nilCheck x,ty,pos,aft,gd⟩ (elP v c):=by
 intro a w f hs;obtain ⟨_,g,_⟩:=zbT d;rcases b.row hs with ⟨h,_,rfl⟩ | ⟨j,cap,vs,S,rfl,_⟩
 ·omega
 ·simp[execOp,f.eval e,elP]
def ptrOk (v:Va):Prop:=match v with
 | .slice (some _) _ _=>True
 | _=>False
def zH (a:Can w0 S0 is v (.sl sz' l.length cs')) (b:idx l i=some z): ∀w,St w0 S0 is w->ptrOk v:=by
 intro w hs;obtain ⟨_,c,_⟩:=zbT b;rcases a.row hs with ⟨d,_,rfl⟩ | ⟨e,cap,vs,S,rfl,_⟩
 ·omega
 ·trivial
def Np {c:Nat} (b:ptrOk v) (d:ev fr x=some (elP v c)):
    Y P w0 S0 n fr is ⟨dst,.nilCheck x,ty,pos,aft,gd⟩ (elP v c):=by
 intro a w e hs;unfold ptrOk at b;split at b
 ·simp[execOp,e.eval d,elP]
 ·trivial
def Fp {f c:Nat} (b:fieldB P s f=some o) (e:ptrOk v) (g:ev fr x=some (elP v (k*sz+c))):
    Y P w0 S0 n fr is ⟨dst,.fieldAddr s x f,ty,pos,aft,gd⟩ (elP v (k*sz+Yj c o)):=by
 intro a w i hs;unfold ptrOk at e;split at e
 ·unfold fieldB at b;split at b
  ·rename_i D j;split at b
   ·rename_i B l;split at b
    ·rename_i A m;cases d:Xl A.size 0 with
     | true=>rw[d]at b;cases b
     | false=>
       rw[d]at b;have p:A.size≠0:=by intro h;rw[h]at d;cases d
       simp only[cF,Xn]at b;simp[execOp,i.eval g,Instr.fieldAt,run_underlying j,l,Instr.sureAddr,fieldPlace,sizeOf,typeInfo,m,p,b,elP,add_add,Nat.add_assoc]
    ·trivial
   ·trivial
  ·trivial
 ·trivial
def mayI [Enc β] (v:Va) (o:Option (List β)):Item:=match o with
 | some l=>.own v (lc l)
 | none=>.ows [] []
def Mb [Enc α] {o:Option (List α)} (A:J5) (a:o=some l) (b:takeP A is=some ([mayI v o],rest)): ∀w,St w0 S0 is w->St w0 S0 (.own v (lc l)::rest) w:=by intro w h;subst a;exact h.takeP b
def Mn: ∀w,St w0 S0 is w->St w0 S0 (.ows [] []::is) w:=by intro w ⟨os,tape,output,size,base,S,hS,a,b⟩;exact ⟨os,tape,output,size,base,S,⟨[],S,rfl,.nil,hS⟩,a,b⟩
def Ows.raws {w:Wo} : ∀{us:J4},(∀u∈us,u.oneCell'=true)->Ows w us (us.map .raw) []
 | [],_=>.nil
 | u::us,h=>.cons u (.raw u) [] us _ [] (.raw u (h u (by simp))) (Ows.raws λv a=>h v (by simp[a]))
def Ow.raws {w:Wo} {v:Va} {sz n:Nat} {pre cs post:List C} {A:J5} (h:Ow w v (.sl sz n (pre++(cs++post))) A):
    ∃(us:J4) (B:J5),us.length=cs.length/\Ow w v (.sl sz n (pre++(us.map .raw++post))) B/\B.Sublist A:=by
 generalize f:pre++(cs++post)=ds at h;cases h with
 | nil=>
   have a:pre= []:=by cases pre<;>simp_all
   have c:cs= []:=by subst a;cases cs<;>simp_all
   have d:post= []:=by subst a c;simpa using f
   subst a c d;exact ⟨[],[],rfl,.nil sz,.slnil⟩
 | row b n cap e sz cur vs _ S g i j hs k l=>
   subst f;obtain ⟨S1,E,rfl,a,c⟩:=l.split;obtain ⟨F,D,rfl,d,m⟩:=c.split;refine ⟨(vs.drop pre.length).take cs.length,b::(S1++([]++D)),d.length,.row b n cap e sz cur vs _ _ g i j hs k ?_,?_⟩
   ·have:=a.append ((Ows.raws d.oneCells).append m)
    rwa [Xo,Xo]at this
   ·simp
def Hw [Enc α] {x:α} (q:Nat) {isf:Tup q->J6} (J:J5) (c:idx l i=some x) (d:takeP J is=some ([.own v (lc l)],rest)) (e: ∀X:Tup q,(.own v (hl l i.toNat ((tupL q X).map .raw))::rest)=isf X) (f:Enc.sz α=q:=by exact r):Gh w0 S0 is isf:=by intro w h;obtain ⟨os,tape,output,size,base,S,E,g,j⟩:=h.takeP d;rw[Yc,zsh (zbT c).2.2]at E;obtain ⟨A,B,rfl,F,G⟩:=E;obtain ⟨us,D,k,I,m⟩:=Ow.raws F;obtain ⟨X,rfl⟩:=zs6 q us (by rw[k,Enc.len,f]);have a:(D++B).Sublist (A++B):=m.append (List.Sublist.refl _);refine ⟨X,?_⟩;rw[<-e X];exact ⟨os,tape,output,size,base,D++B,⟨D,B,rfl,I,G⟩,a.nodup g,λb n=>j b (a.subset n)⟩
def Ows.anys {w:Wo} : ∀{us:J4},(∀u∈us,u.oneCell'=true)->Ows w us (Xi us.length .any) []
 | [],_=>.nil
 | u::us,h=>.cons u .any [] us _ [] (.any u (h u (by simp))) (Ows.anys λv a=>h v (by simp[a]))
theorem Ef.appendV {d:Option Nat} {lo N:Nat} {y:Od} {z:Va} {aq bs:List C} (ks:J5) (W:(k+j)*by_<=140737488355328) (X:k+j<=9223372036854775807) (Y:elemB P t=some (e,sz,by_)) (m:zeroB P e=some z) (Z:Xl z.cells.size sz=true) (a0:Xk 0 sz=true) (hp:pulls ks is=some (.own v (.sl sz k cs):: .own u (.sl sz N (aq++(ds++bs)))::is')) (a1:aq.length=lo*sz) (a2:ds.length=j*sz) (a3:lo+j<=N) (hx:ev fr x=some v) (H:ev fr y=some (subV u sz lo j)):
 Ef P w0 S0 n fr is ⟨d,.call {callee:=.builtin .append,args:=#[x,y],argTypes:=#[t,t]},ty,pos,aft,gd⟩ (λv':Va=>v')
  (λv'=>.own v' (.sl sz (k+j) (cs++ds)):: .own u (.sl sz N (aq++(Xi (j*sz) .any++bs)))::is'):=by
 obtain ⟨I,ti,o,a4,a5⟩:=zD Y;have a6:ti.zero=some z:=by unfold zeroB at m;rw[o]at m;simpa using m
 intro a w K Q J hs hK;have hs':St w0 S0 ([.own v (.sl sz k cs),.own u (.sl sz N (aq++(ds++bs)))]++is') w:=hs.pulls ks hp;have key: ∀A,sats w [.own v (.sl sz k cs),.own u (.sl sz N (aq++(ds++bs)))] A->A.Nodup->
  ∃v' w',(Builtin.append_ #[t,t] ty #[v,subV u sz lo j]).run P w= .ok v' w'/\∃A',Chg w w' A/\sats w' [.own v' (.sl sz (k+j) (cs++ds)),.own u (.sl sz N (aq++(Xi (j*sz) .any++bs)))] A'/\A'.Nodup/\∀b∈A',b∈A\/w.heap.size<=b:=by
  rintro A ⟨A1,A2,rfl,p,A3,A4,rfl,L,h3⟩ s
  rw[show A4= [] from h3,Yp]at s |-
  obtain ⟨us,T1,e1,M,O,rfl⟩:=Ow.ownsRow p
  generalize hG:aq++(ds++bs)=xs at L
  cases L with
  | nil=>
    have hj:j=0:=by omega
    have a7:lo=0:=by omega
    subst hj a7;have a8:ds= []:=List.eq_nil_of_length_eq_zero (by omega);subst a8;have D:=append_none_any (P:=P) (ty:=ty) I o v k us M;refine ⟨v,w,by simpa[subV] using D,(v.ownBlock.toList++T1)++ [],Chg.refl _ _,⟨v.ownBlock.toList++T1,[],rfl,?_,[],[],rfl,?_,rfl⟩,by simpa using s,λb hb=>.inl (by simpa using hb)⟩
    ·simp_all
    ·rw[Nat.zero_mul,List.replicate_zero,hG];exact .nil sz
  | row b n2 cap2 R sz2 cur vs _ T2 E S hm a9 T hr=>
    subst hG;obtain ⟨S1,S23,rfl,F,b0⟩:=hr.split;obtain ⟨S2,S3,rfl,g,l⟩:=b0.split;have hmulN:(lo+j)*sz<=N*sz:=Yf _ a3;rw[Nat.add_mul]at hmulN;have hleN:N*sz<=cap2*sz:=Yf _ S;have b8:vs.length=N*sz:=by rw[<-T,Xv,Array.length_toList];omega
    rw[a1]at F g l;rw[a2]at g l;have G:((vs.drop (lo*sz)).take (j*sz)).length=j*sz:=by rw[Xv,Yl];omega
    have b1: ∀i q,((vs.drop (lo*sz)).take (j*sz))[i]? =some q->w.cell? ((⟨b,lo*sz,none⟩:Addr).add i)=some q:=by
     intro i q c;have hi:i<j*sz:=by rw[<-G];exact (List.getElem?_eq_some_iff.1 c).1
     rw[add_lit,cell_of_row w b (lo*sz+i) cur R (0,0) E];grind
    obtain ⟨adr,b2,b3⟩: ∃adr:Addr,subV (.slice (some ⟨b,0,none⟩) N cap2) sz lo j= .slice (some adr) j (cap2 - lo)/\∀i q,((vs.drop (lo*sz)).take (j*sz))[i]? =some q->w.cell? (adr.add i)=some q:=by
     by_cases U:cap2=lo
     ·refine ⟨⟨b,0,none⟩,by simp only[subV,iP U],λi q c=>?_⟩;grind
     ·refine ⟨⟨b,lo*sz,none⟩,?_,b1⟩;simp only[subV,iN U,Ya,add_lit,Yi]
    rw[b2];obtain ⟨v',w',f,r1,r2,V,r4⟩:=append_raw (P:=P) (ty:=ty) I o a6 a4 a5 (by simpa using Z) (by simpa using a0) M adr j (cap2 - lo) _ G b3 g.oneCells X W;obtain ⟨hndL,hndR,b9⟩:=Xs.1 s;obtain ⟨hndV,hndT,hdisV⟩:=Xs.1 hndL;obtain ⟨c0,hndT2⟩:=List.nodup_cons.1 hndR;have c1:=O.lt;have hltA:=F.lt;have hltB:=g.lt;have hltC:=l.lt;have c2:b<w.heap.size:=(Array.getElem?_eq_some_iff.1 E).1;have h: ∀q∈T1++(b::(S1++(S2++S3))),w'.heap[q]? =w.heap[q]?:=by
     intro q c;refine V.block q ?_ ?_
     ·grind
     ·grind
    have hO1:=O.keep (w':=w') λq c=>h q (Yq.2 (.inl c));have hO2:=g.keep (w':=w') λq c=>h q (by simp[c]);have hO3:=F.keep (w':=w') λq c=>h q (by simp[c]);have hO4:=l.keep (w':=w') λq c=>h q (by simp[c]);have b4:Chg w w' ((v.ownBlock.toList++T1)++(b::(S1++(S2++S3)))):=Chg.of_grown V _ λq c=>by simp only[Yq];exact .inl (.inl c)
    have b5:Ow w' (.slice (some ⟨b,0,none⟩) N cap2) (.sl sz N (aq++(Xi (j*sz) .any++bs))) (b::(S1++S3)):=by refine .row b N cap2 R sz cur vs _ _ ((h b (by simp)).trans E) S hm a9 T ?_;have h7:=hO3.append ((Ows.anys (w:=w') g.oneCells).append hO4);rw[G,Xo,Xo,Yr]at h7;trivial
    refine ⟨v',w',r1,(v'.ownBlock.toList++(T1++S2))++(b::(S1++S3)),b4,⟨_,_,rfl,Ow.of_ownsRow r2 (hO1.append hO2),_,[],by rw[Yp],b5,rfl⟩,?_,?_⟩
    ·have c3: ∀q∈v'.ownBlock.toList,q∈v.ownBlock.toList\/w.heap.size<=q:=r4;have b6:((T1++S2)++(b::(S1++S3))).Nodup:=by
      have c4:(T1++(b::(S1++(S2++S3)))).Perm ((T1++S2)++(b::(S1++S3))):=by grind
      grind
     rw[List.append_assoc];refine Xs.2 ⟨by cases v'.ownBlock<;>simp,b6,?_⟩;intro q c y H e;subst e;have c5:q∈T1++(b::(S1++(S2++S3))):=by grind
     grind
    ·grind
 obtain ⟨SA,hSA⟩:=hs'.own;obtain ⟨A,B,rfl,hA,hB⟩:=zcp.1 hSA.1;obtain ⟨v',w',p,_⟩:=key A hA (Xs.1 hSA.2.1).1;have b7:St w0 S0 ([.own v' (.sl sz (k+j) (cs++ds)),.own u (.sl sz N (aq++(Xi (j*sz) .any++bs)))]++is') w':=hs'.step λA hA hn=>by grind
 have D:(execOp a.eval ⟨d,.call {callee:=.builtin .append,args:=#[x,y],argTypes:=#[t,t]},ty,pos,aft,gd⟩).run P w= .ok (.value v') w':=by simp[execOp,resolve,invoke,builtin,J.eval hx,J.eval H,p]
 unfold Oper.wp;rw[D];exact hK v' w' b7
def cutO (ls:List (Option α)) (lo hi:Int):Option (List α × List (Option α)):=
 if 0<=lo/\lo<=hi/\hi<=ls.length then (allO ((ls.drop lo.toNat).take (hi.toNat - lo.toNat))).map λz=>(z,ls.take lo.toNat++(Xi (hi.toNat - lo.toNat) none++ls.drop hi.toNat)) else none
def zAR {A:List (Option α)} {z:List α} {lo hi:Int} (h:cutO ls lo hi=some (z,A)):
    0<=lo/\lo<=hi/\hi<=ls.length/\(ls.drop lo.toNat).take (hi.toNat - lo.toNat)=z.map some/\A=ls.take lo.toNat++(Xi (hi.toNat - lo.toNat) none++ls.drop hi.toNat):=by
 unfold cutO at h;split at h
 ·rename_i a;cases b:allO ((ls.drop lo.toNat).take (hi.toNat - lo.toNat)) with
  | none=>rw[b]at h;cases h
  | some B=>rw[b]at h;cases h;exact ⟨a.1,a.2.1,a.2.2,zr8 b,rfl⟩
 ·cases h
def zz1 [Enc α] (k:Nat):(Xi k (none:Option α)).flatMap Enc.enc=Xi (k*Enc.sz α) .any:=by
 induction k with
 | zero=>simp
 | succ k ih=>rw[List.replicate_succ,Xx,ih,Nat.succ_mul,Nat.add_comm,<-List.replicate_append_replicate];rfl
theorem Av [Enc α] {d:Option Nat} {y:Od} {z:Va} {g q:List α} {V:List (Option α)} {lo hi:Int} (W:J5) (o:cutO ls lo hi=some (g,V)) (p:app by_ l g=some q) (s:elemB P t=some (e,sz,by_)) (A:zeroB P e=some z) (b:(takeP W is,ev fr x,ev fr y)=(some ([.own v (lc l),.own u (lc ls)],rest),some v,some (subV u sz lo.toNat (hi.toNat - lo.toNat)))) (B:Xl z.cells.size sz=true:=by exact r) (D:Enc.sz α=sz:=by exact r):
 Ef P w0 S0 n fr is ⟨d,.call {callee:=.builtin .append,args:=#[x,y],argTypes:=#[t,t]},ty,pos,aft,gd⟩ (λU:Va=>U) (λU=>.own U (lc q):: .own u (lc V)::rest):=by
 subst D;simp only[Xh]at b;obtain ⟨H,I,J,c,rfl⟩:=zAR o;obtain ⟨rfl,f,h⟩:=zmh p;have i:g.length=hi.toNat - lo.toNat:=by have:=congrArg List.length c;grind
 have E:ls=ls.take lo.toNat++(g.map some++ls.drop hi.toNat):=by
  conv=>lhs;rw[<-Xo lo.toNat ls,<-Xo (hi.toNat - lo.toNat) (ls.drop lo.toNat),c,List.drop_drop]
  grind
 have F:lc ls= .sl (Enc.sz α) ls.length ((ls.take lo.toNat).flatMap Enc.enc++(g.flatMap Enc.enc++(ls.drop hi.toNat).flatMap Enc.enc)):=by
  show C.sl (Enc.sz α) ls.length (ls.flatMap Enc.enc)=_;conv=>lhs;rw[show ls.flatMap (Enc.enc (α:=Option α))=(ls.take lo.toNat++(g.map some++ls.drop hi.toNat)).flatMap Enc.enc from congrArg _ E]
  rw[Xq,Xq,zuX]
 have L:lc (ls.take lo.toNat++(Xi (hi.toNat - lo.toNat) none++ls.drop hi.toNat))= .sl (Enc.sz α) ls.length ((ls.take lo.toNat).flatMap Enc.enc++(Xi ((hi.toNat - lo.toNat)*Enc.sz α) .any++(ls.drop hi.toNat).flatMap Enc.enc)):=by unfold lc;rw[Xq,Xq,zz1,Yh,Yh,Xv,Yd,Yl];rw[show min lo.toNat ls.length+(hi.toNat - lo.toNat+(ls.length - hi.toNat))=ls.length by omega];rfl
 have M:lc (l++g)= .sl (Enc.sz α) (l.length+(hi.toNat - lo.toNat)) (l.flatMap Enc.enc++g.flatMap Enc.enc):=by unfold lc;grind
 rw[i]at f h;intro a w K Q G hs Z;have m:=hs.takeP b.1;rw[Ym,Ym,Yr,F]at m;refine Ef.appendV (P:=P) (is':=rest) (by_:=by_) (lo:=lo.toNat) (j:=hi.toNat - lo.toNat) (k:=l.length) (N:=ls.length) _ f h s A B (by simpa using Enc.pos (α:=α)) (znB _) ?_ ?_ (by omega) b.2.1 b.2.2 a w K Q G m (λU w' O=>?_)
 ·rw[zbt,Xv];show min lo.toNat ls.length*Enc.sz α=_;congr 1;omega
 ·rw[zbt,i]
 ·grind
end
section
theorem A4 (i j k l:Nat) (b:TX P w0 S0 m n fr is H ops fuel L Q i) (c:TX P w0 S0 m n fr is H ops fuel L Q j) (d:TX P w0 S0 m n fr is H ops fuel L Q k) (e:TX P w0 S0 m n fr is H ops fuel L Q l) (a:Region.ready .any ops (bm ops.size L)= [i,j,k,l]:=by kernel_rfl):TA P w0 S0 m n fr is H ops (fuel+1) L Q:=
 TA.all [i,j,k,l] a (by simp) λq f=>by grind
end
section
def Rz:RV P fr is [] []:=trivial
def Rf {val:R->X->Va} {e:Exit} (x:X) (h:J5) (a:RV P fr is fn.results.toList vs) (b:backE e=true:=by exact r) (c:retV vs=val q x:=by exact r) (hi:pulls h is=some (post q x):=by exact r):
    TE w0 S1 (some q) n fr is e (λq=>bodyPost P fn (λe w'=>∃x,e= .returned (val q x)/\St w0 S1 (post q x) w')):=
 TE.leaf λ_ _ d hs=>zxb (by cases e<;>first | exact .inl rfl | exact .inr rfl | cases b) (Ye).symm a d hs ⟨x,by rw[c],hs.pulls h hi⟩
end
inductive Tb where
 | e
 | n (k v:Nat) (l r:Tb)
def Tb.get:Tb->Nat->Option Nat
 | .e,_=>none
 | .n k v l r,q=>match Xl q k with
   | true=>some v
   | false=>match Xk q k with
     | true=>l.get q
     | false=>r.get q
def Tb.all (p:Nat->Nat->Bool):Tb->Bool
 | .e=>true
 | .n k v l r=>p k v&&(l.all p&&r.all p)
def Tb.sound {p:Nat->Nat->Bool} : ∀{t:Tb},t.all p=true->∀{q v:Nat},t.get q=some v->p q v=true
 | .e,_,_,_,h=>by cases h
 | .n k v l r,h,q,u,a=>by
   unfold Tb.all at h;simp only[Xj]at h;unfold Tb.get at a;split at a
   ·simp_all
   ·split at a
    ·exact Tb.sound h.2.1 a
    ·exact Tb.sound h.2.2 a
def fldB (P:Pm) (q v:Nat):Bool:=match fieldB P (q / 64) (q % 64) with | some o=>Xl o v | none=>false
def kndB (P:Pm) (q v:Nat):Bool:=match kindB P q with | some (ag,sz)=>(ag == Xl (v % 2) 1)&&Xl sz (v / 2) | none=>false
def eltB (P:Pm) (q v:Nat):Bool:=match elemB P q with | some (_,sz,_)=>Xl sz v | none=>false
class Tab (P:Pm) where
 f:Tb
 k:Tb
 e:Tb
 hf:f.all (fldB P)=true
 hk:k.all (kndB P)=true
 he:e.all (eltB P)=true
def Tab.field [T:Tab P] {i:Nat} (hi:Xk i 64=true) (h:T.f.get (s*64+i)=some o):fieldB P s i=some o:=by
 have:=Tb.sound T.hf h;have a:=zmj.1 hi;unfold fldB at this;rw[show (s*64+i) / 64=s by omega,show (s*64+i) % 64=i by omega]at this;split at this
 ·simp_all
 ·trivial
def Tab.kind [T:Tab P] {c:Nat} (h:T.k.get t=some c):kindB P t=some (Xl (c % 2) 1,c / 2):=by
 have:=Tb.sound T.hk h;unfold kndB at this;split at this
 ·simp_all
 ·trivial
def Tab.elem [T:Tab P] {c:Nat} (h:T.e.get t=some c): ∃e by_,elemB P t=some (e,c,by_):=by
 have:=Tb.sound T.he h;unfold eltB at this;split at this
 ·simp_all
 ·trivial
structure IxF where
 α:Type
 enc:Enc α
 l:List α
 i:Int
 z:α
def IxF.ok (x:IxF):Prop:=idx x.l x.i=some x.z
def IxsOk:List IxF->Prop
 | []=>True
 | x::s=>x.ok/\IxsOk s
def Xz:IxsOk []:=trivial
def Xc [e:Enc α] {s:List IxF} (h:idx l i=some z) (hs:IxsOk s):IxsOk (⟨α,e,l,i,z⟩::s):=⟨h,hs⟩
def IxsOk.get: ∀{s:List IxF} {k:Nat} {x:IxF},IxsOk s->s[k]? =some x->x.ok
 | y::s,0,x,h,a=>by cases a;exact h.1
 | y::s,k+1,x,h,a=>IxsOk.get (s:=s) (k:=k) h.2 (by simpa using a)
def BsOk:List (Bool × Bool)->Prop
 | []=>True
 | (b,c)::s=>b=c/\BsOk s
def BsOk.get: ∀{s:List (Bool × Bool)} {k:Nat} {b c:Bool},BsOk s->s[k]? =some (b,c)->b=c
 | (_,_)::s,0,b,c,h,a=>by cases a;exact h.1
 | (_,_)::s,k+1,b,c,h,a=>BsOk.get (s:=s) (k:=k) h.2 (by simpa using a)
structure Ctx where
 rds:List (Va × C)
 ixs:List IxF
 gs:List (Bool × Bool)
structure Ctx.ok (w0:Wo) (S0:J5) (K:Ctx):Prop where
 rds:BaseR w0 S0 K.rds
 ixs:IxsOk K.ixs
 gs:BsOk K.gs
def Gz:BsOk []:=trivial
def Gc {c:Bool} {s:List (Bool × Bool)} (h:b=c) (hs:BsOk s):BsOk ((b,c)::s):=⟨h,hs⟩
def Bq {w:Wo} {c:C} {rds:List (Va × C)} (h:Base w S v c) (hs:BaseR w S rds):BaseR w S ((v,c)::rds):=⟨h,hs⟩
def Kk {w:Wo} {rds:List (Va × C)} {xs:List IxF} {gs:List (Bool × Bool)} (a:BaseR w S rds) (b:IxsOk xs) (c:BsOk gs):Ctx.ok w S ⟨rds,xs,gs⟩:=⟨a,b,c⟩
def Kx {w:Wo} {rds:List (Va × C)} {xs:List IxF} (a:BaseR w S rds) (b:IxsOk xs):Ctx.ok w S ⟨rds,xs,[]⟩:=⟨a,b,Gz⟩
def Kg {w:Wo} {rds:List (Va × C)} {gs:List (Bool × Bool)} (a:BaseR w S rds) (b:BsOk gs):Ctx.ok w S ⟨rds,[],gs⟩:=⟨a,Xz,b⟩
def BaseR.get {w:Wo} {S:J5} : ∀{rds:List (Va × C)} {k:Nat} {v:Va} {c:C},BaseR w S rds->rds[k]? =some (v,c)->Base w S v c
 | (_,_)::s,0,_,_,h,a=>by cases a;exact h.1
 | (_,_)::s,k+1,_,_,h,a=>BaseR.get (rds:=s) (k:=k) h.2 (by simpa using a)
def dat (rds:List (Va × C)) (is:J6) (h:Nat):Option (Va × C):=match Xk h 100 with
 | true=>match is[h]? with
   | some (.own v c)=>some (v,c)
   | _=>none
 | false=>rds[Nat.sub h 100]?
def zi1 {rds:List (Va × C)} {h:Nat} {c:C} (b:BaseR w0 S0 rds) (a:dat rds is h=some (v,c)):Can w0 S0 is v c:=by
 unfold dat at a;split at a
 ·split at a
  ·rename_i A c' hi;cases a;exact Oc h hi
  ·trivial
 ·exact (BaseR.get b a).can
def opV (T:Tab P) (K:Ctx) (fr:Fr) (is:J6) (hs:J5) (aq bs:J6):Op->Option (J5 × Va × J6 × J6)
 | .fieldAddr s x f=>match hs with
   | 0::hs=>match ev fr x,Xk f 64,T.f.get (s*64+f) with
     | some (.pointer (some ⟨b,off,none⟩)),true,some o=>some (hs,.pointer (some ⟨b,Yj off o,none⟩),aq,bs)
     | _,_,_=>none
   | (h+1)::j::c::hs=>match dat K.rds is h,K.ixs[j]?,ev fr x,Xk f 64,T.f.get (s*64+f) with
     | some (v,.sl _ m _),some ⟨_,e,l,i,_⟩,some u,true,some o=>some (hs,elP v (i.toNat*e.sz+Yj c o),.own u (.int .i64 m)::aq,.own (elP v (i.toNat*e.sz+c)) (.int .i64 l.length)::bs)
     | _,_,_,_,_=>none
   | _=>none
 | .load t x=>match hs with
   | h::hs=>match Xk h 200,T.k.get t,ev fr x with
     | true,some c,some (.pointer (some ⟨b,off,none⟩))=>match is[h]? with
       | some (.box b' _ vs)=>match partO off (c / 2) (Xl (c % 2) 1) vs with
         | some v=>some (hs,v,.own (pt b) .any::aq,.own (pt b') .any::bs)
         | none=>none
       | _=>none
     | false,some c,some u=>match hs with
       | j::q::hs=>match dat K.rds is (Nat.sub h 200),K.ixs[j]? with
         | some (v,d),some ⟨_,e,l,i,z⟩=>match lelO q (c / 2) (Xl (c % 2) 1) (e.enc z) with
           | some r=>some (hs,r,.own u d::aq,.own (elP v (i.toNat*e.sz+q)) (lc l)::bs)
           | none=>none
         | _,_=>none
       | _=>none
     | _,_,_=>none
   | []=>none
 | .indexAddr t x y=>match hs with
   | h::j::hs=>match dat K.rds is h,K.ixs[j]?,T.e.get t,ev fr x,ev fr y with
     | some (v,.sl _ m _),some ⟨_,_,l,i,_⟩,some sz,some u,some (.int k i')=>some (hs,elP v (i.toNat*sz+0),.own u (.int .i64 m):: .own (.int k i') .any::aq,.own v (.int .i64 l.length):: .own (.int k i) .any::bs)
     | _,_,_,_,_=>none
   | _=>none
 | .call ⟨.builtin .len,⟨[x]⟩,⟨[t]⟩⟩=>match hs with
   | h::hs=>match dat K.rds is h,T.e.get t,ev fr x with
     | some (v,.sl _ m _),some _,some u=>some (hs,.int .i64 (m:Int),.own u .any::aq,.own v .any::bs)
     | _,_,_=>none
   | []=>none
 | .pick c x y=>match hs with
   | g::hs=>match K.gs[g]?,ev fr c with
     | some (b,w),some (.bool b')=>match ev fr (bif w then x else y) with
       | some v=>some (hs,v,.own (.bool b') .any::aq,.own (.bool b) .any::bs)
       | none=>none
     | _,_=>none
   | []=>none
 | o=>match sval fr o with
   | some v=>some (hs,v,aq,bs)
   | none=>none
section
variable {K:Ctx}
def zrp [T:Tab P] (G:K.ok w0 S0) {o:Op} (h:opV T K fr is hs aq bs o=some (hs',v,aq',bs')) (e:aq'=bs'):
    aq=bs/\∀dst ty pos aft gd,Y P w0 S0 n fr is ⟨dst,o,ty,pos,aft,gd⟩ v:=by
 unfold opV at h;split at h
 ·split at h
  ·split at h
   ·rename_i b off O a p q;cases h;exact ⟨e,λdst ty pos aft gd=>Fb (Tab.field p q) a⟩
   ·cases h
  ·split at h
   ·rename_i v sz' I cs' _ e' l i z u O f j a p q;cases h;simp only[Xm,Item.own.injEq,C.int.injEq,true_and,Yu]at e;obtain ⟨⟨rfl,rfl⟩,e⟩:=e;exact ⟨e,λdst ty pos aft gd=>Fe (Tab.field p q) (zi1 G.rds f) (G.ixs.get j) a⟩
   ·cases h
  ·cases h
 ·split at h
  ·split at h
   ·rename_i c b off _ g a;split at h
    ·rename_i M bt vs hi;split at h
     ·rename_i u m;cases h;simp only[Xm,Item.own.injEq,Value.pointer.injEq,Xn,Addr.mk.injEq,and_true]at e;obtain ⟨rfl,e⟩:=e;exact ⟨e,λdst ty pos aft gd=>Y.load_box _ (Tab.kind g) hi a (zqt m)⟩
     ·cases h
    ·cases h
   ·rename_i c u _ g a;split at h
    ·split at h
     ·rename_i J d _ e' l i z f j;split at h
      ·rename_i V y;cases h;simp only[Xm,Item.own.injEq]at e;obtain ⟨⟨rfl,rfl⟩,e⟩:=e;exact ⟨e,λdst ty pos aft gd=>Le (Tab.kind g) (zi1 G.rds f) (G.ixs.get j) (by rw[a,y]) rfl⟩
      ·cases h
     ·cases h
    ·cases h
   ·cases h
  ·cases h
 ·split at h
  ·split at h
   ·rename_i J sz' I cs' _ e' l i z sz u k U f j hs a A;cases h;simp only[Xm,Item.own.injEq,Value.int.injEq,C.int.injEq,true_and,and_true,Yu]at e;obtain ⟨⟨rfl,rfl⟩,⟨-,rfl⟩,e⟩:=e;obtain ⟨el,by_,s⟩:=Tab.elem hs;exact ⟨e,λdst ty pos aft gd=>Ix s (zi1 G.rds f) (G.ixs.get j) (by rw[a,A])⟩
   ·cases h
  ·cases h
 ·split at h
  ·split at h
   ·rename_i J sz' I cs' F u f hs a;cases h;simp only[Xm,Item.own.injEq,and_true]at e;obtain ⟨rfl,e⟩:=e;obtain ⟨el,by_,s⟩:=Tab.elem hs;have B:(Xi I ()).length=I:=Yd;refine ⟨e,λdst ty pos aft gd=>?_⟩;have:=Ln (n:=n) (l:=Xi I ()) (dst:=dst) (ty':=ty) (pos:=pos) (aft:=aft) (gd:=gd) (t:=_) s (by rw[B];exact zi1 G.rds f) a;simp_all
   ·cases h
  ·cases h
 ·split at h
  ·split at h
   ·rename_i b w M D g;split at h
    ·rename_i u m;cases h;simp only[Xm,Item.own.injEq,Value.bool.injEq,and_true]at e;obtain ⟨rfl,e⟩:=e;have x:=G.gs.get D;refine ⟨e,λdst ty pos aft gd=>?_⟩;cases w with
     | true=>exact Y.pick_t x g m
     | false=>exact Y.pick_f x g m
    ·cases h
   ·cases h
  ·cases h
 ·split at h
  ·rename_i J E;cases h;exact ⟨e,λ_ _ _ _ _=>Y.sval E⟩
  ·cases h
end
inductive Md where
 | w (c:Code)
 | o (ops:Array Oper) (l:List Oper)
abbrev Ys:=List (Code ⊕ Nat)
variable {ys':Ys}
def yq (P:Pm) {R:Type} :Ys->(R->Exit->Act->Wo->Prop)->R->Exit->Act->Wo->Prop
 | [],Q=>Q
 | .inl y::ys,Q=>λr=>Exit.then (y.wp P (yq P ys Q r)) (yq P ys Q r)
 | .inr id::ys,Q=>λr=>Exit.inBlock id (yq P ys Q r)
def Gl (P:Pm) (w0:Wo) (S0:J5) (m:Option R) (n:Nat) (fr:Fr) (is:J6) (h:Md) (ys:Ys) (Q:R->Exit->Act->Wo->Prop):Prop:=match h with
 | .w c=>TW P w0 S0 m n fr is c (yq P ys Q)
 | .o ops l=>TO P w0 S0 m n fr is ops l (yq P ys Q)
def grd (K:Ctx) (ops:Array Oper) (fr:Fr) (hs:J5) (j:Nat) (want:Bool):Option (J5 × Bool × J6 × J6):=match (ops[j]?).bind (·.dst) with
 | some d=>match lk d fr with
   | some (.bool b)=>match hs with
     | g::hs=>match K.gs[g]? with
       | some (b',w)=>some (hs,w == want,[.own (.bool b) .any],[.own (.bool b') .any])
       | none=>none
     | []=>none
   | _=>none
 | none=>none
def nxt:Ys->Option (Code × Ys)
 | []=>none
 | .inl y::ys=>some (y,ys)
 | .inr _::ys=>nxt ys
def mixK (rds:List (Va × C)) (is:J6):J4->J5->J6->J6->Option (J5 × J6 × J6)
 | [],hs,aq,bs=>some (hs,aq,bs)
 | v::vs,0::hs,aq,bs=>match v.oneCell' with
   | true=>mixK rds is vs hs aq bs
   | false=>none
 | v::vs,(k+1)::hs,aq,bs=>match dat rds is k with
   | some (u,_)=>mixK rds is vs hs (.own v .any::aq) (.own u .any::bs)
   | none=>none
 | _::_,[],_,_=>none
def celK (rds:List (Va × C)) (is:J6) (v:Va) (hs:J5) (aq bs:J6):Nat->Option (J4 × J5 × J6 × J6)
 | 0=>match v.cells.toList.all (·.oneCell') with
   | true=>some (v.cells.toList,hs,aq,bs)
   | false=>none
 | q+1=>match Xl q 998 with
   | false=>match dat rds is q with
     | some (u,_)=>some ([v],hs,.own v .any::aq,.own u .any::bs)
     | none=>none
   | true=>match v with
     | .agg ⟨l⟩=>match mixK rds is l hs aq bs with
       | some (hs,aq,bs)=>some (l,hs,aq,bs)
       | none=>none
     | _=>none
def stoK (T:Tab P) (rds:List (Va × C)) (fr:Fr) (is aq bs:J6) (t:Ti) (x y:Od):J5->Option (J5 × J6 × J6 × J6)
 | h::q::hs=>match is[h]?,T.k.get t,ev fr x,ev fr y with
   | some (.box b bt vs),some c,some (.pointer (some ⟨b',off,none⟩)),some v=>match celK rds is v hs aq bs q with
     | some (us,hs,aq,bs)=>match Xl us.length (c / 2),splK off vs us (λA=>setK h is (.box b bt A) some) with
       | true,some is'=>some (hs,is',.own (pt b') .any::aq,.own (pt b) .any::bs)
       | _,_=>none
     | none=>none
   | _,_,_,_=>none
 | _=>none
section
variable {rds:List (Va × C)}
def zsA (c:BaseR w0 S0 rds): ∀{vs:J4} {hs hs':J5} {aq bs aq' bs':J6},mixK rds is vs hs aq bs=some (hs',aq',bs')->aq'=bs'->aq=bs/\Ones w0 S0 is vs
 | [],_,_,_,_,_,_,h,e=>by cases h;exact ⟨e,trivial⟩
 | v::vs,0::hs,_,_,_,_,_,h,e=>by
   unfold mixK at h;split at h
   ·rename_i d;obtain ⟨a,b⟩:=zsA c h e;exact ⟨a,.plain d,b⟩
   ·cases h
 | v::vs,(k+1)::hs,_,_,_,_,_,h,e=>by
   unfold mixK at h;split at h
   ·rename_i d;obtain ⟨a,b⟩:=zsA c h e;simp only[Xm,Item.own.injEq,and_true]at a;obtain ⟨rfl,a⟩:=a;exact ⟨a,.can (zi1 c d),b⟩
   ·cases h
 | _::_,[],_,_,_,_,_,h,_=>by cases h
def zAO (d:BaseR w0 S0 rds) {q:Nat} (h:celK rds is v hs aq bs q=some (us,hs',aq',bs')) (e:aq'=bs'):aq=bs/\Cel w0 S0 is v us:=by
 unfold celK at h;split at h
 ·split at h
  ·rename_i c;cases h;exact ⟨e,Cp (by simp) c⟩
  ·cases h
 ·split at h
  ·split at h
   ·rename_i c;cases h;simp only[Xm,Item.own.injEq,and_true]at e;obtain ⟨rfl,e⟩:=e;exact ⟨e,Cel.one (One.can (zi1 d c))⟩
   ·cases h
  ·split at h
   ·split at h
    ·rename_i c;cases h;obtain ⟨a,b⟩:=zsA d c e;exact ⟨a,Ca b⟩
    ·cases h
   ·cases h
def zxg [T:Tab P] (c:BaseR w0 S0 rds) {t:Ti} {y:Od} (h:stoK T rds fr is aq bs t x y hs=some (hs',is',aq',bs')) (e:aq'=bs'):
    aq=bs/\∀ty pos aft gd,Ef P w0 S0 n fr is ⟨none,.store t x y,ty,pos,aft,gd⟩ (λ_:Unit=>undef) (λ_=>is'):=by
 unfold stoK at h;split at h
 ·split at h
  ·rename_i hi d f g;split at h
   ·rename_i i;split at h
    ·rename_i hl hs';cases h;simp only[Xm,Item.own.injEq,Value.pointer.injEq,Xn,Addr.mk.injEq,and_true]at e;obtain ⟨rfl,e⟩:=e;obtain ⟨a,b⟩:=zAO c i e;exact ⟨a,λ_ _ _ _=>Sb _ (Tab.kind d) (by rw[hi,f,g]) b hs' hl⟩
    ·cases h
   ·cases h
  ·cases h
 ·cases h
end
def zs40:J5:=Xi 40 0
def drv {P:Pm} (T:Tab P) (K:Ctx) (n:Nat):Nat->J5->Md->Ys->Fr->J6->J6->J6->Option (Md × Ys × Fr × J6 × J6 × J6)
 | 0,_,md,ys,fr,is,aq,bs=>some (md,ys,fr,is,aq,bs)
 | m+1,hs,.w c,ys,fr,is,aq,bs=>match c with
   | .seq x y=>drv T K n m hs (.w x) (.inl y::ys) fr is aq bs
   | .region _ ⟨l⟩ false=>drv T K n m hs (.o ⟨l⟩ l) ys fr is aq bs
   | .block id c=>drv T K n m hs (.w c) (.inr id::ys) fr is aq bs
   | .skip=>match nxt ys with
     | some (y,ys)=>drv T K n m hs (.w y) ys fr is aq bs
     | none=>none
   | _=>none
 | m+1,hs,.o ops l,ys,fr,is,aq,bs=>match l with
   | []=>match nxt ys with
     | some (y,ys)=>drv T K n m hs (.w y) ys fr is aq bs
     | none=>none
   | ⟨some d,o,_,_,_,none⟩::l=>match Xk d n with
     | true=>match opV T K fr is hs aq bs o with
       | some (hs,v,aq,bs)=>drv T K n m hs (.o ops l) ys ((d,v)::fr) is aq bs
       | none=>none
     | false=>none
   | ⟨some d,o,_,_,_,some (j,want)⟩::l=>match Xk d n,grd K ops fr hs j want with
     | true,some (hs,true,a,b)=>match opV T K fr is hs (a++aq) (b++bs) o with
       | some (hs,v,aq,bs)=>drv T K n m hs (.o ops l) ys ((d,v)::fr) is aq bs
       | none=>none
     | true,some (hs,false,a,b)=>drv T K n m hs (.o ops l) ys ((d,undef)::fr) is (a++aq) (b++bs)
     | _,_=>none
   | ⟨none,.store t x y,_,_,_,none⟩::l=>match stoK T K.rds fr is aq bs t x y hs with
     | some (hs,is',aq,bs)=>drv T K n m hs (.o ops l) ys fr is' aq bs
     | none=>none
   | _=>none
section
variable {K:Ctx} {mm:Option R}
def zBv {q:Bool} {a b:J6} (c:BsOk K.gs) (h:grd K ops fr hs j want=some (hs',q,a,b)):a=b->∀o:Oper,o.guard=some (j,want)->Gd ops fr o q:=by
 unfold grd at h;split at h
 ·rename_i d f;split at h
  ·rename_i g i;split at h
   ·split at h
    ·rename_i A w k;cases h;intro e o l;simp only[Xm,Item.own.injEq,Value.bool.injEq,and_true]at e;subst e;have:=c.get k;subst this;exact Gd.at j want d g l f i rfl
    ·cases h
   ·cases h
  ·cases h
 ·cases h
theorem zpl {q:Bool} {a b:J6} (c:BsOk K.gs) (h:grd K ops fr hs j want=some (hs',q,a,b)) (e:a++aq=b++bs):aq=bs/\∀o:Oper,o.guard=some (j,want)->Gd ops fr o q:=by
 have hl:a.length=b.length:=by
  unfold grd at h;repeat' split at h
  all_goals grind
 obtain ⟨d,f⟩:=List.append_inj e hl;exact ⟨f,zBv c h d⟩
def zvq {fr:Fr} {is:J6} {y:Code} : ∀{ys ys':Ys},nxt ys=some (y,ys')->TW P w0 S0 mm n fr is y (yq P ys' Q)->TE w0 S0 mm n fr is .normal (yq P ys Q)
 | [],_,h,_=>by cases h
 | .inl _::_,_,h,g=>by cases h;exact TE.next g
 | .inr _::ys,_,h,g=>TE.block_normal (zvq (ys:=ys) h g)
def zuW [T:Tab P] (B:K.ok w0 S0): ∀(m:Nat) (hs:J5) (D:Md) (ys:Ys) (fr:Fr) (is aq bs:J6) {A:Md} {ys':Ys} {fr':Fr} {is' aq' bs':J6},drv T K n m hs D ys fr is aq bs=some (A,ys',fr',is',aq',bs')->
    aq'=bs'->aq=bs/\(Gl P w0 S0 mm n fr' is' A ys' Q->Gl P w0 S0 mm n fr is D ys Q):=by
 intro m;induction m with
 | zero=>intro hs D ys fr is aq bs A ys' fr' is' aq' bs' h e;cases h;exact ⟨e,id⟩
 | succ m ih=>
   intro hs D ys fr is aq bs A ys' fr' is' aq' bs' h e;cases D with
   | w c=>
     unfold drv at h;split at h
     ·obtain ⟨a,b⟩:=ih _ _ _ _ _ _ _ h e;exact ⟨a,λg=>Sq (b g)⟩
     ·obtain ⟨a,b⟩:=ih _ _ _ _ _ _ _ h e;exact ⟨a,λg=>Rg (b g)⟩
     ·obtain ⟨a,b⟩:=ih _ _ _ _ _ _ _ h e;exact ⟨a,λg=>Wb (b g)⟩
     ·split at h
      ·rename_i k;obtain ⟨a,b⟩:=ih _ _ _ _ _ _ _ h e;exact ⟨a,λg=>Sk (zvq k (b g))⟩
      ·cases h
     ·cases h
   | o ops l=>
     unfold drv at h;split at h
     ·split at h
      ·rename_i k;obtain ⟨a,b⟩:=ih _ _ _ _ _ _ _ h e;exact ⟨a,λg=>TO.nil (zvq k (b g))⟩
      ·cases h
     ·split at h
      ·rename_i d;split at h
       ·rename_i p;obtain ⟨a,b⟩:=ih _ _ _ _ _ _ _ h e;obtain ⟨f,i⟩:=zrp (n:=n) B p a;exact ⟨f,λg=>TO.y (i _ _ _ _ _) rfl rfl d (b g)⟩
       ·cases h
      ·cases h
     ·split at h
      ·rename_i d q;split at h
       ·rename_i p;obtain ⟨a,b⟩:=ih _ _ _ _ _ _ _ h e;obtain ⟨f,i⟩:=zrp (n:=n) B p a;obtain ⟨j,s⟩:=zpl B.gs q f;exact ⟨j,λg=>TO.y (i _ _ _ _ _) (s _ rfl) rfl d (b g)⟩
       ·cases h
      ·rename_i d q;obtain ⟨a,b⟩:=ih _ _ _ _ _ _ _ h e;obtain ⟨j,s⟩:=zpl B.gs q a;exact ⟨j,λg=>TO.off (s _ rfl) rfl d (b g)⟩
      ·cases h
     ·split at h
      ·rename_i f;obtain ⟨a,b⟩:=ih _ _ _ _ _ _ _ h e;obtain ⟨i,j⟩:=zxg (n:=n) B.rds f a;exact ⟨i,λg=>TO.ef0 (j _ _ _ _) rfl rfl λ_=>b g⟩
      ·cases h
     ·cases h
def Vw [T:Tab P] (A:K.ok w0 S0) (k:Nat) (hs:J5) (a:drv T K n k (hs++zs40) (.w c) [] fr is [] []=some (.w c',ys',fr',is',aq,aq)) (h:TW P w0 S0 mm n fr' is' c' (yq P ys' Q)):TW P w0 S0 mm n fr is c Q:=
 (zuW A k (hs++zs40) _ _ _ _ _ _ a rfl).2 h
def Vt [T:Tab P] (A:K.ok w0 S0) (k:Nat) (hs:J5) (a:drv T K n k (hs++zs40) (.w c) [] fr is [] []=some (.o ops' l',ys',fr',is',aq,aq)) (h:TO P w0 S0 mm n fr' is' ops' l' (yq P ys' Q)):TW P w0 S0 mm n fr is c Q:=
 (zuW A k (hs++zs40) _ _ _ _ _ _ a rfl).2 h
def Vv [T:Tab P] (A:K.ok w0 S0) (k:Nat) (hs:J5) {l:List Oper} (a:drv T K n k (hs++zs40) (.o ops l) [] fr is [] []=some (.o ops' l',ys',fr',is',aq,aq)) (h:TO P w0 S0 mm n fr' is' ops' l' (yq P ys' Q)):TO P w0 S0 mm n fr is ops l Q:=
 (zuW A k (hs++zs40) _ _ _ _ _ _ a rfl).2 h
variable {rds:List (Va × C)}
def Dw [T:Tab P] (Z:BaseR w0 S0 rds) (k:Nat) (hs:J5) (a:drv T ⟨rds,[],[]⟩ n k (hs++zs40) (.w c) [] fr is [] []=some (.w c',ys',fr',is',aq,aq)) (h:TW P w0 S0 mm n fr' is' c' (yq P ys' Q)):TW P w0 S0 mm n fr is c Q:=Vw (Kx Z Xz) k hs a h
def Dt [T:Tab P] (Z:BaseR w0 S0 rds) (k:Nat) (hs:J5) (a:drv T ⟨rds,[],[]⟩ n k (hs++zs40) (.w c) [] fr is [] []=some (.o ops' l',ys',fr',is',aq,aq)) (h:TO P w0 S0 mm n fr' is' ops' l' (yq P ys' Q)):TW P w0 S0 mm n fr is c Q:=Vt (Kx Z Xz) k hs a h
def Dv [T:Tab P] (Z:BaseR w0 S0 rds) (k:Nat) (hs:J5) {l:List Oper} (a:drv T ⟨rds,[],[]⟩ n k (hs++zs40) (.o ops l) [] fr is [] []=some (.o ops' l',ys',fr',is',aq,aq)) (h:TO P w0 S0 mm n fr' is' ops' l' (yq P ys' Q)):TO P w0 S0 mm n fr is ops l Q:=Vv (Kx Z Xz) k hs a h
def Zw [T:Tab P] (Z:BaseR w0 S0 rds) (k:Nat) (a:drv T ⟨rds,[],[]⟩ n k zs40 (.w c) [] fr is [] []=some (.w c',ys',fr',is',aq,aq)) (h:TW P w0 S0 mm n fr' is' c' (yq P ys' Q)):TW P w0 S0 mm n fr is c Q:=Dw Z k [] a h
def Zt [T:Tab P] (Z:BaseR w0 S0 rds) (k:Nat) (a:drv T ⟨rds,[],[]⟩ n k zs40 (.w c) [] fr is [] []=some (.o ops' l',ys',fr',is',aq,aq)) (h:TO P w0 S0 mm n fr' is' ops' l' (yq P ys' Q)):TW P w0 S0 mm n fr is c Q:=Dt Z k [] a h
def Zv [T:Tab P] (Z:BaseR w0 S0 rds) (k:Nat) {l:List Oper} (a:drv T ⟨rds,[],[]⟩ n k zs40 (.o ops l) [] fr is [] []=some (.o ops' l',ys',fr',is',aq,aq)) (h:TO P w0 S0 mm n fr' is' ops' l' (yq P ys' Q)):TO P w0 S0 mm n fr is ops l Q:=Dv Z k [] a h
def Vg [T:Tab P] (Z:BaseR w0 S0 rds) {c:Bool} (a:b=c) (k:Nat) (hs:J5) {l:List Oper} (d:drv T ⟨rds,[],[(b,c)]⟩ n k (hs++zs40) (.o ops l) [] fr is [] []=some (.o ops' l',ys',fr',is',aq,aq)) (h:TO P w0 S0 mm n fr' is' ops' l' (yq P ys' Q)):TO P w0 S0 mm n fr is ops l Q:=Vv (Kg Z (Gc a Gz)) k hs d h
def Vx [T:Tab P] (Z:BaseR w0 S0 rds) [E:Enc α] {x:List α} (a:idx x i=some z) (k:Nat) (hs:J5) {l:List Oper} (b:drv T ⟨rds,[⟨α,E,x,i,z⟩],[]⟩ n k (hs++zs40) (.o ops l) [] fr is [] []=some (.o ops' l',ys',fr',is',aq,aq)) (h:TO P w0 S0 mm n fr' is' ops' l' (yq P ys' Q)):TO P w0 S0 mm n fr is ops l Q:=Vv (Kx Z (Xc a Xz)) k hs b h
def Vk [T:Tab P] (Z:BaseR w0 S0 rds) [E:Enc α] {x:List α} (a:idx x i=some z) {c:Bool} (e:b=c) (k:Nat) (hs:J5) {l:List Oper} (d:drv T ⟨rds,[⟨α,E,x,i,z⟩],[(b,c)]⟩ n k (hs++zs40) (.o ops l) [] fr is [] []=some (.o ops' l',ys',fr',is',aq,aq)) (h:TO P w0 S0 mm n fr' is' ops' l' (yq P ys' Q)):TO P w0 S0 mm n fr is ops l Q:=Vv (Kk Z (Xc a Xz) (Gc e Gz)) k hs d h
def Sj [T:Tab P] (Z:BaseR w0 S0 rds) (hs:J5) {t:Ti} {y:Od} {pos:String} (a:stoK T rds fr is [] [] t x y (hs++zs40)=some (hs',is',aq,aq)):Ef P w0 S0 n fr is ⟨none,.store t x y,ty,pos,aft,gd⟩ (λ_:Unit=>undef) (λ_=>is'):=(zxg Z a rfl).2 _ _ _ _
end
def drvA {P:Pm} (T:Tab P) (K:Ctx) (n:Nat) (ops:Array Oper) (H:Hd):J5->J5->J5->Fr->J6->J6->Option (Fr × J6 × J6)
 | [],_,_,fr,aq,bs=>some (fr,aq,bs)
 | i::js,Bs,hs,fr,aq,bs=>match ops[i]? with
   | some ⟨some d,o,_,_,_,none⟩=>match Xk d n,opV T K fr (hb' ops.size (Bs.headD 0) H) hs aq bs o with
     | true,some (hs,v,aq,bs)=>drvA T K n ops H js Bs.tail hs ((d,v)::fr) aq bs
     | _,_=>none
   | some ⟨some d,o,_,_,_,some (j,want)⟩=>match Xk d n,grd K ops fr hs j want with
     | true,some (hs,true,a,b)=>match opV T K fr (hb' ops.size (Bs.headD 0) H) hs (a++aq) (b++bs) o with
       | some (hs,v,aq,bs)=>drvA T K n ops H js Bs.tail hs ((d,v)::fr) aq bs
       | none=>none
     | true,some (hs,false,a,b)=>drvA T K n ops H js Bs.tail hs ((d,undef)::fr) (a++aq) (b++bs)
     | _,_=>none
   | _=>none
def bdry (ops:Array Oper):J5->J5->Nat->Bool
 | [],_,_=>true
 | i::s,Bs,L=>rdyB ops i L (Bs.headD 0)&&(rdyB ops i L 0&&bdry ops s Bs.tail (L ||| 2 ^ i))
section
variable {K:Ctx} {mm:Option R}
def zpj [T:Tab P] (B:K.ok w0 S0): ∀(js Bs hs:J5) (fr:Fr) (aq bs:J6) (fuel2 L:Nat) {fr':Fr} {aq' bs':J6},drvA T K n ops H js Bs hs fr aq bs=some (fr',aq',bs')->decF js fuel2=some fuel->bdry ops js Bs L=true->anob H js=true->
    sfx is (hl' ops.size L H)=hl' ops.size L H->aq'=bs'->aq=bs/\(TA P w0 S0 mm n fr' is H ops fuel (abits js L) Q->TA P w0 S0 mm n fr is H ops fuel2 L Q)
 | [],_,_,_,_,_,_,_,_,_,_,h,b,_,_,_,e=>by cases h;cases b;exact ⟨e,id⟩
 | i::js,Bs,hs,fr,aq,bs,fuel2,L,_,_,_,h,b,c,a,hH,e=>by
   unfold bdry at c
   unfold anob at a
   simp only[Xj]at c a
   obtain ⟨f,rfl,b⟩: ∃f,fuel2=f+1/\decF js f=some fuel:=by
    cases fuel2 with
    | zero=>cases b
    | succ f=>exact ⟨f,rfl,b⟩
   have A:sfx is (hl' ops.size (L ||| 2 ^ i) H)=hl' ops.size (L ||| 2 ^ i) H:=by rw[hl_or a.1];exact hH
   unfold drvA at h
   split at h
   ·rename_i hi
    split at h
    ·rename_i d l
     obtain ⟨j,k⟩:=zpj B js _ _ _ _ _ f _ h b c.2.2 a.2 A e
     obtain ⟨m,o⟩:=zrp (n:=n) B l j
     exact ⟨m,λg=>TA.y i _ hi (o _ _ _ _ _) rfl rfl d c.1 a.1 hH (k g)⟩
    ·cases h
   ·rename_i hi
    split at h
    ·rename_i d p
     split at h
     ·rename_i l
      obtain ⟨j,k⟩:=zpj B js _ _ _ _ _ f _ h b c.2.2 a.2 A e
      obtain ⟨m,o⟩:=zrp (n:=n) B l j
      obtain ⟨q,s⟩:=zpl B.gs p m
      exact ⟨q,λg=>TA.y i _ hi (o _ _ _ _ _) (s _ rfl) rfl d c.1 a.1 hH (k g)⟩
     ·cases h
    ·rename_i d p
     obtain ⟨j,k⟩:=zpj B js _ _ _ _ _ f _ h b c.2.2 a.2 A e
     obtain ⟨q,s⟩:=zpl B.gs p j
     exact ⟨q,λg=>TA.off i hi (s _ rfl) rfl d c.2.1 a.1 hH (k g)⟩
    ·cases h
   ·cases h
def Ak [T:Tab P] (B:K.ok w0 S0) (js Bs hs:J5) (a:(drvA T K n ops H js Bs (hs++zs40) fr [] [],decF js fuel2)=(some (fr',aq,aq),some fuel)) (h:TA P w0 S0 mm n fr' is H ops fuel (abits js L) Q) (A:sfx is (hl' ops.size L H)=hl' ops.size L H:=by exact r) (b:bdry ops js Bs L=true:=by kernel_rfl) (c:anob H js=true:=by exact r):TA P w0 S0 mm n fr is H ops fuel2 L Q:=by simp only[Xh]at a;exact (zpj B js Bs (hs++zs40) fr [] [] fuel2 L a.1 a.2 b c A rfl).2 h
def Aj [T:Tab P] {rds:List (Va × C)} (Z:BaseR w0 S0 rds) (js Bs hs:J5) (a:(drvA T ⟨rds,[],[]⟩ n ops H js Bs (hs++zs40) fr [] [],decF js fuel2)=(some (fr',aq,aq),some fuel)) (h:TA P w0 S0 mm n fr' is H ops fuel (abits js L) Q) (A:sfx is (hl' ops.size L H)=hl' ops.size L H:=by exact r) (b:bdry ops js Bs L=true:=by kernel_rfl) (c:anob H js=true:=by exact r):TA P w0 S0 mm n fr is H ops fuel2 L Q:=Ak (Kx Z Xz) js Bs hs a h A b c
variable {rds:List (Va × C)}
def Ah [T:Tab P] (Z:BaseR w0 S0 rds) {c:Bool} (a:b=c) (js Bs hs:J5) (d:(drvA T ⟨rds,[],[(b,c)]⟩ n ops H js Bs (hs++zs40) fr [] [],decF js fuel2)=(some (fr',aq,aq),some fuel)) (h:TA P w0 S0 mm n fr' is H ops fuel (abits js L) Q) (A:sfx is (hl' ops.size L H)=hl' ops.size L H:=by exact r) (e:bdry ops js Bs L=true:=by kernel_rfl) (f:anob H js=true:=by exact r):TA P w0 S0 mm n fr is H ops fuel2 L Q:=Ak (Kg Z (Gc a Gz)) js Bs hs d h A e f
def Ae [T:Tab P] (Z:BaseR w0 S0 rds) [E:Enc α] {x:List α} (a:idx x i=some z) (js Bs hs:J5) (b:(drvA T ⟨rds,[⟨α,E,x,i,z⟩],[]⟩ n ops H js Bs (hs++zs40) fr [] [],decF js fuel2)=(some (fr',aq,aq),some fuel)) (h:TA P w0 S0 mm n fr' is H ops fuel (abits js L) Q) (A:sfx is (hl' ops.size L H)=hl' ops.size L H:=by exact r) (c:bdry ops js Bs L=true:=by kernel_rfl) (d:anob H js=true:=by exact r):TA P w0 S0 mm n fr is H ops fuel2 L Q:=Ak (Kx Z (Xc a Xz)) js Bs hs b h A c d
def Ao [T:Tab P] (Z:BaseR w0 S0 rds) [E:Enc α] {x:List α} (a:idx x i=some z) {c:Bool} (e:b=c) (js Bs hs:J5) (d:(drvA T ⟨rds,[⟨α,E,x,i,z⟩],[(b,c)]⟩ n ops H js Bs (hs++zs40) fr [] [],decF js fuel2)=(some (fr',aq,aq),some fuel)) (h:TA P w0 S0 mm n fr' is H ops fuel (abits js L) Q) (A:sfx is (hl' ops.size L H)=hl' ops.size L H:=by exact r) (f:bdry ops js Bs L=true:=by kernel_rfl) (g:anob H js=true:=by exact r):TA P w0 S0 mm n fr is H ops fuel2 L Q:=Ak (Kk Z (Xc a Xz) (Gc e Gz)) js Bs hs d h A f g
end
def canK (rds:List (Va × C)) (is:J6):J5->Option (List (Va × C))
 | []=>some []
 | q::qs=>match dat rds is q,canK rds is qs with
   | some p,some ps=>some (p::ps)
   | _,_=>none
def zwD {w0:Wo} {S0:J5} {rds:List (Va × C)} {is:J6} (a:BaseR w0 S0 rds): ∀{qs:J5} {ps:List (Va × C)},canK rds is qs=some ps->Cans w0 S0 is ps
 | [],_,h=>by cases h;trivial
 | q::qs,_,h=>by
   unfold canK at h;split at h
   ·rename_i p ps b c;cases h;exact ⟨zi1 a b,zwD a c⟩
   ·cases h
section
def Cc {B:Type} {mm:Option B} {k:B->Option R} {val:B->X->Va} {post is':B->X->J6} {A rds:List (Va × C)} {pos:String} {l:List Oper} (Z:BaseR w0 S0 A) (D qs:J5) (b:Cn P f args pre rds mm val post) (c:(evs fr os,takeP D is)=(some args,some (pre,rest))) (e: ∀q x,appK (post q x) rest some=some (is' q x)) (h: ∀q,mm=some q->∀x,TO P w0 S0 (k q) n ((d,val q x)::fr) (is' q x) ops l Q) (g:canK A rest qs=some rds:=by exact r) (i:Xk d n=true:=by exact r):
    TO P w0 S0 (mm.bind k) n fr is ops (⟨some d,.call {callee:=.value (.func f),args:=os.toArray,argTypes:=ats},ty,pos,aft,none⟩::l) Q:=
 Bi λq a=>TO.ef (Cl D b a c (e q) (zwD Z g)) rfl rfl i (h q a)
def Ch0 {rds:List (Va × C)} {val:R->X->Va} (b:P.funcs[f]? =some fn) (a:(fn.body,fn.ntmps)=(some c,k)) (h: ∀w S,BaseR w S rds->TW P w S m k (argFr 0 args) pre c (λq=>bodyPost P fn (λe w'=>∃x,e= .returned (val q x)/\St w S (post q x) w'))) (hl:Xw args.length k=true:=by exact r) (hN:(fn.name != "runtime.NumGoroutine")=true:=by exact r):Cn P f args pre rds m val post:=by simp only[Xh]at a;exact Ci b a.1 a.2 h hl hN
def Ch {rds:List (Va × C)} {val:R->X->Va} (a:((P.funcs[f]?).map λq=>(q,q.body,q.ntmps))=some (fn,some c,k)) (h: ∀{w S},BaseR w S rds->TW P w S m k (argFr 0 args) pre c (λq=>bodyPost P fn (λe w'=>∃x,e= .returned (val q x)/\St w S (post q x) w'))) (hl:Xw args.length k=true:=by exact r) (hN:(fn.name != "runtime.NumGoroutine")=true:=by exact r):Cn P f args pre rds m val post:=by
 cases b:P.funcs[f]? with
 | none=>rw[b]at a;cases a
 | some q=>rw[b]at a;simp only[Ya,Xn,Xh]at a;obtain ⟨rfl,d,g⟩:=a;exact Ci b d g (λ_ _=>h) hl hN
end
def Bj [Enc α] {w:Wo} {x:α} {d:C} (c:Nat) (a:Base w S v (lc l)) (b:idx l i=some x) (e:(Enc.enc x)[c]? =some d):Base w S (elv w v (i.toNat*Enc.sz α+c)) d:=Base.el a (zbT b).2.2 rfl e
def rvK {P:Pm} (T:Tab P) (fr:Fr) (is:J6):List ResultVar->J5->Option (J4 × J6 × J6)
 | [],_=>some ([],[],[])
 | .tmp t::r,hs=>match lk t fr,rvK T fr is r hs with
   | some v,some (vs,aq,bs)=>some (v::vs,aq,bs)
   | _,_=>none
 | .cell p t::r,i::hs=>match is[i]?,lk p fr,T.k.get t,rvK T fr is r hs with
   | some (.box b _ us),some (.pointer (some ⟨b',off,none⟩)),some c,some (vs,aq,bs)=>match partO off (c / 2) (Xl (c % 2) 1) us with
     | some v=>some (v::vs,.own (pt b') .any::aq,.own (pt b) .any::bs)
     | none=>none
   | _,_,_,_=>none
 | .cell _ _::_,[]=>none
def zvB {P:Pm} {T:Tab P} {fr:Fr} {is:J6} : ∀{A:List ResultVar} {hs:J5} {vs:J4} {aq bs:J6},rvK T fr is A hs=some (vs,aq,bs)->aq=bs->RV P fr is A vs
 | [],_,_,_,_,h,_=>by cases h;trivial
 | .tmp t::r,hs,_,_,_,h,e=>by
   unfold rvK at h;split at h
   ·rename_i v vs aq bs a d;cases h;exact ⟨a,zvB d e⟩
   ·cases h
 | .cell p t::r,i::hs,_,_,_,h,e=>by
   unfold rvK at h;split at h
   ·rename_i b bt us B off c vs aq bs a d f g;split at h
    ·rename_i v j;cases h;simp only[Xm,Item.own.injEq,Value.pointer.injEq,Xn,Addr.mk.injEq,and_true]at e;obtain ⟨rfl,e⟩:=e;exact RV.cell i a d (Tab.kind f) (zqt j) (zvB g e)
    ·cases h
   ·cases h
 | .cell _ _::_,[],_,_,_,h,_=>by cases h
section
def Rj [T:Tab P] {val:R->X->Va} {e:Exit} (x:X) (h hs:J5) (a:rvK T fr is fn.results.toList hs=some (vs,aq,aq)) (b:backE e=true:=by exact r) (c:retV vs=val q x:=by exact r) (hi:pulls h is=some (post q x):=by exact r):
    TE w0 S1 (some q) n fr is e (λq=>bodyPost P fn (λe w'=>∃x,e= .returned (val q x)/\St w0 S1 (post q x) w')):=Rf x h (zvB a rfl) b c hi
end
section
def Fa {z:Va} {zs:J4} {pos:String} {l:List Oper} (a:zeroB P t=some z) (c:z.cells=zs.toArray) (h: ∀b:Nat,TO P w0 S0 m n ((d,.pointer (some ⟨b,0,none⟩))::fr) (.box b t zs::is) ops l Q) (e:Xk d n=true:=by exact r):TO P w0 S0 m n fr is ops (⟨some d,.alloc t,ty,pos,aft,none⟩::l) Q:=Fo (Al a c) h e
def Qo {l:List Oper} (a:qrun n 1 l fr=some (l',fr')) (h:TO P w0 S0 m n fr' is ops l' Q):TO P w0 S0 m n fr is ops l Q:=Qs 1 a h
def Qn {l:List Oper} {y:Code} (a:qrun n 1 l fr=some ([],fr')) (h:TW P w0 S0 m n fr' is y Q):TO P w0 S0 m n fr is ops l (λr=>Exit.then (y.wp P (Q r)) (Q' r)):=Qs 1 a (Nx h)
def Wv {Q':R->Act->Wo->Prop} (h:TE w0 S0 m n fr is .ret Q):TW P w0 S0 m n fr is .ret (λr=>Exit.then (Q' r) (Q r)):=Wr (Tr h)
def We {I:σ->Act->Wo->Prop} {id:Nat} {Q':Ctl σ R->Act->Wo->Prop} (h:TE w0 S0 (some q) n fr is .normal Q):
    TW P w0 S0 (some (Ctl.done q)) n fr is (.exit id) (λr=>Exit.then (Q' r) (lp I (λr=>Exit.inBlock id (Q r)) r)):=Wx (Tx (Ex (Be h)))
def Bu {I:σ->Act->Wo->Prop} {M:τ->Act->Wo->Prop} {id A:Nat} {B:Ctl σ (Ctl τ R)->Act->Wo->Prop} {D:R->Act->Wo->Prop} (h:TE w0 S0 (some q) n fr is .ret Q):
    TE w0 S0 (some (Ctl.done (Ctl.done q))) n fr is .ret (λr=>Exit.inBlock id (Exit.then (B r) (lp I (λr=>Exit.inBlock A (jn M (λr=>Exit.then (D r) (Q r)) r)) r))):=Br (Tr (Er (Br (Jd (Tr h)))))
def Rq {val:R->Unit->Va} {post:R->Unit->J6} {e:Exit} {ts:J5} (a:backE e=true:=by exact r) (b:resT fn.results.toList=some ts:=by exact r) (c:lks fr ts=some vs:=by exact r) (d:retV vs=val q ():=by exact r) (hi:some []=some (post q ()):=by exact r):
    TE w0 S1 (some q) n fr is e (λq=>bodyPost P fn (λe w'=>∃x,e= .returned (val q x)/\St w0 S1 (post q x) w')):=Re () [] a b c d hi
def Jq {frf:τ->Unit->Fr} {isf:τ->Unit->J6} {t:τ} (a:some []=some (isf t ()):=by exact r) (b:Sub (frf t ()) fr:=by repeat (first | refine ⟨r,?_⟩ | exact trivial)):
    TE w0 S0 (some (.go t)) n fr is .normal (jn (Mid w0 S0 n frf isf) Q):=Jg () [] a b
def Bv {frf:τ->Unit->Fr} {isf:τ->Unit->J6} {t:τ} (a:some []=some (isf t ()):=by exact r) (b:Sub (frf t ()) fr:=by repeat (first | refine ⟨r,?_⟩ | exact trivial)):
    TE w0 S0 (some t) n fr is .normal (jb (Mid w0 S0 n frf isf)):=Bg () [] a b
def Lq {Q:ρ->Exit->Act->Wo->Prop} {frf:σ->Unit->Fr} {isf:σ->Unit->J6} {t:σ} (a:some []=some (isf t ()):=by exact r) (b:Sub (frf t ()) fr:=by repeat (first | refine ⟨r,?_⟩ | exact trivial)):
    TE w0 S0 (some (.go t)) n fr is .normal (lp (Mid w0 S0 n frf isf) Q):=Lg () [] a b
def Dz {id:Nat} (k:Nat) (A bs:J5) (a:heldK (A++Xi (k - A.length) 0) (bs++Xi (k - bs.length) 999) is=some (is',H)) (b:P.follows .mixedOrders=true) (h:TA P w0 S0 m n fr is' H ops ops.size 0 Q):
    TW P w0 S0 m n fr is (.region id ops true) Q:=Dr _ _ a b h
end
end Go.Proofs.YtbpngbeifojdeaaGreat.Sl
end
section
open Option renaming bind->Bd0
open Decidable renaming decide->Dc
open Int renaming tmod->Ib,tdiv->Ic
noncomputable section
open Go.Proofs.Tryz renaming prog->Pg
open Go renaming Value->Va,FuncId->Wo
namespace Go.Proofs.YtbpngbeifojdeaaGreat
open Go Sl
variable {U0 U2:Va} {U1:Nat} {n most counter:Int} {code secret:J3}
abbrev Kb (f:Wo) (a:J4) (o:J6) (d:List (Va × Sl.C)) (x:Option Bool):=Cn Pg f a o d x (λr (_:Unit)=>.bool r) λ_ _=>[]
abbrev Ki (f:Wo) (a:J4) (o:J6) (d:List (Va × Sl.C)) (x:Option Int):=Cn Pg f a o d x (λr (_:Unit)=>iv r) λ_ _=>[]
abbrev Ks (f:Wo) (a:J4) (o:J6) (d:List (Va × Sl.C)) (x:Option J3):=Cn Pg f a o d x (λr (_:Unit)=>strV r) λ_ _=>[]
abbrev Kl {α:Type} [Enc α] (f:Wo) (a:J4) (o:J6) (d:List (Va × Sl.C)) (x:Option (List α)):=Cn Pg f a o d x (λ_ (X:Va)=>X) λr X=>[.own X (lc r)]
structure A8 where
 b:J3
 i:Int
 h:Int
 deriving DecidableEq
variable {c:A8}
instance:Enc A8:=⟨3,λx=>[lc x.b,.int .i64 x.i,.int .i64 x.h],λ_=>rfl,by decide⟩
structure Op where
 q:J3
 T:Bool
 Q:J3
 deriving DecidableEq
instance:Enc Op:=⟨3,λx=>[.str x.q,.bool x.T,.str x.Q],λ_=>rfl,by decide⟩
instance:Flat Op:={vals:=λx=>[strV x.q,.bool x.T,strV x.Q],flat:=λ_=>rfl}
structure At where
 B:Int
 U:J3
 r:Int
 N:Int
 q:J3
 Z:J3
 R:List Op
 deriving DecidableEq
instance:Enc At:=⟨7,λx=>[.int .i64 x.B,.str x.U,.int .i64 x.r,.int .i64 x.N,.str x.q,.str x.Z,lc x.R],λ_=>rfl,by decide⟩
structure Bb where
 r:Int
 q:J3
 deriving DecidableEq
instance:Enc Bb:=⟨2,λx=>[.int .i64 x.r,.str x.q],λ_=>rfl,by decide⟩
instance:Flat Bb:={vals:=λx=>[.int .i64 x.r,strV x.q],flat:=λ_=>rfl}
structure Ba where
 S:J3
 J:List Bb
 L:Int
 deriving DecidableEq
instance:Enc Ba:=⟨3,λx=>[.str x.S,lc x.J,.int .i64 x.L],λ_=>rfl,by decide⟩
structure A9 where
 r:Int
 Y:Int
 deriving DecidableEq
instance:Enc A9:=⟨2,λx=>[.int .i64 x.r,.int .i64 x.Y],λ_=>rfl,by decide⟩
instance:Flat A9:={vals:=λx=>[.int .i64 x.r,.int .i64 x.Y],flat:=λ_=>rfl}
structure Ad where
 K:Int
 t:_root_.List A9
 deriving DecidableEq
instance:Enc Ad:=⟨2,λx=>[.int .i64 x.K,lc x.t],λ_=>rfl,by decide⟩
structure Ac where
 q:J3
 c:Int
 T:Bool
 Q:J3
 deriving DecidableEq
instance:Enc Ac:=⟨4,λx=>[.str x.q,.int .i64 x.c,.bool x.T,.str x.Q],λ_=>rfl,by decide⟩
instance:Flat Ac:={vals:=λx=>[strV x.q,.int .i64 x.c,.bool x.T,strV x.Q],flat:=λ_=>rfl}
instance:Enc (List Ac):=⟨1,λl=>[lc l],λ_=>rfl,Nat.one_pos⟩
structure Aa where
 G:List Ac
 D:List (List Ac)
 c:Int
 u:List Int
 deriving DecidableEq
instance:Enc Aa:=⟨4,λx=>[lc x.G,lc x.D,.int .i64 x.c,lc x.u],λ_=>rfl,by decide⟩
structure Ar where
 j:Int
 I:Int
 F:Int
 m:Aa
 deriving DecidableEq
instance:Enc Ar:=⟨7,λx=>[.int .i64 x.j,.int .i64 x.I,.int .i64 x.F,lc x.m.G,lc x.m.D,.int .i64 x.m.c,lc x.m.u],λ_=>rfl,by decide⟩
structure A5 where
 r:Int
 H:Int
 c:Int
 O:J3
 W:Bool
 deriving DecidableEq
instance:Enc A5:=⟨5,λx=>[.int .i64 x.r,.int .i64 x.H,.int .i64 x.c,.str x.O,.bool x.W],λ_=>rfl,by decide⟩
instance:Flat A5:={vals:=λx=>[.int .i64 x.r,.int .i64 x.H,.int .i64 x.c,strV x.O,.bool x.W],flat:=λ_=>rfl}
structure Af where
 E:J3
 A:Ba
 s:Ad
 a:List Ar
 x:List A5
 P:List A5
 H:Int
 deriving DecidableEq
instance:Enc Af:=⟨10,λx=>[.str x.E,.str x.A.S,lc x.A.J,.int .i64 x.A.L,.int .i64 x.s.K,lc x.s.t,lc x.a,lc x.x,lc x.P,.int .i64 x.H],λ_=>rfl,by decide⟩
structure KV where
 q:J3
 Q:J3
 deriving DecidableEq
instance:Enc KV:=⟨2,λx=>[.str x.q,.str x.Q],λ_=>rfl,by decide⟩
instance:Flat KV:={vals:=λx=>[strV x.q,strV x.Q],flat:=λ_=>rfl}
structure A6 where
 V:Int
 N:Int
 O:_root_.List UInt8
 t:_root_.List KV
 deriving DecidableEq
instance:Enc A6:=⟨4,λx=>[.int .i64 x.V,.int .i64 x.N,.str x.O,lc x.t],λ_=>rfl,by decide⟩
structure Bh where
 text:J3
 at_:Int
 bad:Bool
 deriving DecidableEq
instance:Enc Bh:=⟨3,λx=>[.str x.text,.int .i64 x.at_,.bool x.bad],λ_=>rfl,by decide⟩
instance:Flat Bh:={vals:=λx=>[strV x.text,.int .i64 x.at_,.bool x.bad],flat:=λ_=>rfl}
structure Bf where
 c:Int
 M:List KV
 deriving DecidableEq
instance:Enc Bf:=⟨2,λx=>[.int .i64 x.c,lc x.M],λ_=>rfl,by decide⟩
structure Am where
 j:Int
 I:Int
 c:Int
 M:List KV
 u:List Bf
 deriving DecidableEq
instance:Enc Am:=⟨5,λx=>[.int .i64 x.j,.int .i64 x.I,.int .i64 x.c,lc x.M,lc x.u],λ_=>rfl,by decide⟩
structure A7 where
 r:Int
 R:List Op
 W:Bool
 deriving DecidableEq
instance:Enc A7:=⟨3,λx=>[.int .i64 x.r,lc x.R,.bool x.W],λ_=>rfl,by decide⟩
structure As where
 E:J3
 s:Ad
 a:List Am
 F:List Am
 x:List A7
 deriving DecidableEq
instance:Enc As:=⟨6,λx=>[.str x.E,.int .i64 x.s.K,lc x.s.t,lc x.a,lc x.F,lc x.x],λ_=>rfl,by decide⟩
def hMix:Pg.follows .mixedOrders=true:=by kernel_rfl
instance:Tab Pg:=⟨.n 5249 1 (.n 3590 6 (.n 2308 7 (.n 2049 1 (.n 1858 2 (.n 1857 1 (.n 1856 0 .e .e) .e) (.n 2048 0 .e .e)) (.n 2306 4 (.n 2305 1 (.n 2304 0 .e .e) .e) (.n 2307 6 .e .e))) (.n 3586 2 (.n 3584 0 (.n 2310 9 (.n 2309 8 .e .e) .e) (.n 3585 1 .e .e)) (.n 3588 4 (.n 3587 3 .e .e) (.n 3589 5 .e .e)))) (.n 4672 0 (.n 4544 0 (.n 3778 2 (.n 3777 1 (.n 3776 0 .e .e) .e) (.n 3779 3 .e .e)) (.n 4546 2 (.n 4545 1 .e .e) (.n 4547 3 .e .e))) (.n 4801 1 (.n 4675 3 (.n 4674 2 (.n 4673 1 .e .e) .e) (.n 4800 0 .e .e)) (.n 4929 1 (.n 4928 0 .e .e) (.n 5248 0 .e .e))))) (.n 7808 0 (.n 5888 0 (.n 5505 1 (.n 5252 4 (.n 5251 3 (.n 5250 2 .e .e) .e) (.n 5504 0 .e .e)) (.n 5507 4 (.n 5506 3 .e .e) (.n 5508 5 .e .e))) (.n 7488 0 (.n 6784 0 (.n 5890 2 (.n 5889 1 .e .e) .e) (.n 6785 1 .e .e)) (.n 7490 2 (.n 7489 1 .e .e) (.n 7491 3 .e .e)))) (.n 10945 1 (.n 10496 0 (.n 7811 3 (.n 7810 2 (.n 7809 1 .e .e) .e) (.n 7812 4 .e .e)) (.n 10498 2 (.n 10497 1 .e .e) (.n 10944 0 .e .e))) (.n 12801 1 (.n 11138 2 (.n 11137 1 (.n 11136 0 .e .e) .e) (.n 12800 0 .e .e)) (.n 19008 0 (.n 12802 2 .e .e) (.n 19009 1 .e .e))))),.n 71 9 (.n 33 2 (.n 22 2 (.n 5 2 (.n 4 2 (.n 3 2 .e .e) .e) (.n 9 2 .e .e)) (.n 30 2 (.n 29 7 (.n 27 2 .e .e) .e) (.n 32 5 .e .e))) (.n 56 15 (.n 49 2 (.n 36 21 (.n 34 2 .e .e) .e) (.n 54 2 .e .e)) (.n 68 2 (.n 59 9 (.n 57 2 .e .e) .e) (.n 69 2 .e .e)))) (.n 120 2 (.n 83 2 (.n 77 5 (.n 75 5 (.n 73 15 .e .e) .e) (.n 82 11 .e .e)) (.n 106 5 (.n 86 13 (.n 84 2 .e .e) .e) (.n 117 9 .e .e))) (.n 200 7 (.n 171 5 (.n 164 7 (.n 122 11 .e .e) .e) (.n 174 7 .e .e)) (.n 243 33 (.n 242 2 .e .e) (.n 295 2 .e .e)))),.n 54 3 (.n 33 7 (.n 27 2 (.n 24 7 (.n 22 1 .e .e) .e) (.n 30 2 .e .e)) (.n 37 4 (.n 34 5 .e .e) (.n 49 1 .e .e))) (.n 83 5 (.n 68 4 (.n 57 2 .e .e) (.n 69 1 .e .e)) (.n 120 2 (.n 84 3 .e .e) (.n 127 1 .e .e))),by kernel_rfl,by kernel_rfl,by kernel_rfl⟩
def ke22:elemB Pg 22=some (5,1,1):=by kernel_rfl
def kk5:kindB Pg 5=some (false,1):=by kernel_rfl
def ki5:intB Pg 5=some .u8:=by kernel_rfl
def ki3:intB Pg 3=some .i64:=by kernel_rfl
def kz92:zeroB Pg 92=some (.agg #[J7,.int .i64 (0:Int),.int .i64 (0:Int)]):=by kernel_rfl
def kp92:placesB Pg 92=some [(0,1),(1,1),(2,1)]:=by kernel_rfl
def kz5:zeroB Pg 5=some (.int .u8 (0:Int)):=by kernel_rfl
def ks9:isStrB Pg 9=true:=by kernel_rfl
def kk3:kindB Pg 3=some (false,1):=by kernel_rfl
def kk22:kindB Pg 22=some (false,1):=by kernel_rfl
def ke49:elemB Pg 49=some (3,1,8):=by kernel_rfl
def kz3:zeroB Pg 3=some (.int .i64 (0:Int)):=by kernel_rfl
def ke127:elemB Pg 127=some (9,1,16):=by kernel_rfl
def kk9:kindB Pg 9=some (false,1):=by kernel_rfl
def kz9:zeroB Pg 9=some (strV ([])):=by kernel_rfl
def kz164:zeroB Pg 164=some (.agg #[strV ([]),.bool false,strV ([])]):=by kernel_rfl
def ke54:elemB Pg 54=some (164,3,40):=by kernel_rfl
def kp164:placesB Pg 164=some [(0,1),(1,1),(2,1)]:=by kernel_rfl
def kk4:kindB Pg 4=some (false,1):=by kernel_rfl
def kz56:zeroB Pg 56=some (.agg #[.int .i64 (0:Int),strV ([]),.int .i64 (0:Int),.int .i64 (0:Int),strV ([]),strV ([]),J7]):=by kernel_rfl
def kp56:placesB Pg 56=some [(0,1),(1,1),(2,1),(3,1),(4,1),(5,1),(6,1)]:=by kernel_rfl
def kk56:kindB Pg 56=some (true,7):=by kernel_rfl
def kk54:kindB Pg 54=some (false,1):=by kernel_rfl
def ke24:elemB Pg 24=some (56,7,96):=by kernel_rfl
def kz36:zeroB Pg 36=some (.agg #[strV ([]),strV ([]),J7,.int .i64 (0:Int),.int .i64 (0:Int),J7,J7,J7,J7,.int .i64 (0:Int)]):=by kernel_rfl
def kp36:placesB Pg 36=some [(0,1),(1,3),(4,2),(6,1),(7,1),(8,1),(9,1)]:=by kernel_rfl
def kz29:zeroB Pg 29=some (.agg #[strV ([]),J7,.int .i64 (0:Int)]):=by kernel_rfl
def kp29:placesB Pg 29=some [(0,1),(1,1),(2,1)]:=by kernel_rfl
def kz32:zeroB Pg 32=some (.agg #[.int .i64 (0:Int),J7]):=by kernel_rfl
def kp32:placesB Pg 32=some [(0,1),(1,1)]:=by kernel_rfl
def ke33:elemB Pg 33=some (73,7,104):=by kernel_rfl
def kk73:kindB Pg 73=some (true,7):=by kernel_rfl
def ziw:fieldB Pg 73 0=some 0:=by kernel_rfl
def kz59:zeroB Pg 59=some (.agg #[.int .i64 (0:Int),.int .i64 (0:Int),strV ([]),J7]):=by kernel_rfl
def kp59:placesB Pg 59=some [(0,1),(1,1),(2,1),(3,1)]:=by kernel_rfl
def ke30:elemB Pg 30=some (77,2,16):=by kernel_rfl
def kk77:kindB Pg 77=some (true,2):=by kernel_rfl
def kz77:zeroB Pg 77=some (.agg #[.int .i64 (0:Int),.int .i64 (0:Int)]):=by kernel_rfl
def kp77:placesB Pg 77=some [(0,1),(1,1)]:=by kernel_rfl
def ke27:elemB Pg 27=some (75,2,24):=by kernel_rfl
def kz75:zeroB Pg 75=some (.agg #[.int .i64 (0:Int),strV ([])]):=by kernel_rfl
def kp75:placesB Pg 75=some [(0,1),(1,1)]:=by kernel_rfl
def kz73:zeroB Pg 73=some (.agg #[.int .i64 (0:Int),.int .i64 (0:Int),.int .i64 (0:Int),J7,J7,.int .i64 (0:Int),J7]):=by kernel_rfl
def ki124:intB Pg 124=some .u64:=by kernel_rfl
def ki242:intB Pg 242=some .u32:=by kernel_rfl
def kz243:zeroB Pg 243=some (arrV (List.replicate 16 (Wrd.mk 0))):=by kernel_rfl
def ka243:arrB Pg 243=some (16,242,1):=by kernel_rfl
def kk243:kindB Pg 243=some (true,16):=by kernel_rfl
def kk242:kindB Pg 242=some (false,1):=by kernel_rfl
def kp73:placesB Pg 73=some [(0,1),(1,1),(2,1),(3,4)]:=by kernel_rfl
def ke34:elemB Pg 34=some (82,5,48):=by kernel_rfl
def kk82:kindB Pg 82=some (true,5):=by kernel_rfl
def kz82:zeroB Pg 82=some (.agg #[.int .i64 (0:Int),.int .i64 (0:Int),.int .i64 (0:Int),strV ([]),.bool false]):=by kernel_rfl
def zmy:fieldB Pg 73 1=some 1:=by kernel_rfl
def ke69:elemB Pg 69=some (68,1,24):=by kernel_rfl
def kk68:kindB Pg 68=some (false,1):=by kernel_rfl
def kz68:zeroB Pg 68=some J7:=by kernel_rfl
def zoM:fieldB Pg 71 0=some 0:=by kernel_rfl
def ke68:elemB Pg 68=some (117,4,48):=by kernel_rfl
def ziv:fieldB Pg 71 1=some 1:=by kernel_rfl
def kk69:kindB Pg 69=some (false,1):=by kernel_rfl
def kz117:zeroB Pg 117=some (.agg #[strV ([]),.int .i64 (0:Int),.bool false,strV ([])]):=by kernel_rfl
def kk117:kindB Pg 117=some (true,4):=by kernel_rfl
def zjC:fieldB Pg 71 3=some 3:=by kernel_rfl
def kk49:kindB Pg 49=some (false,1):=by kernel_rfl
def zbA:fieldB Pg 73 3=some 3:=by kernel_rfl
def zri:fieldB Pg 71 2=some 2:=by kernel_rfl
def zyP:fieldB Pg 73 2=some 2:=by kernel_rfl
def kz200:zeroB Pg 200=some (.agg #[strV ([]),.int .i64 (0:Int),.bool false]):=by kernel_rfl
def kp200:placesB Pg 200=some [(0,1),(1,1),(2,1)]:=by kernel_rfl
def kz106:zeroB Pg 106=some (.agg #[strV ([]),strV ([])]):=by kernel_rfl
def kp106:placesB Pg 106=some [(0,1),(1,1)]:=by kernel_rfl
def ke57:elemB Pg 57=some (106,2,32):=by kernel_rfl
def kz71:zeroB Pg 71=some (.agg #[J7,J7,.int .i64 (0:Int),J7]):=by kernel_rfl
def kp71:placesB Pg 71=some [(0,1),(1,1),(2,1),(3,1)]:=by kernel_rfl
def kk71:kindB Pg 71=some (true,4):=by kernel_rfl
def kp117:placesB Pg 117=some [(0,1),(1,1),(2,1),(3,1)]:=by kernel_rfl
def kz297:zeroB Pg 297=some (.agg #[.pointer none,J7]):=by kernel_rfl
def kc315:callB Pg 315=true:=by kernel_rfl
def kp295:ptrB Pg 295=some (297,2):=by kernel_rfl
def kp316:ptrB Pg 316=some (5,1):=by kernel_rfl
def ku321:unsB Pg 321=true:=by kernel_rfl
def kl297:liesAt Pg Pg.depth 297 (2 / Pg.cellsOf 297) 0 297 1=true:=by kernel_rfl
def kc291:callB Pg 291=true:=by kernel_rfl
def kc294:callB Pg 294=true:=by kernel_rfl
def kp82:placesB Pg 82=some [(0,1),(1,1),(2,1),(3,1),(4,1)]:=by kernel_rfl
def zBw:fieldTB Pg 71 1=some (1,69):=by kernel_rfl
def ke37:elemB Pg 37=some (59,4,56):=by kernel_rfl
def keq106:eqTB Pg 106=some [2,2]:=by kernel_rfl
def kk57:kindB Pg 57=some (false,1):=by kernel_rfl
def keq117:eqTB Pg 117=some [2,0,1,2]:=by kernel_rfl
def kz86:zeroB Pg 86=some (.agg #[strV ([]),.int .i64 (0:Int),J7,J7,J7,J7]):=by kernel_rfl
def kp86:placesB Pg 86=some [(0,1),(1,2),(3,1),(4,1),(5,1)]:=by kernel_rfl
def ke83:elemB Pg 83=some (122,5,72):=by kernel_rfl
def kk122:kindB Pg 122=some (true,5):=by kernel_rfl
def zmx:fieldB Pg 122 0=some 0:=by kernel_rfl
def kz122:zeroB Pg 122=some (.agg #[.int .i64 (0:Int),.int .i64 (0:Int),.int .i64 (0:Int),J7,J7]):=by kernel_rfl
def kp122:placesB Pg 122=some [(0,1),(1,1),(2,1),(3,1),(4,1)]:=by kernel_rfl
def ke84:elemB Pg 84=some (174,3,40):=by kernel_rfl
def kk174:kindB Pg 174=some (true,3):=by kernel_rfl
def zAZ:fieldB Pg 174 0=some 0:=by kernel_rfl
def kz174:zeroB Pg 174=some (.agg #[.int .i64 (0:Int),J7,.bool false]):=by kernel_rfl
def zi7:fieldB Pg 122 1=some 1:=by kernel_rfl
def zdW:fieldB Pg 122 2=some 2:=by kernel_rfl
def zbI:fieldB Pg 122 3=some 3:=by kernel_rfl
def zfE:fieldB Pg 122 4=some 4:=by kernel_rfl
def kk120:kindB Pg 120=some (false,1):=by kernel_rfl
def ke120:elemB Pg 120=some (171,2,32):=by kernel_rfl
def kk171:kindB Pg 171=some (true,2):=by kernel_rfl
def kz171:zeroB Pg 171=some (.agg #[.int .i64 (0:Int),J7]):=by kernel_rfl
def zwU:fieldB Pg 171 1=some 1:=by kernel_rfl
def kp171:placesB Pg 171=some [(0,1),(1,1)]:=by kernel_rfl
def kp174:placesB Pg 174=some [(0,1),(1,1),(2,1)]:=by kernel_rfl
def zwV:fieldB Pg 174 2=some 2:=by kernel_rfl
def zfF:fieldB Pg 174 1=some 1:=by kernel_rfl
def hu22:Pg.underlying 22=some (.slice 5):=by kernel_rfl
def hs22:shB Pg 20 22=some ([.sl 1 (Dec.sh UInt8)]):=by kernel_rfl
def kb4:Pg.underlying 4=some .bool:=by kernel_rfl
def zqp (code:J3):Option Bool:=some (Dc ((code.length:Int)>1048576))
def zxI:Kb 4 [U0] [] [(U0,lc code)] (zqp code):=Ch r λZ=>Dw Z 11 [100] r<|Wr<|Rq
def zkA (code:J3):Option A8:=bindC (loopO (λ(S1:Int × Int)=>Bd0 (if Dc (S1.2<(code.length:Int))then some (Dc (S1.2<4000))else some false) (λa=>if a=true then Bd0 (idx code S1.2) λb=>some (.go (iand .i64 (J8 (J8 (J8 (S1.1*131)+(J8 (b.toNat:Int)))+7)) 1073741823,J8 (S1.2+1)))else some (.done (.go S1.1)))) (J8 ((10101:Int)+(code.length:Int)),(0:Int))) (λc=>some (⟨code,0,c⟩:A8))
def zvL:Cn Pg 12 [U0] [] [(U0,lc code)] (zkA code) (λ_ (X:Nat)=>pt X) λr X=>[.box X 92 [U0,iv r.i,iv r.h]]:=Ch r λZ=>Dw Z 16 [100] r<|Ju [0] (λT=>[(3,iv T)]) r1 (Wb<|Lu [0] (λT=>[(3,iv T.1),(4,iv T.2)]) r1 λS1=>Sq<|Sq<|Jv [0,3,4] (λT=>[(15,.bool T)]) r1 (Dt Z 6 [100] r<|It (λa=>Vg Z a 3 [] r<|Nl<|Bv) λa=>Vg Z a 3 [] r<|Nl<|Bv) λe=>Ne<|Wc r (λb=>Sn<|Zt Z 7 r<|Bi λf c=>Vx Z c 2 [100,0,300] r<|Yo (Y.conv ki5 ki3 r)<|Qs 4 r<|Nl<|Bn<|Ne<|Zt Z 4 r<|Nl<|Lq) λb=>We<|Jq) λg=>Ne<|Zt Z 4 r<|Yo (Bd kp92 kz92 (Pc r (Cb Z.1)<|Pc r (Cp r)<|Pz) r)<|Fo (Bx r (Ca ⟨Ob Z.1,Op',Op',⟨⟩⟩)) λd=>Qn r<|Wr<|Re d [0]
def ze4 (b:UInt8):Option J3:=bindC (loopO (λ(a:Int × J3)=>if Dc (a.1<32)then Bd0 (app 1 a.2 ([b])) λc=>some (.go (J8 (a.1+1),c))else some (.done (.go a.2))) ((0:Int),([]:J3))) (λd=>some d)
def zgS {b:UInt8} :Ks 13 [.int .u8 (b.toNat:Int)] [] [] (ze4 b):=Ch r λZ=>Zt Z 6 r<|Fo (Bs ([]:J3) ke22 kz5) λa=>Qn r<|Zw Z 5 r<|Jn Va [] [] (λ_ X=>[(3,X)]) (λT X=>[.own X (lc T)]) r2 r2 (Wb<|Lp Va [0] [] (λT X=>[(3,X),(4,iv T.1)]) (λT X=>[.own X (lc T.2)]) (.slice (some ⟨a,0,none⟩) 0 0) [0] r2 r2 λg c=>Zw Z 6 r<|Wc r (λd=>Sn<|Zt Z 5 r<|Fo (Bs [b] ke22 kz5) λh=>Bi λi e=>Fo (Ap [1] e ke22 kz5 r (Oc 0 r)) λf=>Qo r<|Nl<|Bn<|Ne<|Zt Z 4 r<|Nl<|Lg f [0]) λd=>We<|Jg c [0]) λj k=>Ne<|Zt Z 3 r<|Yo (Y.toStr ke22 ki5 ks9 (Oc 0 r) r)<|Qn r<|Wr<|Rq
def zbP (c:A8):Option (Int × A8):=bindC (if Dc (c.i<(c.b.length:Int))then Bd0 (idx c.b c.i) λd=>some (.go (iand .i64 (J8 (iand .i64 (ixor .i64 (ishr .i64 (J8 (J8 (c.h*6364136223846793005)+1442695040888963407)) 33) (ishr .i64 (J8 (J8 (c.h*6364136223846793005)+1442695040888963407)) 45)) 255+(J8 (d.toNat:Int)))) 255,J8 (c.i+1)))else some (.go (iand .i64 (ixor .i64 (ishr .i64 (J8 (J8 (c.h*6364136223846793005)+1442695040888963407)) 33) (ishr .i64 (J8 (J8 (c.h*6364136223846793005)+1442695040888963407)) 45)) 255,c.i))) (λa=>some (a.1,(⟨c.b,a.2,J8 (J8 (c.h*6364136223846793005)+1442695040888963407)⟩:A8)))
def zcH:Cn Pg 36 [pt U1] [.box U1 92 [U0,iv c.i,iv c.h]] [(U0,lc c.b)] (zbP c) (λr (_:Unit)=>iv r.1) λr _=>[.box U1 92 [U0,iv r.2.i,iv r.2.h]]:=Ch r λZ=>Zw Z 18 r<|Dz 1 [] [] r hMix<|Aj Z [0,1,2,3] [] [] r<|Ay 4 r (Y.shr (by decide) r r)<|Aj Z [5,6,7,8] [] [] r<|Ay 9 r (Y.shr (by decide) r r)<|Aq [10,11,12] r<|Az<|Ne<|Sq<|Sq<|Dz 1 [] [] r hMix<|Aj Z [0,1,2,3,4,5,6,7,8,9] [] [0,0,0,0,100] r<|Az<|Ne<|Jn Unit [] [] (λT _=>[(3,iv T.1)]) (λT _=>[.box U1 92 [U0,iv T.2,iv (J8 (J8 (c.h*6364136223846793005)+1442695040888963407))]]) r2 r2 (Wc r (λa=>Sq<|Dz 1 [] [] r hMix<|Aj Z [0,1,2,3,4,5,6,7,8] [] [] r<|Ai λe d=>Ae Z d [9,10] [] [100,0,300] r<|Ay 11 r (Y.conv ki5 ki3 r)<|Aq [12,13,14] r<|Az<|Ne<|Zt Z 10 r<|Nl<|Jg () [0]) λa=>Sk<|Jg () [0]) λf g=>Ne<|Zw Z 5 r<|Wr<|Re () [0]
def zC (c:A8) (n:Int):Option (Int × A8):=if Dc (n<=0)then some ((0:Int),c)else if Dc (n<=256)then Bd0 (zbP c) λa=>Bd0 (nz n) λj=>some (Ib a.1 n,(⟨c.b,a.2.i,a.2.h⟩:A8))else Bd0 (zbP c) λd=>Bd0 (zbP (⟨c.b,d.2.i,d.2.h⟩:A8)) λe=>Bd0 (zbP (⟨c.b,e.2.i,e.2.h⟩:A8)) λf=>Bd0 (zbP (⟨c.b,f.2.i,f.2.h⟩:A8)) λg=>Bd0 (nz n) λk=>some (Ib (J8 (J8 (J8 (J8 (d.1*16777216)+(J8 (e.1*65536)))+(J8 (f.1*256)))+g.1)) n,(⟨c.b,g.2.i,g.2.h⟩:A8))
def zB:Cn Pg 35 [pt U1,iv n] [.box U1 92 [U0,iv c.i,iv c.h]] [(U0,lc c.b)] (zC c n) (λr (_:Unit)=>iv r.1) λr _=>[.box U1 92 [U0,iv r.2.i,iv r.2.h]]:=Ch r λZ=>Zw Z 10 r<|Wc r (λa=>Zw Z 4 r<|Wv<|Re () [0]) λa=>Sn<|Zw Z 6 r<|Wc r (λd=>Zt Z 3 r<|Cc Z [0] [100] zcH r r2 λg j _=>Qo r<|Bi λk e=>Yo (Y.rem (nz_ne e) r r)<|Qn r<|Wv<|Re () [0]) λd=>Sn<|Zt Z 3 r<|Cc Z [0] [100] zcH r r2 λl m _=>Qn r<|Zt Z 3 r<|Cc Z [0] [100] zcH r r2 λo p _=>Qn r<|Zt Z 3 r<|Cc Z [0] [100] zcH r r2 λq s _=>Qn r<|Zt Z 3 r<|Cc Z [0] [100] zcH r r2 λt u _=>Qn r<|Zt Z 13 r<|Bi λv f=>Yo (Y.rem (nz_ne f) r r)<|Qn r<|Wr<|Re () [0]
def zbp (c:A8) (n:Int):Option (Bool × A8):=Bd0 (zC c n) λa=>some (Dc (a.1=0),(⟨c.b,a.2.i,a.2.h⟩:A8))
def zbs:Cn Pg 14 [pt U1,iv n] [.box U1 92 [U0,iv c.i,iv c.h]] [(U0,lc c.b)] (zbp c n) (λr (_:Unit)=>.bool r.1) λr _=>[.box U1 92 [U0,iv r.2.i,iv r.2.h]]:=Ch r λZ=>Zt Z 8 r<|Cc Z [0] [100] zB r r2 λa d _=>Qs 2 r<|Nx<|Wr<|Re () [0]
def zkD (c:A8):Option (J3 × A8):=Bd0 (zbP c) λe=>bindC (loopO (λ(a:Int × J3)=>if Dc (a.1<32)then Bd0 (app 1 a.2 ([toU8 (J8 (J8 (e.1*a.1)+(Ib a.1 3)))])) λj=>some (.go (J8 (a.1+1),j))else some (.done (.go a.2))) ((0:Int),([]:J3))) (λg=>Bd0 (zbp (⟨c.b,e.2.i,e.2.h⟩:A8) (15:Int)) λd=>if d.1=true then Bd0 (zC (⟨c.b,d.2.i,d.2.h⟩:A8) (32:Int)) λf=>Bd0 (piece g 0 f.1) λk=>some (k,(⟨c.b,f.2.i,f.2.h⟩:A8))else some (g,(⟨c.b,d.2.i,d.2.h⟩:A8)))
def zvO:Cn Pg 15 [pt U1] [.box U1 92 [U0,iv c.i,iv c.h]] [(U0,lc c.b)] (zkD c) (λr (_:Unit)=>strV r.1) λr _=>[.box U1 92 [U0,iv r.2.i,iv r.2.h]]:=Ch r λZ=>Zt Z 6 r<|Fo (Bs ([]:J3) ke22 kz5) λe=>Qn r<|Zt Z 3 r<|Cc Z [1] [100] zcH r r2 λf n _=>Qn r<|Zw Z 5 r<|Jn Va [0] [0] (λ_ X=>[(3,X)]) (λT X=>[.own X (lc T)]) r2 r2 (Wb<|Lp Va [0,4] [0] (λT X=>[(3,X),(5,iv T.1)]) (λT X=>[.own X (lc T.2)]) (.slice (some ⟨e,0,none⟩) 0 0) [0,0] r2 r2 λa g=>Zw Z 6 r<|Wc r (λj=>Sn<|Zt Z 8 r<|Yo (Y.rem (by decide) r r)<|Qo r<|Yo (Y.conv8 ki3 ki5 r)<|Fo (Bs [toU8 (J8 (J8 (f.1*a.1)+(Ib a.1 3)))] ke22 kz5) λo=>Bi λp k=>Fo (Ap [2] k ke22 kz5 r (Oc 0 r)) λl=>Qo r<|Nl<|Bn<|Ne<|Zt Z 4 r<|Nl<|Lg l [2,0]) λj=>We<|Jg g [0,0]) λq s=>Ne<|Zt Z 4 r<|Cc Z [0] [100] zbs r r2 λt u _=>Nx<|Wc r (λm=>Zt Z 4 r<|Cc Z [0] [100] zB r r2 λv w _=>Bi λx d=>Yo (Y.subs d ke22 (Oc 1 r) r r ⟨_,r⟩)<|Yo (Y.toStr ke22 ki5 ks9 (Can.sub d r (Oc 1 r)) r)<|Qn r<|Wv<|Re () [0]) λm=>Sn<|Zt Z 3 r<|Yo (Y.toStr ke22 ki5 ks9 (Oc 1 r) r)<|Qn r<|Wr<|Re () [0]
def zbY (c:A8) (A:List Int):Option (Int × A8):=Bd0 (zC c (A.length:Int)) λa=>Bd0 (idx A a.1) λd=>some (d,(⟨c.b,a.2.i,a.2.h⟩:A8))
def zcW {A:List Int} :Cn Pg 16 [pt U1,U2] [.box U1 92 [U0,iv c.i,iv c.h]] [(U0,lc c.b),(U2,lc A)] (zbY c A) (λr (_:Unit)=>iv r.1) λr _=>[.box U1 92 [U0,iv r.2.i,iv r.2.h]]:=Ch r λZ=>Dt Z 10 [101] r<|Cc Z [0] [100] zB r r2 λd e _=>Bi λf a=>Vx Z a 3 [101,0,301] r<|Nx<|Wr<|Re () [0]
def zjx (code:J3) (most:Int):Option Int:=if Dc (J8 ((2:Int)+(J8 (Ic (code.length:Int) (20:Int))))>most)then some most else some (J8 ((2:Int)+(J8 (Ic (code.length:Int) (20:Int)))))
def zux:Ki 18 [U0,iv most] [] [(U0,lc code)] (zjx code most):=Ch r λZ=>Dt Z 8 [100] r<|Yo (Y.quo (by decide) r r)<|Qs 2 r<|Nx<|Zw Z 7 r<|Wc r (λa=>Zw Z 5 r<|Wv<|Rq) λa=>Sn<|Zw Z 5 r<|Wr<|Rq
def zn (x A h:Int):Option Bool:=Bd0 (if Dc (x>=A)then some (Dc (x<=h))else some false) (λa=>some a)
def zm {x A h:Int} :Kb 27 [iv x,iv A,iv h] [] [] (zn x A h):=Ch r λZ=>Zw Z 5 r<|Jv [] (λT=>[(6,.bool T)]) r1 (Zt Z 5 r<|It (λa=>Vg Z a 5 [] r<|Nl<|Bv) λa=>Vg Z a 5 [] r<|Nl<|Bv) λb=>Ne<|Wr<|Rq
def zfq (n:Int):Option J3:=Bd0 (zn n 0 562949953421311) λc=>if !c then some ([])else bindC (loopO (λ(a:Int × J3)=>if Dc (a.1>=128)then Bd0 (app 1 a.2 ([toU8 (J8 ((128:Int)+(Ib a.1 128)))])) λd=>some (.go (J8 (Ic a.1 128),d))else some (.done (.go (a.1,a.2)))) (n,([]:J3))) (λb=>Bd0 (app 1 b.2 ([toU8 b.1])) λe=>some e)
def ziM:Ks 137 [iv n] [] [] (zfq n):=Ch r λZ=>Zt Z 8 r<|Cc Z [] [] zm r r2 λj k _=>Qn r<|Wc r (λa=>Zw Z 4 r<|Wv<|Rq) λa=>Sn<|Sr<|Fo (Bs ([]:J3) ke22 kz5) λb=>Qn r<|Sq<|Jn Va [] [] (λT X=>[(0,iv T.1),(3,X)]) (λT X=>[.own X (lc T.2)]) r2 r2 (Wb<|Lp Va [] [] (λT X=>[(0,iv T.1),(3,X)]) (λT X=>[.own X (lc T.2)]) (.slice (some ⟨b,0,none⟩) 0 0) [0] r2 r2 λc d=>Zw Z 6 r<|Wc r (λe=>Sn<|Zt Z 5 r<|Yo (Y.rem (by decide) r r)<|Qo r<|Yo (Y.conv8 ki3 ki5 r)<|Fo (Bs [toU8 (J8 ((128:Int)+(Ib c.1 128)))] ke22 kz5) λl=>Bi λm f=>Fo (Ap [1] f ke22 kz5 r (Oc 0 r)) λg=>Qn r<|Zt Z 2 r<|Yo (Y.quo (by decide) r r)<|Qo r<|Nl<|Bn<|Lg g [0]) λe=>We<|Jg d [0]) λh o=>Ne<|Zt Z 4 r<|Yo (Y.conv8 ki3 ki5 r)<|Fo (Bs [toU8 h.1] ke22 kz5) λp=>Bi λq i=>Fo (Ap [1] i ke22 kz5 r (Oc 0 r)) λs=>Yo (Y.toStr ke22 ki5 ks9 (Oc 0 r) r)<|Qn r<|Wr<|Rq
def zkx (n h:Int):Option J3:=Bd0 (Bd0 (zn h 1 7) λc=>if !c then some true else some (Dc (n<0))) (λd=>if d=true then some ([])else bindC (loopO (λ(a:Int × J3 × Int)=>if Dc (a.2.2<h)then Bd0 (cat ([toU8 (Ib a.1 256)]) a.2.1) λe=>some (.go (J8 (Ic a.1 256),e,J8 (a.2.2+1)))else some (.done (.go (a.1,a.2.1)))) (n,[],(0:Int))) (λb=>if Dc (b.1>0)then some ([])else some b.2))
def zvI {A:Int} :Ks 197 [iv n,iv A] [] [] (zkx n A):=Ch r λZ=>Zw Z 6 r<|Jv [0,1] (λT=>[(13,.bool T)]) r1 (Zt Z 2 r<|Cc Z [] [] zm r r2 λg h _=>Qs 2 r<|It (λa=>Vg Z a 3 [] r<|Nl<|Bv) λa=>Vg Z a 3 [] r<|Nl<|Bv) λi=>Ne<|Wc r (λb=>Zw Z 4 r<|Wv<|Rq) λb=>Sn<|Zw Z 9 r<|Ju [] (λT=>[(0,iv T.1),(5,strV T.2)]) r1 (Wb<|Lu [1] (λT=>[(0,iv T.1),(5,strV T.2.1),(6,iv T.2.2)]) r1 λc=>Zw Z 7 r<|Wc r (λd=>Sn<|Zt Z 5 r<|Yo (Y.rem (by decide) r r)<|Yo (Y.conv8 ki3 ki5 r)<|Fo (Bs [toU8 (Ib c.1 256)] ke22 kz5) λj=>Yo (Y.toStr ke22 ki5 ks9 (Oc 0 r) r)<|Qo r<|Bi λk e=>Yo (Y.cat e r r)<|Qn r<|Zt Z 2 r<|Yo (Y.quo (by decide) r r)<|Qo r<|Nl<|Bn<|Ne<|Zt Z 4 r<|Nl<|Lq) λd=>We<|Jq) λl=>Ne<|Zw Z 6 r<|Wc r (λf=>Zw Z 4 r<|Wv<|Rq) λf=>Sn<|Zw Z 5 r<|Wr<|Rq
def zeX (kind n:Int):Option J3:=Bd0 (Bd0 (zn kind 0 255) λa=>if !a then some true else Bd0 (zn n 0 562949953421311) λb=>some (!b)) (λc=>if c=true then some ([])else Bd0 (zkx n 7) λd=>Bd0 (cat ([toU8 kind,(0:UInt8),(0:UInt8),(0:UInt8),(0:UInt8)]) d) λe=>some e)
def zjf {kind:Int} :Ks 112 [iv kind,iv n] [] [] (zeX kind n):=Ch r λZ=>Zw Z 6 r<|Jv [0,1] (λT=>[(12,.bool T)]) r1 (Zt Z 2 r<|Cc Z [] [] zm r r2 λf g _=>Qs 2 r<|It (λa=>Vg Z a 4 [] r<|Nl<|Bv) λa=>Vg Z a 1 [] r<|Bi λh b=>Fg (gdA (zj a)) (Cl [] zm b r r1) λ_=>Vg Z a 2 [] r<|Nl<|Bv) λi=>Ne<|Wc r (λc=>Zw Z 4 r<|Wv<|Rq) λc=>Sn<|Sq<|Wi λj d=>Wi λk e=>Dr [] [] r hMix<|Aq [0] r<|Ay 1 r (Y.conv8 ki3 ki5 r)<|Aq [4] r<|Ts (Sc 5 r (λ_ _ A=>Cl [] zvI d r r1) Sz) r<|Me 2 r (λ_ _ A=>Bs [toU8 kind,(0:UInt8),(0:UInt8),(0:UInt8),(0:UInt8)] ke22 kz5) λl=>Mi 3 r (λ_ _ A=>Y.toStr ke22 ki5 ks9 (Oc 0 r) r)<|Mc λ_=>Mo<|Ay 6 r (Y.cat e r r)<|Aq [7] r<|Az<|Ne<|Wr<|Rq
def z8 (s:J3) (at_:Int):Option Int:=Bd0 (sidx s at_) λa=>Bd0 (sidx s (J8 (at_+1))) λb=>Bd0 (sidx s (J8 (at_+2))) λc=>Bd0 (sidx s (J8 (at_+3))) λd=>some (ior .i64 (ior .i64 (ior .i64 (J8 (a.toNat:Int)) (ishl .i64 (J8 (b.toNat:Int)) 8)) (ishl .i64 (J8 (c.toNat:Int)) 16)) (ishl .i64 (J8 (d.toNat:Int)) 24))
def zf4 {s:J3} {at_:Int} :Ki 268 [strV s,iv at_] [] [] (z8 s at_):=Ch r λZ=>Zw Z 5 r<|Dr [] [] r hMix<|Aq [0,1] r<|Ai λe a=>Ay 2 r (Y.sidx a ks9 r r)<|Ay 3 r (Y.conv ki5 ki3 r)<|Aq [4,5,6] r<|Ai λf b=>Ay 7 r (Y.sidx b ks9 r r)<|Ay 8 r (Y.conv ki5 ki3 r)<|Ay 9 r (Y.shl (by decide) r r)<|Aq [10,11,12,13] r<|Ai λg c=>Ay 14 r (Y.sidx c ks9 r r)<|Ay 15 r (Y.conv ki5 ki3 r)<|Ay 16 r (Y.shl (by decide) r r)<|Aq [17,18,19,20] r<|Ai λh d=>Ay 21 r (Y.sidx d ks9 r r)<|Ay 22 r (Y.conv ki5 ki3 r)<|Ay 23 r (Y.shl (by decide) r r)<|Aq [24,25] r<|Az<|Ne<|Wr<|Rq
def zb8 (x:Int):Option Int:=some (iand .i64 x 4294967295)
def zdX {x:Int} :Ki 270 [iv x] [] [] (zb8 x):=Ch r λZ=>Zw Z 10 r<|Wr<|Rq
def zdm (x n:Int):Option Int:=Bd0 (nn n) λb=>Bd0 (zb8 (ior .i64 (ishl .i64 x n) (ishr .i64 x (IntKind.u64.wrap ((32:Int) - n))))) λa=>some a
def zhD {x:Int} :Ki 304 [iv x,.int .u64 n] [] [] (zdm x n):=Ch r λZ=>Zt Z 8 r<|Bi λb a=>Yo (Y.shl (nn_ge a) r r)<|Qs 3 r<|Yo (Y.shr (zhH r _) r r)<|Qo r<|Cc Z [] [] zdX r r2 λc d _=>Qn r<|Wr<|Rq
def zl (s:List Int) (a b c d:Int):Option (List Int):=Bd0 (idx s a) λl=>Bd0 (idx s b) λm=>Bd0 (zb8 (J8 (l+m))) λe=>Bd0 (idx (s.set a.toNat e) d) λn=>Bd0 (zdm (ixor .i64 n e) (16:Int)) λf=>Bd0 (idx ((s.set a.toNat e).set d.toNat f) c) λo=>Bd0 (zb8 (J8 (o+f))) λg=>Bd0 (idx (((s.set a.toNat e).set d.toNat f).set c.toNat g) b) λp=>Bd0 (zdm (ixor .i64 p g) (12:Int)) λh=>Bd0 (idx ((((s.set a.toNat e).set d.toNat f).set c.toNat g).set b.toNat h) a) λq=>Bd0 (zb8 (J8 (q+h))) λi=>Bd0 (idx (((((s.set a.toNat e).set d.toNat f).set c.toNat g).set b.toNat h).set a.toNat i) d) λt=>Bd0 (zdm (ixor .i64 t i) (8:Int)) λj=>Bd0 (idx ((((((s.set a.toNat e).set d.toNat f).set c.toNat g).set b.toNat h).set a.toNat i).set d.toNat j) c) λu=>Bd0 (zb8 (J8 (u+j))) λk=>Bd0 (idx (((((((s.set a.toNat e).set d.toNat f).set c.toNat g).set b.toNat h).set a.toNat i).set d.toNat j).set c.toNat k) b) λv=>Bd0 (zdm (ixor .i64 v k) (7:Int)) λw=>some ((((((((s.set a.toNat e).set d.toNat f).set c.toNat g).set b.toNat h).set a.toNat i).set d.toNat j).set c.toNat k).set b.toNat w)
def zbM {s:List Int} {a b c d:Int} :Kl 269 [U0,iv a,iv b,iv c,iv d] [.own U0 (lc s)] [] (zl s a b c d):=Ch r λZ=>by
 refine Zw Z 5 r<|Dr [0] [13] r hMix<|Aq [0,1,2,3] r<|Ai λF e=>Ae Z e [4,5,6,7] [15392,15360] [0,0,200] r<|Ai λG m=>Ae Z m [8,9,10] [15872,15360] [0,0,200] r<|Ai λn o=>A1 11<|Xe r (Cl [] zdX o r r1) λ_=>Ae Z e [12] [8192] [] r<|A1 13<|Xu r (Se n 0 kk3 e r (Cp r) r)<|Az<|Ne<|Sq<|Dr [0] [13] r hMix<|Aq [0,1,2,3] r<|Ai λH f=>Ae Z f [4,5,6,7] [15392,15360] [0,0,200] r<|Ab 8 15872 r (Ix ke49 (Oc 0 r) (zbc e) r)<|Ab 9 15360 r (Le kk3 (Oc 0 r) (zbc e) r)<|Aq [10] r<|Ai λp q=>A1 11<|Xe r (Cl [] zhD q r r1) λ_=>Ae Z f [12] [8192] [] r<|A1 13<|Xu r (Se p 0 kk3 f r (Cp r) r)<|Az<|Ne<|Sq<|Dr [0] [13] r hMix<|Aq [0,1,2,3] r<|Ai λI g=>Ae Z g [4,5,6,7] [15392,15360] [0,0,200] r<|Ab 8 15872 r (Ix ke49 (Oc 0 r) (zbc f) r)<|Ab 9 15360 r (Le kk3 (Oc 0 r) (zbc f) r)<|Aq [10] r<|Ai λt u=>A1 11<|Xe r (Cl [] zdX u r r1) λ_=>Ae Z g [12] [8192] [] r<|A1 13<|Xu r (Se t 0 kk3 g r (Cp r) r)<|Az<|Ne<|Sq<|Dr [0] [13] r hMix<|Aq [0,1,2,3] r<|Ai λJ h=>Ae Z h [4,5,6,7] [15392,15360] [0,0,200] r<|Ab 8 15872 r (Ix ke49 (Oc 0 r) (zbc g) r)<|Ab 9 15360 r (Le kk3 (Oc 0 r) (zbc g) r)<|Aq [10] r<|Ai λv w=>A1 11<|Xe r (Cl [] zhD w r r1) λ_=>?_
 refine Ae Z h [12] [8192] [] r<|A1 13<|Xu r (Se v 0 kk3 h r (Cp r) r)<|Az<|Ne<|Sq<|Dr [0] [13] r hMix<|Aq [0,1,2,3] r<|Ai λK i=>Ae Z i [4,5,6,7] [15392,15360] [0,0,200] r<|Ab 8 15872 r (Ix ke49 (Oc 0 r) (zbc h) r)<|Ab 9 15360 r (Le kk3 (Oc 0 r) (zbc h) r)<|Aq [10] r<|Ai λx y=>A1 11<|Xe r (Cl [] zdX y r r1) λ_=>Ae Z i [12] [8192] [] r<|A1 13<|Xu r (Se x 0 kk3 i r (Cp r) r)<|Az<|Ne<|Sq<|Dr [0] [13] r hMix<|Aq [0,1,2,3] r<|Ai λL j=>Ae Z j [4,5,6,7] [15392,15360] [0,0,200] r<|Ab 8 15872 r (Ix ke49 (Oc 0 r) (zbc i) r)<|Ab 9 15360 r (Le kk3 (Oc 0 r) (zbc i) r)<|Aq [10] r<|Ai λz A=>A1 11<|Xe r (Cl [] zhD A r r1) λ_=>Ae Z j [12] [8192] [] r<|A1 13<|Xu r (Se z 0 kk3 j r (Cp r) r)<|Az<|Ne<|Sq<|Dr [0] [13] r hMix<|Aq [0,1,2,3] r<|Ai λM k=>Ae Z k [4,5,6,7] [15392,15360] [0,0,200] r<|Ab 8 15872 r (Ix ke49 (Oc 0 r) (zbc j) r)<|Ab 9 15360 r (Le kk3 (Oc 0 r) (zbc j) r)<|Aq [10] r<|Ai λB C=>A1 11<|Xe r (Cl [] zdX C r r1) λ_=>Ae Z k [12] [8192] [] r<|A1 13<|Xu r (Se B 0 kk3 k r (Cp r) r)<|Az<|Ne<|Sq<|Dr [0] [13] r hMix<|Aq [0,1,2,3] r<|Ai λN l=>Ae Z l [4,5,6,7] [15392,15360] [0,0,200] r<|Ab 8 15872 r (Ix ke49 (Oc 0 r) (zbc k) r)<|Ab 9 15360 r (Le kk3 (Oc 0 r) (zbc k) r)<|Aq [10] r<|Ai λD E=>?_
 exact A1 11<|Xe r (Cl [] zhD E r r1) λ_=>Ae Z l [12] [8192] [] r<|A1 13<|Xu r (Se D 0 kk3 l r (Cp r) r)<|Az<|Ne<|Zw Z 5 r<|Wr<|Re U0 [0]
def zll (key:J3) (counter:Int) (nonce:J3):Option J3:=bindC (loopO (λ(b:Int × List Int)=>if Dc (b.1<8)then Bd0 (z8 key (J8 ((4:Int)*b.1))) λf=>Bd0 (app 8 b.2 ([f])) λg=>some (.go (J8 (b.1+1),g))else some (.done (.go b.2))) ((0:Int),([(1634760805:Int),(857760878:Int),(2036477234:Int),(1797285236:Int)]))) (λh=>Bd0 (z8 nonce 0) λi=>Bd0 (z8 nonce 4) λj=>Bd0 (z8 nonce 8) λk=>Bd0 (app 8 h ([counter,i,j,k])) λe=>Bd0 (app 8 ([]:List Int) e) λl=>bindC (loopO (λ(c:Int × List Int)=>if Dc (c.1<10)then Bd0 (zl c.2 0 4 (8:Int) (12:Int)) λm=>Bd0 (zl m 1 5 (9:Int) (13:Int)) λn=>Bd0 (zl n 2 6 (10:Int) (14:Int)) λo=>Bd0 (zl o 3 7 (11:Int) (15:Int)) λp=>Bd0 (zl p 0 5 (10:Int) (15:Int)) λq=>Bd0 (zl q 1 6 (11:Int) (12:Int)) λs=>Bd0 (zl s 2 7 (8:Int) (13:Int)) λt=>Bd0 (zl t 3 4 (9:Int) (14:Int)) λu=>some (.go (J8 (c.1+1),u))else some (.done (.go c.2))) ((0:Int),l)) (λv=>bindC (loopO (λ(a:Int × J3)=>if Dc (a.1<16)then Bd0 (idx v a.1) λw=>Bd0 (idx e a.1) λx=>Bd0 (zb8 (J8 (w+x))) λd=>Bd0 (app 1 a.2 ([toU8 (iand .i64 d 255),toU8 (iand .i64 (ishr .i64 d 8) 255),toU8 (iand .i64 (ishr .i64 d 16) 255),toU8 (ishr .i64 d 24)])) λy=>some (.go (J8 (a.1+1),y))else some (.done (.go a.2))) ((0:Int),([]:J3))) (λz=>some z)))
def zsZ {key:J3} {nonce:J3} :Ks 214 [strV key,iv counter,strV nonce] [] [] (zll key counter nonce):=Ch r λZ=>by
 refine Zt Z 6 r<|Fo (Bs [(1634760805:Int),(857760878:Int),(2036477234:Int),(1797285236:Int)] ke49 kz3) λb=>Qn r<|Zw Z 5 r<|Jn Va [1,2] [] (λ_ X=>[(7,X)]) (λT X=>[.own X (lc T)]) r2 r2 (Wb<|Lp Va [0,1,2] [] (λT X=>[(7,X),(8,iv T.1)]) (λT X=>[.own X (lc T.2)]) (.slice (some ⟨b,0,none⟩) 4 4) [0] r2 r2 λz c=>Zw Z 6 r<|Wc r (λd=>Sn<|Zt Z 7 r<|Cc Z [] [] zf4 r r2 λe A _=>Fo (Bs [e] ke49 kz3) λB=>Bi λC f=>Fo (Ap [1] f ke49 kz3 r (Oc 0 r)) λg=>Qo r<|Nl<|Bn<|Ne<|Zt Z 4 r<|Nl<|Lg g [0]) λd=>We<|Jg c [0]) λD E=>Ne<|Zt Z 5 r<|Cc Z [] [] zf4 r r2 λh F _=>Qo r<|Cc Z [] [] zf4 r r2 λi G _=>Qo r<|Cc Z [] [] zf4 r r2 λj H _=>Fo (Bs [counter,h,i,j] ke49 kz3) λI=>Bi λJ k=>Fo (Ap [1] k ke49 kz3 r (Oc 0 r)) λK=>Qn r<|Sr<|Fo (Bs ([]:List Int) ke49 kz3) λL=>Qo r<|Bi λM l=>Fo (Ap [0] l ke49 kz3 r (Oc 1 r)) λm=>Qn r<|Zw Z 5 r<|Jn Va [7] [1] (λ_ X=>[(9,X)]) (λT X=>[.own X (lc T)]) r2 r2 (?_) λN O=>?_
 ·refine Wb<|Lp Va [7] [1] (λT X=>[(9,X),(10,iv T.1)]) (λT X=>[.own X (lc T.2)]) m [1,0] r2 r2 λP n=>Zw Z 6 r<|Wc r (λo=>?_) λo=>?_
  ·exact Sn<|Zt Z 5 r<|Cc Z [1] [] zbM r r2 λQ R S=>Qn r<|Zt Z 3 r<|Cc Z [0] [] zbM r r2 λU V W=>Qn r<|Zt Z 3 r<|Cc Z [0] [] zbM r r2 λaa ab ac=>Qn r<|Zt Z 3 r<|Cc Z [0] [] zbM r r2 λad ae af=>Qn r<|Zt Z 3 r<|Cc Z [0] [] zbM r r2 λag ah ai=>Qn r<|Zt Z 3 r<|Cc Z [0] [] zbM r r2 λaj ak al=>Qn r<|Zt Z 3 r<|Cc Z [0] [] zbM r r2 λam an ao=>Qn r<|Zt Z 2 r<|Cc Z [0] [] zbM r r2 λap aq p=>Qo r<|Nl<|Bn<|Ne<|Zt Z 4 r<|Nl<|Lg p [1,0]
  exact We<|Jg n [0,0]
 refine Ne<|Sr<|Fo (Bs ([]:J3) ke22 kz5) λq=>Qn r<|Zw Z 5 r<|Jn Va [] [] (λ_ X=>[(11,X)]) (λT X=>[.own X (lc T)]) r2 r2 (?_) λar au=>?_
 ·refine Wb<|Lp Va [7,9] [1,1] (λT X=>[(11,X),(12,iv T.1)]) (λT X=>[.own X (lc T.2)]) (.slice (some ⟨q,0,none⟩) 0 0) [1,1,0] r2 r2 λav s=>Zw Z 6 r<|Wc r (λt=>?_) λt=>?_
  ·exact Sn<|Zw Z 3 r<|Dz 3 [] [] r hMix<|Aq [0,1] r<|Ai λaw u=>Ae Z u [2,3,4,5] [] [1,0,201] r<|Ai λax v=>Ae Z v [6,7,8] [] [0,0,200] r<|Ai λa w=>A1 9<|Xe r (Cl [] zdX w r r1) λ_=>Aq [10] r<|Az<|Ne<|Zt Z 4 r<|Yo (Y.conv8 ki3 ki5 r)<|Qo r<|Yo (Y.shr (by decide) r r)<|Qo r<|Yo (Y.conv8 ki3 ki5 r)<|Qo r<|Yo (Y.shr (by decide) r r)<|Qo r<|Yo (Y.conv8 ki3 ki5 r)<|Qo r<|Yo (Y.shr (by decide) r r)<|Yo (Y.conv8 ki3 ki5 r)<|Fo (Bs [toU8 (iand .i64 a 255),toU8 (iand .i64 (ishr .i64 a 8) 255),toU8 (iand .i64 (ishr .i64 a 16) 255),toU8 (ishr .i64 a 24)] ke22 kz5) λay=>Bi λaz x=>Fo (Ap [3] x ke22 kz5 r (Oc 0 r)) λy=>Qo r<|Nl<|Bn<|Ne<|Zt Z 4 r<|Nl<|Lg y [2,2,0]
  exact We<|Jg s [2]
 exact Ne<|Zt Z 3 r<|Yo (Y.toStr ke22 ki5 ks9 (Oc 0 r) r)<|Qn r<|Wr<|Rq
def zc7 (key:J3) (counter:Int) (nonce:J3):Option J3:=Bd0 (if !(Dc ((key.length:Int)=32))then some true else if !(Dc ((nonce.length:Int)=12))then some true else Bd0 (zn counter 0 4294967295) λa=>some (!a)) (λb=>if b=true then some ([])else Bd0 (zll key counter nonce) λc=>some c)
def ziF {key:J3} {nonce:J3} :Ks 138 [strV key,iv counter,strV nonce] [] [] (zc7 key counter nonce):=Ch r λZ=>Zw Z 6 r<|Jv [0,1,2] (λT=>[(19,.bool T)]) r1 (Zt Z 2 r<|Yo (Y.slen ks9 r)<|Qs 2 r<|It (λa=>Vg Z a 5 [] r<|Of 3 r r r<|Yo (Pt r r)<|Nl<|Bv) λa=>Vg Z a 1 [] r<|Yg (gdA (zj a)) (Y.slen ks9 r)<|Vg Z a 3 [] r<|It (λb=>Vg Z b 4 [] r<|Nl<|Bv) λb=>Vg Z b 1 [] r<|Bi λe c=>Fg (gdA (zj b)) (Cl [] zm c r r1) λ_=>Vg Z b 2 [] r<|Nl<|Bv) λf=>Ne<|Wc r (λd=>Zw Z 4 r<|Wv<|Rq) λd=>Sn<|Zt Z 5 r<|Cc Z [] [] zsZ r r2 λg h _=>Qn r<|Wr<|Rq
def zbX (secret:J3) (tenant A:Int):Option J3:=Bd0 (if !(Dc ((secret.length:Int)=32))then some true else Bd0 (zn tenant 1 99) λa=>if !a then some true else Bd0 (zn A 0 1000000) λb=>some (!b)) (λc=>if c=true then some ([])else Bd0 (zfq tenant) λd=>Bd0 (zfq A) λe=>Bd0 (cat d e) λf=>Bd0 (zeX 2 tenant) λg=>Bd0 (zc7 secret A g) λh=>Bd0 (ssub h 0 8) λi=>Bd0 (cat f i) λj=>some j)
def zcT {tenant A:Int} :Ks 67 [strV secret,iv tenant,iv A] [] [] (zbX secret tenant A):=Ch r λZ=>Zw Z 6 r<|Jv [0,1,2] (λT=>[(19,.bool T)]) r1 (Zt Z 2 r<|Yo (Y.slen ks9 r)<|Qs 2 r<|It (λa=>Vg Z a 5 [] r<|Of 3 r r r<|Yo (Pt r r)<|Nl<|Bv) λa=>Vg Z a 1 [] r<|Bi λi c=>Fg (gdA (zj a)) (Cl [] zm c r r1) λ_=>Vg Z a 3 [] r<|It (λb=>Vg Z b 4 [] r<|Nl<|Bv) λb=>Vg Z b 1 [] r<|Bi λj d=>Fg (gdA (zj b)) (Cl [] zm d r r1) λ_=>Vg Z b 2 [] r<|Nl<|Bv) λk=>Ne<|Wc r (λe=>Zw Z 4 r<|Wv<|Rq) λe=>Sn<|Zt Z 3 r<|Cc Z [] [] ziM r r2 λl m _=>Qo r<|Cc Z [] [] ziM r r2 λn o _=>Bi λp f=>Yo (Y.cat f r r)<|Qs 3 r<|Cc Z [] [] zjf r r2 λq s _=>Cc Z [] [] ziF r r2 λt u _=>Bi λv g=>Yo (Y.ssub_to g ks9 r r)<|Bi λw h=>Yo (Y.cat h r r)<|Qn r<|Wr<|Rq
def zcr (c:A8) (A:List J3):Option (J3 × A8):=Bd0 (zC c (A.length:Int)) λa=>Bd0 (idx A a.1) λd=>some (d,(⟨c.b,a.2.i,a.2.h⟩:A8))
def zc8 {A:List J3} :Cn Pg 68 [pt U1,U2] [.box U1 92 [U0,iv c.i,iv c.h]] [(U0,lc c.b),(U2,lc A)] (zcr c A) (λr (_:Unit)=>strV r.1) λr _=>[.box U1 92 [U0,iv r.2.i,iv r.2.h]]:=Ch r λZ=>Dt Z 10 [101] r<|Cc Z [0] [100] zB r r2 λd e _=>Bi λf a=>Vx Z a 3 [101,0,301] r<|Nx<|Wr<|Re () [0]
def zkE (c:A8):Option (J3 × A8):=Bd0 (zcr c ([[97],[98],[97,98],[97,98,99],[98,48],[99],[0],[122,122]])) λa=>some (a.1,(⟨c.b,a.2.i,a.2.h⟩:A8))
def zvP:Cn Pg 215 [pt U1] [.box U1 92 [U0,iv c.i,iv c.h]] [(U0,lc c.b)] (zkE c) (λr (_:Unit)=>strV r.1) λr _=>[.box U1 92 [U0,iv r.2.i,iv r.2.h]]:=Ch r λZ=>Zt Z 7 r<|Fo (Bs ([[97],[98],[97,98],[97,98,99],[98,48],[99],[0],[122,122]]:List J3) ke127 kz9) λa=>Cc Z [1] [100,0] zc8 r r2 λd e _=>Qn r<|Wr<|Re () [0]
def zep (c:A8) (most:Int):Option (J3 × A8):=Bd0 (zC c 4) λd=>Bd0 (zC (⟨c.b,d.2.i,d.2.h⟩:A8) (J8 (most+1))) λf=>bindC (loopO (λ(a:Int × Int × Int × J3)=>if Dc (a.2.2.1>0)then Bd0 (zbP (⟨c.b,a.1,a.2.1⟩:A8)) λe=>bindC (if Dc (d.1=1)then some (.go (Ib e.1 2))else some (.go e.1)) (λj=>bindC (if Dc (d.1=2)then some (.go (J8 ((97:Int)+(Ib j 4))))else some (.go j)) (λk=>Bd0 (app 1 a.2.2.2 ([toU8 k])) λl=>some (.go (e.2.i,e.2.h,J8 (a.2.2.1 - 1),l))))else some (.done (.go (a.1,a.2.1,a.2.2.2)))) (f.2.i,f.2.h,f.1,([]:J3))) (λg=>some (g.2.2,(⟨c.b,g.1,g.2.1⟩:A8)))
def zhv:Cn Pg 140 [pt U1,iv most] [.box U1 92 [U0,iv c.i,iv c.h]] [(U0,lc c.b)] (zep c most) (λr (_:Unit)=>strV r.1) λr _=>[.box U1 92 [U0,iv r.2.i,iv r.2.h]]:=Ch r λZ=>by
 refine Zt Z 6 r<|Fo (Bs ([]:J3) ke22 kz5) λa=>Qn r<|Zt Z 3 r<|Cc Z [1] [100] zB r r2 λm n _=>Qn r<|Zt Z 6 r<|Cc Z [0] [100] zB r r2 λo p _=>Qn r<|Jn Va [] [] (λ_ X=>[(5,X)]) (λT X=>[.box U1 92 [U0,iv T.1,iv T.2.1],.own X (lc T.2.2)]) r2 r2 (?_) λq s=>?_
 ·exact Wb<|Lp Va [0,6] [] (λT X=>[(5,X),(7,iv T.2.2.1)]) (λT X=>[.box U1 92 [U0,iv T.1,iv T.2.1],.own X (lc T.2.2.2)]) (.slice (some ⟨a,0,none⟩) 0 0) [0,0] r2 r2 λt d=>Zw Z 6 r<|Wc r (λe=>Sn<|Zt Z 5 r<|Cc Z [0] [100] zcH r r2 λu v _=>Qn r<|Zw Z 6 r<|Ju [0,5,6,7] (λT=>[(8,iv T)]) r1 (Wc r (λf=>Zt Z 2 r<|Yo (Y.rem (by decide) r r)<|Qo r<|Nl<|Jg () [0,0]) λf=>Sk<|Jg () [0,0]) λw=>Ne<|Zw Z 6 r<|Ju [0,5,6,7] (λT=>[(8,iv T)]) r1 (Wc r (λg=>Zt Z 2 r<|Yo (Y.rem (by decide) r r)<|Qs 2 r<|Nl<|Jg () [0,0]) λg=>Sk<|Jg () [0,0]) λj=>Ne<|Zt Z 3 r<|Yo (Y.conv8 ki3 ki5 r)<|Fo (Bs [toU8 j] ke22 kz5) λx=>Bi λy k=>Fo (Ap [2] k ke22 kz5 r (Oc 0 r)) λl=>Qo r<|Nl<|Bn<|Ne<|Zt Z 4 r<|Nl<|Lg l [2,0]) λe=>We<|Jg d [0,0]
 exact Ne<|Zt Z 3 r<|Yo (Y.toStr ke22 ki5 ks9 (Oc 1 r) r)<|Qn r<|Wr<|Re () [0]
def ziV (c:A8):Option (List Op × A8):=Bd0 (zC c 4) λl=>bindC (loopO (λ(e:Int × Int × Int × List Op)=>if Dc (e.2.2.1>0)then Bd0 (zkE (⟨c.b,e.1,e.2.1⟩:A8)) λm=>Bd0 (zbp (⟨c.b,m.2.i,m.2.h⟩:A8) (3:Int)) λg=>bindC (if g.1=true then some (.go (g.2.i,g.2.h,true,[]))else Bd0 (zep (⟨c.b,g.2.i,g.2.h⟩:A8) (5:Int)) λn=>some (.go (n.2.i,n.2.h,false,n.1))) (λk=>Bd0 (app 40 e.2.2.2 ([(⟨m.1,k.2.2.1,k.2.2.2⟩:Op)])) λx=>some (.go (k.1,k.2.1,J8 (e.2.2.1 - 1),x)))else some (.done (.go (e.1,e.2.1,e.2.2.2)))) (l.2.i,l.2.h,J8 ((1:Int)+l.1),([]:List Op))) (λa=>Bd0 (zbp (⟨c.b,a.1,a.2.1⟩:A8) (10:Int)) λj=>bindC (if j.1=true then Bd0 (zC (⟨c.b,j.2.i,j.2.h⟩:A8) (a.2.2.length:Int)) λf=>Bd0 (zC (⟨c.b,f.2.i,f.2.h⟩:A8) (4:Int)) λd=>bindC (if Dc (d.1=0)then Bd0 (zcr (⟨c.b,d.2.i,d.2.h⟩:A8) ([[],[97,97,97,97,97,97,97,97,97,97],[97,97,97,97,97,97,97,97,97,97,97]])) λo=>Bd0 (idx a.2.2 f.1) λv=>some (.go (o.2.i,o.2.h,(a.2.2.set f.1.toNat (⟨o.1,v.T,v.Q⟩:Op))))else bindC (if Dc (d.1=1)then Bd0 (zep (⟨c.b,d.2.i,d.2.h⟩:A8) (1:Int)) λp=>Bd0 (cat ([97,97,97,97,97,97,97,97,97,97,97,97,97,97,97,97]) p.1) λy=>Bd0 (idx a.2.2 f.1) λw=>some (.go (p.2.i,p.2.h,(a.2.2.set f.1.toNat (⟨w.q,w.T,y⟩:Op))))else bindC (if Dc (d.1=2)then Bd0 (app 40 a.2.2 a.2.2) λz=>some (.go z)else some (.go ([]:List Op))) (λA=>some (.go (d.2.i,d.2.h,A)))) (λs=>some (.go (s.1,s.2.1,s.2.2)))) (λt=>some (.go (t.1,t.2.1,t.2.2)))else some (.go (j.2.i,j.2.h,a.2.2))) (λu=>some (u.2.2,(⟨c.b,u.1,u.2.1⟩:A8))))
def zs0:Cn Pg 139 [pt U1] [.box U1 92 [U0,iv c.i,iv c.h]] [(U0,lc c.b)] (ziV c) (λ_ (X:Va)=>X) λr X=>[.box U1 92 [U0,iv r.2.i,iv r.2.h],.own X (lc r.1)]:=Ch r λZ=>by
 refine Zt Z 6 r<|Fo (Bs ([]:List Op) ke54 kz164) λl=>Qn r<|Zt Z 4 r<|Cc Z [1] [100] zB r r2 λI J _=>Qs 2 r<|Nx<|Jn Va [0] [] (λ_ X=>[(3,X)]) (λT X=>[.box U1 92 [U0,iv T.1,iv T.2.1],.own X (lc T.2.2)]) r2 r2 (?_) λK a=>?_
 ·refine Wb<|Lp Va [0] [] (λT X=>[(3,X),(4,iv T.2.2.1)]) (λT X=>[.box U1 92 [U0,iv T.1,iv T.2.1],.own X (lc T.2.2.2)]) (.slice (some ⟨l,0,none⟩) 0 0) [0,0] r2 r2 λL m=>Zw Z 6 r<|Wc r (λn=>?_) λn=>?_
  ·exact Sn<|Zt Z 5 r<|Cc Z [0] [100] zvP r r2 λd M _=>Yo (Bd kp164 kz164 (Pc r (Cp r)<|Pz) r)<|Fa kz164 r λo=>Zv Z 1 r<|Nx<|Zt Z 4 r<|Cc Z [1] [100] zbs r r2 λN O _=>Nx<|Jn Unit [0,3,4,5] [2] (λ_ _=>[]) (λT _=>[.box U1 92 [U0,iv T.1,iv T.2.1],.box o 164 [strV d.1,.bool T.2.2.1,strV T.2.2.2]]) r2 r2 (Wc r (λp=>Dt Z 3 [0,1] r<|Nl<|Jg () [2,0,0]) λp=>Zt Z 2 r<|Cc Z [0] [100] zhv r r2 λP R _=>Dv Z 2 [0,1] r<|Nl<|Jg () [2,0,0]) λe S=>Ne<|Dt Z 3 [2] r<|Fo (Bs [(⟨d.1,e.2.2.1,e.2.2.2⟩:Op)] ke54 kz164) λU=>Bi λV s=>Fo (Ap [1] s ke54 kz164 r (Oc 0 r)) λt=>Qo r<|Nl<|Bn<|Ne<|Zt Z 4 r<|Nl<|Lg t [2,0]
  exact We<|Jg m [0,0]
 refine Ne<|Zt Z 4 r<|Cc Z [0] [100] zbs r r2 λW aa _=>Nx<|Jn Va [] [] (λ_ X=>[(3,X)]) (λT X=>[.box U1 92 [U0,iv T.1,iv T.2.1],.own X (lc T.2.2)]) r2 r2 (?_) λab u=>?_
 ·refine Wc r (λv=>?_) λv=>?_
  ·refine Dt Z 5 [1] r<|Cc Z [0] [100] zB r r2 λac ad _=>Qn r<|Zt Z 3 r<|Cc Z [0] [100] zB r r2 λae af _=>Nx<|Zw Z 6 r<|Jn Va [] [] (λ_ X=>[(3,X)]) (λT X=>[.box U1 92 [U0,iv T.1,iv T.2.1],.own X (lc T.2.2)]) r2 r2 (?_) λag w=>?_
   ·exact Wc r (λx=>Zt Z 4 r<|Fo (Bs ([[],[97,97,97,97,97,97,97,97,97,97],[97,97,97,97,97,97,97,97,97,97,97]]:List J3) ke127 kz9) λah=>Cc Z [1] [100,0] zc8 r r2 λy ai _=>Bi λf g=>Vx Z g 2 [2,0,3] r<|Fu (Se (⟨y.1,f.T,f.Q⟩:Op) 2 kk9 g r (Cp r) r)<|Nl<|Jg a [0,1]) λx=>Zw Z 5 r<|Jn Va [] [] (λ_ X=>[(3,X)]) (λT X=>[.box U1 92 [U0,iv T.1,iv T.2.1],.own X (lc T.2.2)]) r2 r2 (Wc r (λz=>Zt Z 4 r<|Cc Z [0] [100] zhv r r2 λaj ak _=>Bi λA B=>Yo (Y.cat B r r)<|Bi λj k=>Vx Z k 2 [1,0,2] r<|Fu (Se (⟨j.q,j.T,A⟩:Op) 1 kk9 k r (Cp r) r)<|Nl<|Jg a [0,0]) λz=>Zw Z 5 r<|Jn Va [] [0] (λ_ X=>[(3,X)]) (λT X=>[.own X (lc T)]) r2 r2 (Wc r (λC=>Zt Z 3 r<|Bi λal D=>Fo (Ap [1] D ke54 kz164 r (Oc 1 r)) λE=>Qo r<|Nl<|Jg E [1,0]) λC=>Rg<|Fo (Bs ([]:List Op) ke54 kz164) λF=>Qo r<|Nl<|Jg (.slice (some ⟨F,0,none⟩) 0 0) [1,0]) λam G=>Jg G [0,0]) λan H=>Jg H [0,0]
   exact Bn<|Jg w [0,0]
  exact Sk<|Jg a [0,0]
 exact Ne<|Zw Z 5 r<|Wr<|Re u [0,0]
def zhw (c:A8):Option (List Op × A8):=Bd0 (zbp c 8) λd=>if d.1=true then Bd0 (ziV (⟨c.b,d.2.i,d.2.h⟩:A8)) λg=>some (g.1,(⟨c.b,g.2.i,g.2.h⟩:A8))else Bd0 (zC (⟨c.b,d.2.i,d.2.h⟩:A8) (2:Int)) λj=>bindC (loopO (λ(a:Int × Int × Int × List Op)=>if Dc (a.2.2.1>0)then Bd0 (zcr (⟨c.b,a.1,a.2.1⟩:A8) ([[97],[98],[97,98],[99],[100]])) λk=>Bd0 (zbp (⟨c.b,k.2.i,k.2.h⟩:A8) (4:Int)) λe=>bindC (if e.1=true then some (.go (e.2.i,e.2.h,true,[]))else Bd0 (zep (⟨c.b,e.2.i,e.2.h⟩:A8) (3:Int)) λl=>some (.go (l.2.i,l.2.h,false,l.1))) (λf=>Bd0 (app 40 a.2.2.2 ([(⟨k.1,f.2.2.1,f.2.2.2⟩:Op)])) λn=>some (.go (f.1,f.2.1,J8 (a.2.2.1 - 1),n)))else some (.done (.go (a.1,a.2.1,a.2.2.2)))) (j.2.i,j.2.h,J8 ((1:Int)+j.1),([]:List Op))) (λm=>some (m.2.2,(⟨c.b,m.1,m.2.1⟩:A8)))
def zrP:Cn Pg 69 [pt U1] [.box U1 92 [U0,iv c.i,iv c.h]] [(U0,lc c.b)] (zhw c) (λ_ (X:Va)=>X) λr X=>[.box U1 92 [U0,iv r.2.i,iv r.2.h],.own X (lc r.1)]:=Ch r λZ=>by
 refine Zt Z 8 r<|Cc Z [0] [100] zbs r r2 λq s _=>Nx<|Wc r (λe=>Zt Z 3 r<|Cc Z [0] [100] zs0 r r2 λt u f=>Qn r<|Wv<|Re f [0,0]) λe=>Sn<|Sr<|Fo (Bs ([]:List Op) ke54 kz164) λg=>Qn r<|Zt Z 4 r<|Cc Z [1] [100] zB r r2 λv w _=>Qs 2 r<|Nx<|Jn Va [] [] (λ_ X=>[(3,X)]) (λT X=>[.box U1 92 [U0,iv T.1,iv T.2.1],.own X (lc T.2.2)]) r2 r2 (?_) λx j=>?_
 ·refine Wb<|Lp Va [0] [] (λT X=>[(3,X),(4,iv T.2.2.1)]) (λT X=>[.box U1 92 [U0,iv T.1,iv T.2.1],.own X (lc T.2.2.2)]) (.slice (some ⟨g,0,none⟩) 0 0) [0,0] r2 r2 λy k=>Zw Z 6 r<|Wc r (λl=>?_) λl=>?_
  ·exact Sn<|Zt Z 5 r<|Fo (Bs ([[97],[98],[97,98],[99],[100]]:List J3) ke127 kz9) λz=>Cc Z [1] [100,0] zc8 r r2 λa A _=>Yo (Bd kp164 kz164 (Pc r (Cp r)<|Pz) r)<|Fa kz164 r λm=>Zv Z 1 r<|Nx<|Zt Z 4 r<|Cc Z [1] [100] zbs r r2 λB C _=>Nx<|Jn Unit [0,3,4,5] [3] (λ_ _=>[]) (λT _=>[.box U1 92 [U0,iv T.1,iv T.2.1],.box m 164 [strV a.1,.bool T.2.2.1,strV T.2.2.2]]) r2 r2 (Wc r (λn=>Dt Z 3 [0,1] r<|Nl<|Jg () [3,0,0]) λn=>Zt Z 2 r<|Cc Z [0] [100] zhv r r2 λD E _=>Dv Z 2 [0,1] r<|Nl<|Jg () [3,0,0]) λd F=>Ne<|Dt Z 3 [2] r<|Fo (Bs [(⟨a.1,d.2.2.1,d.2.2.2⟩:Op)] ke54 kz164) λG=>Bi λH o=>Fo (Ap [1] o ke54 kz164 r (Oc 0 r)) λp=>Qo r<|Nl<|Bn<|Ne<|Zt Z 4 r<|Nl<|Lg p [2,0]
  exact We<|Jg k [0,0]
 exact Ne<|Zw Z 5 r<|Wr<|Re j [0,0]
def ziO (c:A8) (s:J3):Option (J3 × A8):=if Dc ((s.length:Int)=0)then Bd0 (zep c 3) λe=>some (e.1,(⟨c.b,e.2.i,e.2.h⟩:A8))else Bd0 (zC c (s.length:Int)) λd=>Bd0 (zC (⟨c.b,d.2.i,d.2.h⟩:A8) (4:Int)) λa=>if Dc (a.1=0)then Bd0 (ssub s 0 d.1) λj=>Bd0 (ssub s (J8 (d.1+1)) (s.length:Int)) λk=>Bd0 (cat j k) λl=>some (l,(⟨c.b,a.2.i,a.2.h⟩:A8))else if Dc (a.1=1)then Bd0 (ssub s 0 d.1) λm=>Bd0 (ssub s d.1 (s.length:Int)) λn=>Bd0 (zbP (⟨c.b,a.2.i,a.2.h⟩:A8)) λf=>Bd0 (cat m ([toU8 f.1])) λo=>Bd0 (cat o n) λp=>some (p,(⟨c.b,f.2.i,f.2.h⟩:A8))else if Dc (a.1=2)then Bd0 (ssub s 0 d.1) λq=>some (q,(⟨c.b,a.2.i,a.2.h⟩:A8))else Bd0 (ssub s 0 d.1) λt=>Bd0 (sidx s d.1) λu=>Bd0 (ssub s (J8 (d.1+1)) (s.length:Int)) λv=>Bd0 (zC (⟨c.b,a.2.i,a.2.h⟩:A8) (255:Int)) λg=>Bd0 (cat t ([toU8 (ixor .i64 (J8 (u.toNat:Int)) (J8 ((1:Int)+g.1)))])) λw=>Bd0 (cat w v) λx=>some (x,(⟨c.b,g.2.i,g.2.h⟩:A8))
def zsT {s:J3} :Cn Pg 70 [pt U1,strV s] [.box U1 92 [U0,iv c.i,iv c.h]] [(U0,lc c.b)] (ziO c s) (λr (_:Unit)=>strV r.1) λr _=>[.box U1 92 [U0,iv r.2.i,iv r.2.h]]:=Ch r λZ=>by
 refine Zt Z 8 r<|Yo (Y.slen ks9 r)<|Qn r<|Wc r (λa=>Zt Z 3 r<|Cc Z [0] [100] zhv r r2 λC D _=>Qn r<|Wv<|Re () [0]) λa=>Sn<|Zt Z 4 r<|Yo (Y.slen ks9 r)<|Cc Z [0] [100] zB r r2 λE F _=>Qn r<|Zt Z 4 r<|Cc Z [0] [100] zB r r2 λG H _=>Nx<|Zw Z 6 r<|Wc r (λd=>Sq<|Dz 1 [] [] r hMix<|Aq [0,1] r<|Ai λI e=>Ay 2 r (Y.ssub_to e ks9 r r)<|Aq [3,4,5] r<|Ai λJ f=>Ay 6 r (Y.ssub_from f ks9 r r)<|Ai λK g=>Ay 7 r (Y.cat g r r)<|Aq [8] r<|Az<|Ne<|Wr<|Br<|Tr<|Re () [0]) λd=>Zw Z 5 r<|Wc r (λj=>Sq<|Dr [0] [4] r hMix<|Aq [0,1] r<|Ai λL k=>Ay 2 r (Y.ssub_to k ks9 r r)<|Aq [3,9,10] r<|Ai λM l=>Ay 11 r (Y.ssub_from l ks9 r r)<|Ai λm n=>A1 4<|Xe r (Cl [0] zcH n r r1 ⟨(Bc Z.1),⟨⟩⟩) λ_=>Ay 5 r (Y.conv8 ki3 ki5 r)<|A1 6<|Xe r (Bs [toU8 m.1] ke22 kz5) λN=>A1 7<|Xy r (Y.toStr ke22 ki5 ks9 (Oc 0 r) r)<|Ai λO o=>Ay 8 r (Y.cat o r r)<|Ai λP p=>Ay 12 r (Y.cat p r r)<|Aq [13] r<|Az<|Ne<|Wr<|Br<|Tr<|Re () [1]) λj=>Zw Z 5 r<|Wc r (λq=>Zt Z 4 r<|Bi λQ t=>Yo (Y.ssub_to t ks9 r r)<|Qn r<|Wr<|Br<|Tr<|Re () [0]) λq=>Sk<|Bn<|Ne<|Sq<|Dr [0] [8] r hMix<|Aq [0,1] r<|Ai λR u=>?_
 exact Ay 2 r (Y.ssub_to u ks9 r r)<|Aq [3,4] r<|Ai λv w=>Ay 5 r (Y.sidx w ks9 r r)<|Ay 6 r (Y.conv ki5 ki3 r)<|Aq [7,15,16,17] r<|Ai λS x=>Ay 18 r (Y.ssub_from x ks9 r r)<|Ai λy z=>A1 8<|Xe r (Cl [0] zB z r r1 ⟨(Bc Z.1),⟨⟩⟩) λ_=>Aq [9,10] r<|Ay 11 r (Y.conv8 ki3 ki5 r)<|A1 12<|Xe r (Bs [toU8 (ixor .i64 (J8 (v.toNat:Int)) (J8 ((1:Int)+y.1)))] ke22 kz5) λT=>A1 13<|Xy r (Y.toStr ke22 ki5 ks9 (Oc 0 r) r)<|Ai λU A=>Ay 14 r (Y.cat A r r)<|Ai λV B=>Ay 19 r (Y.cat B r r)<|Aq [20] r<|Az<|Ne<|Wr<|Re () [1]
def ziP (c:A8) (secret:J3):Option (At × A8):=Bd0 (zC c 3) λv=>Bd0 (zbY (⟨c.b,v.2.i,v.2.h⟩:A8) ([(0:Int),(0:Int),(0:Int),(0:Int),(0:Int),(1:Int)])) λw=>Bd0 (zbX secret (J8 ((1:Int)+v.1)) w.1) λO=>Bd0 (zC (⟨c.b,w.2.i,w.2.h⟩:A8) (24:Int)) λa=>bindC (if Dc (a.1=0)then some (.go (Dc (a.1=0)))else some (.go (Dc (a.1=1)))) (λP=>bindC (if P=true then Bd0 (zbY (⟨c.b,a.2.i,a.2.h⟩:A8) ([(40:Int),(40:Int),(20:Int),(0:Int),(41:Int)])) λx=>Bd0 (zC (⟨c.b,x.2.i,x.2.h⟩:A8) (250:Int)) λy=>Bd0 (ze4 (toU8 y.1)) λQ=>some (.go (y.2.i,y.2.h,(1:Int),x.1,Q,[],([]:List Op)))else bindC (if Dc (a.1=2)then Bd0 (zbY (⟨c.b,a.2.i,a.2.h⟩:A8) ([(40:Int),(10:Int),(30:Int),(-1:Int),(41:Int)])) λz=>some (.go (z.2.i,z.2.h,(2:Int),z.1,[],[],([]:List Op)))else bindC (if Dc (a.1=3)then Bd0 (zbp (⟨c.b,a.2.i,a.2.h⟩:A8) (2:Int)) λA=>bindC (if A.1=true then some (.go (3:Int))else some (.go (5:Int))) (λR=>some (.go (A.2.i,A.2.h,R,(0:Int),[],[],([]:List Op))))else bindC (if Dc (a.1=4)then Bd0 (zbp (⟨c.b,a.2.i,a.2.h⟩:A8) (4:Int)) λB=>bindC (if B.1=true then some (.go (4:Int))else some (.go (5:Int))) (λS=>some (.go (B.2.i,B.2.h,S,(0:Int),[],[],([]:List Op))))else bindC (if Dc (a.1=5)then some (.go (Dc (a.1=5)))else bindC (if Dc (a.1=6)then some (.go (Dc (a.1=6)))else some (.go (Dc (a.1=7)))) (λT=>some (.go T))) (λU=>bindC (if U=true then Bd0 (zcr (⟨c.b,a.2.i,a.2.h⟩:A8) ([[97],[98],[97,98],[99],[100],[122,122]])) λC=>some (.go (C.2.i,C.2.h,(6:Int),(0:Int),C.1,[],([]:List Op)))else bindC (if Dc (a.1=8)then some (.go (Dc (a.1=8)))else some (.go (Dc (a.1=9)))) (λV=>bindC (if V=true then Bd0 (zcr (⟨c.b,a.2.i,a.2.h⟩:A8) ([[],[97],[98]])) λD=>Bd0 (zcr (⟨c.b,D.2.i,D.2.h⟩:A8) ([[],[99],[98]])) λE=>some (.go (E.2.i,E.2.h,(7:Int),(0:Int),D.1,E.1,([]:List Op)))else bindC (if Dc (a.1=10)then some (.go (a.2.i,a.2.h,(8:Int),(0:Int),[],([]:List Op)))else bindC (if Dc (a.1=11)then Bd0 (zC (⟨c.b,a.2.i,a.2.h⟩:A8) (5:Int)) λF=>some (.go (F.2.i,F.2.h,(9:Int),F.1,[],([]:List Op)))else bindC (if Dc (a.1=12)then some (.go (Dc (a.1=12)))else some (.go (Dc (a.1=13)))) (λW=>bindC (if W=true then Bd0 (zC (⟨c.b,a.2.i,a.2.h⟩:A8) (5:Int)) λG=>Bd0 (zcr (⟨c.b,G.2.i,G.2.h⟩:A8) ([[97],[98],[97,98],[99]])) λH=>some (.go (H.2.i,H.2.h,(10:Int),G.1,H.1,([]:List Op)))else bindC (if Dc (a.1=14)then some (.go (a.2.i,a.2.h,(11:Int),(0:Int),([]:List Op)))else bindC (if Dc (a.1=15)then some (.go (a.2.i,a.2.h,(12:Int),(0:Int),([]:List Op)))else bindC (if Dc (a.1=16)then some (.go (a.2.i,a.2.h,(13:Int),(0:Int),([]:List Op)))else bindC (if Dc (a.1=17)then Bd0 (zbY (⟨c.b,a.2.i,a.2.h⟩:A8) ([(0:Int),(0:Int),(1:Int),(2:Int),(9:Int),(-1:Int)])) λI=>some (.go (I.2.i,I.2.h,(14:Int),I.1,([]:List Op)))else Bd0 (zhw (⟨c.b,a.2.i,a.2.h⟩:A8)) λJ=>some (.go (J.2.i,J.2.h,(5:Int),(0:Int),J.1))) (λo=>some (.go (o.1,o.2.1,o.2.2.1,o.2.2.2.1,o.2.2.2.2)))) (λp=>some (.go (p.1,p.2.1,p.2.2.1,p.2.2.2.1,p.2.2.2.2)))) (λq=>some (.go (q.1,q.2.1,q.2.2.1,q.2.2.2.1,q.2.2.2.2)))) (λs=>some (.go (s.1,s.2.1,s.2.2.1,s.2.2.2.1,[],s.2.2.2.2)))) (λl=>some (.go (l.1,l.2.1,l.2.2.1,l.2.2.2.1,l.2.2.2.2.1,l.2.2.2.2.2))))) (λm=>some (.go (m.1,m.2.1,m.2.2.1,m.2.2.2.1,m.2.2.2.2.1,m.2.2.2.2.2)))) (λn=>some (.go (n.1,n.2.1,n.2.2.1,n.2.2.2.1,n.2.2.2.2.1,[],n.2.2.2.2.2)))) (λd=>some (.go (d.1,d.2.1,d.2.2.1,d.2.2.2.1,d.2.2.2.2.1,d.2.2.2.2.2.1,d.2.2.2.2.2.2))))) (λe=>some (.go (e.1,e.2.1,e.2.2.1,e.2.2.2.1,e.2.2.2.2.1,e.2.2.2.2.2.1,e.2.2.2.2.2.2))))) (λf=>some (.go (f.1,f.2.1,f.2.2.1,f.2.2.2.1,f.2.2.2.2.1,f.2.2.2.2.2.1,f.2.2.2.2.2.2)))) (λg=>some (.go (g.1,g.2.1,g.2.2.1,g.2.2.2.1,g.2.2.2.2.1,g.2.2.2.2.2.1,g.2.2.2.2.2.2)))) (λj=>some (.go (j.1,j.2.1,j.2.2.1,j.2.2.2.1,j.2.2.2.2.1,j.2.2.2.2.2.1,j.2.2.2.2.2.2)))) (λk=>Bd0 (zbp (⟨c.b,k.1,k.2.1⟩:A8) (30:Int)) λt=>bindC (if t.1=true then Bd0 (zbY (⟨c.b,t.2.i,t.2.h⟩:A8) ([(0:Int),(15:Int)])) λK=>some (.go (K.2.i,K.2.h,K.1))else some (.go (t.2.i,t.2.h,k.2.2.1))) (λL=>Bd0 (zbp (⟨c.b,L.1,L.2.1⟩:A8) (25:Int)) λu=>bindC (if u.1=true then Bd0 (ziO (⟨c.b,u.2.i,u.2.h⟩:A8) O) λM=>some (.go (M.1,M.2.i,M.2.h))else some (.go (O,u.2.i,u.2.h))) (λN=>some ((⟨L.2.2,N.1,J8 ((1:Int)+v.1),k.2.2.2.1,k.2.2.2.2.1,k.2.2.2.2.2.1,k.2.2.2.2.2.2⟩:At),(⟨c.b,N.2.1,N.2.2⟩:A8))))))
def zsU:Cn Pg 37 [pt U1,strV secret] [.box U1 92 [U0,iv c.i,iv c.h]] [(U0,lc c.b)] (ziP c secret) (λr (X:Va)=>.agg #[iv r.1.B,strV r.1.U,iv r.1.r,iv r.1.N,strV r.1.q,strV r.1.Z,X]) λr X=>[.box U1 92 [U0,iv r.2.i,iv r.2.h],.own X (lc r.1.R)]:=Ch r λZ=>by
 refine Sr<|Fa kz56 r λB1=>Nx<|Zt Z 3 r<|Cc Z [1] [100] zB r r2 λa H3 _=>Qs 2 r<|Nx<|Zt Z 5 r<|Fo (Bs [(0:Int),(0:Int),(0:Int),(0:Int),(0:Int),(1:Int)] ke49 kz3) λB5=>Cc Z [1] [100,0] zcW r r2 λR6 H7 _=>Cc Z [] [] zcT r r2 λe ad _=>Qo r<|Yo (Bd kp56 kz56 (Pc r (Cp r)<|Pc r (Cp r)<|Pc r (Cp r)<|Pz) r)<|Fa kz56 r λd=>Zv Z 1 r<|Nx<|Zt Z 4 r<|Cc Z [1] [100] zB r r2 λae af _=>Nx<|Zw Z 7 r<|Jn Unit [0,4,6,19] [0,2,0] (λT _=>[(23,.bool T)]) (λ_ _=>[]) r2 r2 (Wc r (λj=>Sk<|Jg () [0,2,0]) λj=>Zt Z 3 r<|Nl<|Jg () [0,2,0]) λag ah=>Ne<|Jn Va [0,4,6] [1] (λ_ _=>[]) (λT X=>[.box U1 92 [U0,iv T.1,iv T.2.1],.box d 56 [iv T.2.2.1,strV e,iv (J8 ((1:Int)+a.1)),iv T.2.2.2.1,strV T.2.2.2.2.1,strV T.2.2.2.2.2.1,X],.own X (lc T.2.2.2.2.2.2)]) r2 r2 (?_) λf g=>?_
 ·refine Wc r (λk=>Dt Z 8 [0,2] r<|Fo (Bs [(40:Int),(40:Int),(20:Int),(0:Int),(41:Int)] ke49 kz3) λai=>Cc Z [1] [100,0] zcW r r2 λaj ak _=>Dv Z 2 [0,3] r<|Nx<|Zt Z 2 r<|Cc Z [0] [100] zB r r2 λal am _=>Yo (Y.conv8 ki3 ki5 r)<|Cc Z [] [] zgS r r2 λan ao _=>Dv Z 2 [0,3] r<|Nl<|Ni 3<|Jg J7 [3,1,2,0]) λk=>Zw Z 5 r<|Jn Va [0,4,6] [1] (λ_ _=>[]) (λT X=>[.box U1 92 [U0,iv T.1,iv T.2.1],.box d 56 [iv T.2.2.1,strV e,iv (J8 ((1:Int)+a.1)),iv T.2.2.2.1,strV T.2.2.2.2.1,strV T.2.2.2.2.2.1,X],.own X (lc T.2.2.2.2.2.2)]) r2 r2 (?_) λap l=>?_
  ·refine Wc r (λm=>Dt Z 7 [0,2] r<|Fo (Bs [(40:Int),(10:Int),(30:Int),(-1:Int),(41:Int)] ke49 kz3) λaq=>Cc Z [1] [100,0] zcW r r2 λar au _=>Dv Z 2 [0,3] r<|Nl<|Ni 3<|Jg J7 [3,1,2,0]) λm=>Zw Z 5 r<|Jn Va [0,4,6] [1] (λ_ _=>[]) (λT X=>[.box U1 92 [U0,iv T.1,iv T.2.1],.box d 56 [iv T.2.2.1,strV e,iv (J8 ((1:Int)+a.1)),iv T.2.2.2.1,strV T.2.2.2.2.1,strV T.2.2.2.2.2.1,X],.own X (lc T.2.2.2.2.2.2)]) r2 r2 (?_) λav n=>?_
   ·refine Wc r (λo=>Zt Z 3 r<|Cc Z [0] [100] zbs r r2 λaw ax _=>Nx<|Jn Unit [0,4,6] [0,0] (λ_ _=>[]) (λT _=>[.box d 56 [iv T,strV e,iv (J8 ((1:Int)+a.1)),iv 0,strV ([]),strV ([]),J7]]) r2 r2 (Wc r (λp=>Dt Z 3 [0,2] r<|Nl<|Jg () [0,0,0]) λp=>Sk<|Jg () [0,0,0]) λay az=>Ni 3<|Jg J7 [2,1,1,0]) λo=>Zw Z 5 r<|Jn Va [0,4,6] [1] (λ_ _=>[]) (λT X=>[.box U1 92 [U0,iv T.1,iv T.2.1],.box d 56 [iv T.2.2.1,strV e,iv (J8 ((1:Int)+a.1)),iv T.2.2.2.1,strV T.2.2.2.2.1,strV T.2.2.2.2.2.1,X],.own X (lc T.2.2.2.2.2.2)]) r2 r2 (?_) λaA s=>?_
    ·refine Wc r (λt=>Zt Z 3 r<|Cc Z [0] [100] zbs r r2 λaB aC _=>Nx<|Jn Unit [0,4,6] [0,0] (λ_ _=>[]) (λT _=>[.box d 56 [iv T,strV e,iv (J8 ((1:Int)+a.1)),iv 0,strV ([]),strV ([]),J7]]) r2 r2 (Wc r (λu=>Dt Z 3 [0,2] r<|Nl<|Jg () [0,0,0]) λu=>Sk<|Jg () [0,0,0]) λaD aE=>Ni 3<|Jg J7 [2,1,1,0]) λt=>Zw Z 6 r<|Ju [0,4,6,19] (λT=>[(53,.bool T)]) r1 (Wc r (λv=>Sk<|Jg () [0,0,0]) λv=>Zw Z 5 r<|Ju [0,4,6,19] (λT=>[(53,.bool T)]) r1 (Wc r (λw=>Sk<|Jg () [0,0,0]) λw=>Zt Z 3 r<|Nl<|Jg () [0,0,0]) λaF=>Jg () [0,0,0]) λaG=>Ne<|Jn Va [0,4,6] [1] (λ_ _=>[]) (λT X=>[.box U1 92 [U0,iv T.1,iv T.2.1],.box d 56 [iv T.2.2.1,strV e,iv (J8 ((1:Int)+a.1)),iv T.2.2.2.1,strV T.2.2.2.2.1,strV T.2.2.2.2.2.1,X],.own X (lc T.2.2.2.2.2.2)]) r2 r2 (?_) λaH x=>?_
     ·refine Wc r (λy=>Dt Z 7 [0,2] r<|Fo (Bs ([[97],[98],[97,98],[99],[100],[122,122]]:List J3) ke127 kz9) λaI=>Cc Z [1] [100,0] zc8 r r2 λaJ aK _=>Dv Z 2 [0,3] r<|Nl<|Ni 3<|Jg J7 [3,1,2,0]) λy=>Zw Z 6 r<|Ju [0,4,6,19] (λT=>[(62,.bool T)]) r1 (Wc r (λz=>Sk<|Jg () [0,0,0]) λz=>Zt Z 3 r<|Nl<|Jg () [0,0,0]) λaL=>Ne<|Jn Va [0,4,6] [1] (λ_ _=>[]) (λT X=>[.box U1 92 [U0,iv T.1,iv T.2.1],.box d 56 [iv T.2.2.1,strV e,iv (J8 ((1:Int)+a.1)),iv T.2.2.2.1,strV T.2.2.2.2.1,strV T.2.2.2.2.2.1,X],.own X (lc T.2.2.2.2.2.2)]) r2 r2 (?_) λaM A=>?_
      ·refine Wc r (λC=>Dt Z 8 [0,2] r<|Fo (Bs ([[],[97],[98]]:List J3) ke127 kz9) λaN=>Cc Z [1] [100,0] zc8 r r2 λaO aP _=>Dv Z 2 [0,3] r<|Nx<|Zt Z 2 r<|Fo (Bs ([[],[99],[98]]:List J3) ke127 kz9) λaQ=>Cc Z [1] [100,0] zc8 r r2 λaR aS _=>Dv Z 2 [0,4] r<|Nl<|Ni 3<|Jg J7 [4,1,3,0]) λC=>Zw Z 5 r<|Jn Va [0,4,6] [1] (λ_ _=>[]) (λT X=>[.box U1 92 [U0,iv T.1,iv T.2.1],.box d 56 [iv T.2.2.1,strV e,iv (J8 ((1:Int)+a.1)),iv T.2.2.2.1,strV T.2.2.2.2.1,strV ([]),X],.own X (lc T.2.2.2.2.2)]) r2 r2 (?_) λaT D=>?_
       ·refine Wc r (λE=>Dt Z 3 [0,2] r<|Nl<|Ni 3<|Jg J7 [2,1,1,0]) λE=>Zw Z 5 r<|Jn Va [0,4,6] [1] (λ_ _=>[]) (λT X=>[.box U1 92 [U0,iv T.1,iv T.2.1],.box d 56 [iv T.2.2.1,strV e,iv (J8 ((1:Int)+a.1)),iv T.2.2.2.1,strV T.2.2.2.2.1,strV ([]),X],.own X (lc T.2.2.2.2.2)]) r2 r2 (?_) λaU F=>?_
        ·refine Wc r (λG=>Dt Z 7 [0,2] r<|Cc Z [0] [100] zB r r2 λaV aW _=>Dv Z 2 [0,2] r<|Nl<|Ni 3<|Jg J7 [2,1,1,0]) λG=>Zw Z 6 r<|Ju [0,4,6,19] (λT=>[(83,.bool T)]) r1 (Wc r (λH=>Sk<|Jg () [0,0,0]) λH=>Zt Z 3 r<|Nl<|Jg () [0,0,0]) λaX=>Ne<|Jn Va [0,4,6] [1] (λ_ _=>[]) (λT X=>[.box U1 92 [U0,iv T.1,iv T.2.1],.box d 56 [iv T.2.2.1,strV e,iv (J8 ((1:Int)+a.1)),iv T.2.2.2.1,strV T.2.2.2.2.1,strV ([]),X],.own X (lc T.2.2.2.2.2)]) r2 r2 (?_) λaY I=>?_
         ·refine Wc r (λJ=>Dt Z 8 [0,2] r<|Cc Z [0] [100] zB r r2 λaZ a0 _=>Dv Z 2 [0,2] r<|Nx<|Zt Z 2 r<|Fo (Bs ([[97],[98],[97,98],[99]]:List J3) ke127 kz9) λa1=>Cc Z [1] [100,0] zc8 r r2 λa2 a3 _=>Dv Z 2 [0,3] r<|Nl<|Ni 3<|Jg J7 [3,1,2,0]) λJ=>Zw Z 5 r<|Jn Va [0,4,6] [1] (λ_ _=>[]) (λT X=>[.box U1 92 [U0,iv T.1,iv T.2.1],.box d 56 [iv T.2.2.1,strV e,iv (J8 ((1:Int)+a.1)),iv T.2.2.2.1,strV ([]),strV ([]),X],.own X (lc T.2.2.2.2)]) r2 r2 (?_) λa4 K=>?_
          ·refine Wc r (λL=>Dt Z 3 [0,2] r<|Nl<|Ni 3<|Jg J7 [2,1,1,0]) λL=>Zw Z 5 r<|Jn Va [0,4,6] [1] (λ_ _=>[]) (λT X=>[.box U1 92 [U0,iv T.1,iv T.2.1],.box d 56 [iv T.2.2.1,strV e,iv (J8 ((1:Int)+a.1)),iv T.2.2.2.1,strV ([]),strV ([]),X],.own X (lc T.2.2.2.2)]) r2 r2 (?_) λa5 M=>?_
           ·refine Wc r (λO=>Dt Z 3 [0,2] r<|Nl<|Ni 3<|Jg J7 [2,1,1,0]) λO=>Zw Z 5 r<|Jn Va [0,4,6] [1] (λ_ _=>[]) (λT X=>[.box U1 92 [U0,iv T.1,iv T.2.1],.box d 56 [iv T.2.2.1,strV e,iv (J8 ((1:Int)+a.1)),iv T.2.2.2.1,strV ([]),strV ([]),X],.own X (lc T.2.2.2.2)]) r2 r2 (?_) λa6 P=>?_
            ·exact Wc r (λQ=>Dt Z 3 [0,2] r<|Nl<|Ni 3<|Jg J7 [2,1,1,0]) λQ=>Zw Z 5 r<|Jn Va [0,4,6] [1] (λ_ _=>[]) (λT X=>[.box U1 92 [U0,iv T.1,iv T.2.1],.box d 56 [iv T.2.2.1,strV e,iv (J8 ((1:Int)+a.1)),iv T.2.2.2.1,strV ([]),strV ([]),X],.own X (lc T.2.2.2.2)]) r2 r2 (Wc r (λS=>Dt Z 7 [0,2] r<|Fo (Bs [(0:Int),(0:Int),(1:Int),(2:Int),(9:Int),(-1:Int)] ke49 kz3) λa7=>Cc Z [1] [100,0] zcW r r2 λa8 a9 _=>Dv Z 2 [0,3] r<|Nl<|Ni 3<|Jg J7 [3,1,2,0]) λS=>Zt Z 2 r<|Cc Z [0] [100] zrP r r2 λba bb V=>Dv Z 2 [0,3,2] r<|Nl<|Jg V [2,0,1,0]) λbc W=>Jg W [0,0,0,0]
            exact Jg P [0,0,0,0]
           exact Jg M [0,0,0,0]
          exact Jg K [0,0,0,0]
         exact Jg I [0,0,0,0]
        exact Jg F [0,0,0,0]
       exact Jg D [0,0,0,0]
      exact Jg A [0,0,0,0]
     exact Jg x [0,0,0,0]
    exact Jg s [0,0,0,0]
   exact Jg n [0,0,0,0]
  exact Jg l [0,0,0,0]
 exact Bn<|Ne<|Zt Z 4 r<|Cc Z [1] [100] zbs r r2 λbd bf _=>Nx<|Jn Unit [0,4,6] [1,2] (λ_ _=>[]) (λT _=>[.box U1 92 [U0,iv T.1,iv T.2.1],.box d 56 [iv T.2.2,strV e,iv (J8 ((1:Int)+a.1)),iv f.2.2.2.1,strV f.2.2.2.2.1,strV f.2.2.2.2.2.1,g]]) r2 r2 (Wc r (λaa=>Zt Z 2 r<|Fo (Bs [(0:Int),(15:Int)] ke49 kz3) λbg=>Cc Z [1] [100,0] zcW r r2 λbh bi _=>Dv Z 2 [0,3] r<|Nl<|Jg () [2,3,0,1]) λaa=>Sk<|Jg () [1,2,0,0]) λab bj=>Ne<|Zt Z 4 r<|Cc Z [2] [100] zbs r r2 λbk bl _=>Nx<|Jn Unit [4,6] [1,1] (λ_ _=>[]) (λT _=>[.box d 56 [iv ab.2.2,strV T.1,iv (J8 ((1:Int)+a.1)),iv f.2.2.2.1,strV f.2.2.2.2.1,strV f.2.2.2.2.2.1,g],.box U1 92 [U0,iv T.2.1,iv T.2.2]]) r2 r2 (Wc r (λac=>Dt Z 4 [0,3] r<|Cc Z [0] [100] zsT r r2 λbm bn _=>Dv Z 2 [0,3] r<|Nl<|Jg () [1,1,1,0]) λac=>Sk<|Jg () [1,1,1,0]) λbo bp=>Ne<|Dw Z 5 [2,0,999,0,0,0,0,0,0,2] r<|Wr<|Rj g [3,1] [0] r
def zjW (c:A8) (secret:J3) (most:Int):Option (List At × A8):=bindC (loopO (λ(a:Int × Int × Int × List At)=>if Dc (a.2.2.1<=2)then Bd0 (zbp (⟨c.b,a.1,a.2.1⟩:A8) (8:Int)) λg=>bindC (if !g.1 then Bd0 (ze4 (toU8 a.2.2.1)) λp=>Bd0 (app 96 a.2.2.2 ([(⟨1,[],a.2.2.1,40,p,[],[]⟩:At)])) λq=>some (.go q)else some (.go a.2.2.2)) (λs=>some (.go (g.2.i,g.2.h,J8 (a.2.2.1+1),s)))else some (.done (.go (a.1,a.2.1,a.2.2.2)))) (c.i,c.h,(1:Int),([]:List At))) (λj=>Bd0 (zC (⟨c.b,j.1,j.2.1⟩:A8) most) λk=>bindC (loopO (λ(d:Int × Int × Int × List At)=>if Dc (d.2.2.1>0)then Bd0 (ziP (⟨c.b,d.1,d.2.1⟩:A8) secret) λl=>Bd0 (app 96 d.2.2.2 ([l.1])) λt=>some (.go (l.2.i,l.2.h,J8 (d.2.2.1 - 1),t))else some (.done (.go (d.1,d.2.1,d.2.2.2)))) (k.2.i,k.2.h,k.1,j.2.2)) (λf=>Bd0 (zbp (⟨c.b,f.1,f.2.1⟩:A8) (60:Int)) λe=>bindC (if e.1=true then Bd0 (zC (⟨c.b,e.2.i,e.2.h⟩:A8) (2:Int)) λm=>bindC (loopO (λ(n:List At)=>if Dc ((n.length:Int)<J8 ((120:Int)+m.1))then Bd0 (app 96 n ([(⟨12,[],0,0,[],[],[]⟩:At)])) λu=>some (.go u)else some (.done (.go n))) f.2.2) (λv=>some (.go (m.2.i,m.2.h,v)))else some (.go (e.2.i,e.2.h,f.2.2))) (λo=>some (o.2.2,(⟨c.b,o.1,o.2.1⟩:A8)))))
def zrQ:Cn Pg 17 [pt U1,strV secret,iv most] [.box U1 92 [U0,iv c.i,iv c.h]] [(U0,lc c.b)] (zjW c secret most) (λ_ (X:Va)=>X) λr X=>[.box U1 92 [U0,iv r.2.i,iv r.2.h],.own X (lc r.1)]:=Ch r λZ=>by
 refine Zt Z 6 r<|Fo (Bk [] ke24 kz56 r (Qz)) λj=>Kt (Ha [0] ([]:List At) r Cz)<|Qn r<|Zw Z 5 r<|Jn Va [0,1,2] [] (λ_ X=>[(7,X)]) (λT X=>[.box U1 92 [U0,iv T.1,iv T.2.1],.own X (lc T.2.2)]) r2 r2 (?_) λF k=>?_
 ·refine Wb<|Lp Va [0,1,2] [] (λT X=>[(7,X),(8,iv T.2.2.1)]) (λT X=>[.box U1 92 [U0,iv T.1,iv T.2.1],.own X (lc T.2.2.2)]) (.slice (some ⟨j,0,none⟩) 0 0) [1,0] r2 r2 λd e=>Zw Z 6 r<|Wc r (λl=>?_) λl=>?_
  ·refine Sn<|Zt Z 5 r<|Cc Z [0] [100] zbs r r2 λG H _=>Qn r<|Jn Va [0,1,2,8] [0] (λ_ X=>[(7,X)]) (λT X=>[.own X (lc T)]) r2 r2 (?_) λI m=>?_
   ·exact Wc r (λn=>Zt Z 4 r<|Yo (Y.conv8 ki3 ki5 r)<|Cc Z [] [] zgS r r2 λf J _=>Yo (Bd kp56 kz56 (Pc r (Cp r)<|Pc r (Cp r)<|Pc r (Cp r)<|Pc r (Cp r)<|Pz) r)<|Fo (Bk [ic 1,.str ([]),ic d.2.2.1,ic 40,.str f,.str ([]),.raw J7] ke24 kz56 r (Qc (Cp r)<|Qz)) λK=>No 3<|Kt (Ha [1,0] ([(⟨1,[],d.2.2.1,40,f,[],[]⟩:At)]:List At) r (Ck (Ck (Ck (Ck (Ck (Ck (Cf Cz))))))))<|Bi λL o=>Fo (Aw [2,0] o ke24 kz56 r) λp=>Qo r<|Nl<|Jg p [1,0]) λn=>Sk<|Jg e [0,0]
   exact Bn<|Ne<|Zt Z 4 r<|Nl<|Lg m [0,0]
  exact We<|Jg e [0,0]
 refine Ne<|Zt Z 5 r<|Cc Z [0] [100] zB r r2 λM O _=>Qn r<|Jn Va [0] [] (λ_ X=>[(7,X)]) (λT X=>[.box U1 92 [U0,iv T.1,iv T.2.1],.own X (lc T.2.2)]) r2 r2 (?_) λP g=>?_
 ·exact Wb<|Lp Va [0,1] [] (λT X=>[(7,X),(9,iv T.2.2.1)]) (λT X=>[.box U1 92 [U0,iv T.1,iv T.2.1],.own X (lc T.2.2.2)]) k [0,0] r2 r2 λQ s=>Zw Z 6 r<|Wc r (λt=>Sn<|Zt Z 6 r<|Cc Z [0] [100] zsU r r2 λa R u=>Fo (Bk [ic a.1.B,.str a.1.U,ic a.1.r,ic a.1.N,.str a.1.q,.str a.1.Z,.raw u] ke24 kz56 r (Qc (Ca ⟨Op',Op',Op',Op',Op',Op',Ow' 1,⟨⟩⟩)<|Qz)) λS=>Kt (Ha [0,1] ([a.1]:List At) r (Ck (Ck (Ck (Ck (Ck (Ck (Cf Cz))))))))<|Bi λV v=>Fo (Aw [2,0] v ke24 kz56 r) λw=>Qo r<|Nl<|Bn<|Ne<|Zt Z 4 r<|Nl<|Lg w [1,0]) λt=>We<|Jg s [0,0]
 refine Ne<|Zt Z 4 r<|Cc Z [0] [100] zbs r r2 λW aa _=>Nx<|Jn Va [] [] (λ_ X=>[(7,X)]) (λT X=>[.box U1 92 [U0,iv T.1,iv T.2.1],.own X (lc T.2.2)]) r2 r2 (?_) λab x=>?_
 ·refine Wc r (λy=>?_) λy=>?_
  ·refine Zt Z 3 r<|Cc Z [0] [100] zB r r2 λac ad _=>Qs 2 r<|Nx<|Jn Va [] [0] (λ_ X=>[(7,X)]) (λT X=>[.own X (lc T)]) r2 r2 (?_) λae z=>?_
   ·exact Wb<|Lp Va [10] [0] (λ_ X=>[(7,X)]) (λT X=>[.own X (lc T)]) g [0,0] r2 r2 λaf A=>Dw Z 8 [1] r<|Wc r (λC=>Sn<|Zt Z 3 r<|Yo (Bd kp56 kz56 (Pc r (Cp r)<|Pz) r)<|Fo (Bk [ic 12,.str ([]),ic 0,ic 0,.str ([]),.str ([]),.raw J7] ke24 kz56 r (Qc (Cp r)<|Qz)) λag=>No 3<|Kt (Ha [1,0] ([(⟨12,[],0,0,[],[],[]⟩:At)]:List At) r (Ck (Ck (Ck (Ck (Ck (Ck (Cf Cz))))))))<|Bi λah D=>Fo (Aw [2,0] D ke24 kz56 r) λE=>Qo r<|Nl<|Bn<|Lg E [1,0]) λC=>We<|Jg A [0,0]
   exact Jg z [0,0]
  exact Sk<|Jg g [0,0]
 exact Ne<|Zw Z 5 r<|Wr<|Re x [0,0]
def zee (code:J3):Option (J3 × J3 × Int × List At):=Bd0 (zkA code) λe=>Bd0 (ze4 (115:UInt8)) λf=>Bd0 (ze4 (109:UInt8)) λg=>Bd0 (zbp (⟨code,e.i,e.h⟩:A8) (30:Int)) λa=>bindC (if a.1=true then Bd0 (zkD (⟨code,a.2.i,a.2.h⟩:A8)) λb=>some (.go (b.2.i,b.2.h,b.1))else some (.go (a.2.i,a.2.h,g))) (λc=>Bd0 (zbY (⟨code,c.1,c.2.1⟩:A8) ([(100:Int),(100:Int),(12:Int),(20:Int),(1001:Int)])) λd=>Bd0 (zjx code 36) λj=>Bd0 (zjW (⟨code,d.2.i,d.2.h⟩:A8) f j) λk=>some (f,c.2.2,d.1,k.1))
def znI:Cn Pg 5 [U0] [] [(U0,lc code)] (zee code) (λr (X:Va)=>.tuple #[strV r.1,strV r.2.1,iv r.2.2.1,X]) λr X=>[.own X (lc r.2.2.2)]:=Ch r λZ=>Zt Z 10 r<|Cc Z [] [100] zvL r r2 λd e a=>Qn r<|Sr<|Cc Z [] [] zgS r r2 λf g _=>Qn r<|Sr<|Cc Z [] [] zgS r r2 λh i _=>Qn r<|Zt Z 4 r<|Cc Z [0] [100] zbs r r2 λj k _=>Nx<|Jn Unit [0,6,7] [] (λT _=>[(8,strV T.2.2)]) (λT _=>[.box a 92 [U0,iv T.1,iv T.2.1]]) r2 r2 (Wc r (λb=>Zt Z 2 r<|Cc Z [0] [100] zvO r r2 λl m _=>Qo r<|Nl<|Jg () [0]) λb=>Sk<|Jg () [0]) λn o=>Ne<|Zt Z 3 r<|Fo (Bs [(100:Int),(100:Int),(12:Int),(20:Int),(1001:Int)] ke49 kz3) λp=>Cc Z [1] [100,0] zcW r r2 λq s _=>Qn r<|Zt Z 8 r<|Cc Z [] [100] zux r r2 λt u _=>Cc Z [0] [100] zrQ r r2 λv w c=>Qs 4 r<|Nx<|Wr<|Re c [1]
def zy (n h most:Int):Option Bool:=Bd0 (if Dc (n>=h)then some (Dc (n<=most))else some false) (λa=>some a)
def zw {h:Int} :Kb 38 [iv n,iv h,iv most] [] [] (zy n h most):=Ch r λZ=>Zw Z 5 r<|Jv [] (λT=>[(6,.bool T)]) r1 (Zt Z 5 r<|It (λa=>Vg Z a 5 [] r<|Nl<|Bv) λa=>Vg Z a 5 [] r<|Nl<|Bv) λb=>Ne<|Wr<|Rq
def zhm (secret master:J3) (size:Int):Option (Af × Bool):=Bd0 (if !(Dc ((secret.length:Int)=32))then some true else if !(Dc ((master.length:Int)=32))then some true else Bd0 (zy size 0 1000) λa=>some (!a)) (λb=>if b=true then some ((⟨[],⟨[],[],0⟩,⟨0,[]⟩,[],[],[],0⟩:Af),false)else some ((⟨secret,⟨master,[],0⟩,⟨size,[]⟩,[],[],[],0⟩:Af),true))
def zq8 {master:J3} {size:Int} :Cn Pg 19 [strV secret,strV master,iv size] [] [] (zhm secret master size) (λr (X:Va × Va × Va × Va × Va)=>.tuple #[.agg #[strV r.1.E,strV r.1.A.S,X.1,iv r.1.A.L,iv r.1.s.K,X.2.1,X.2.2.1,X.2.2.2.1,X.2.2.2.2,iv r.1.H],.bool r.2]) λr X=>[.own X.1 (lc r.1.A.J),.own X.2.1 (lc r.1.s.t),.own X.2.2.1 (lc r.1.a),.own X.2.2.2.1 (lc r.1.x),.own X.2.2.2.2 (lc r.1.P)]:=Ch r λZ=>Sr<|Fa kz36 r λf=>Qn r<|Sq<|Sq<|Jv [0,1,2,6] (λT=>[(20,.bool T)]) r1 (Zt Z 2 r<|Yo (Y.slen ks9 r)<|Qs 2 r<|It (λb=>Vg Z b 5 [] r<|Of 3 r r r<|Yo (Pt r r)<|Nl<|Bg () [0]) λb=>Vg Z b 1 [] r<|Yg (gdA (zj b)) (Y.slen ks9 r)<|Vg Z b 3 [] r<|It (λc=>Vg Z c 4 [] r<|Nl<|Bg () [0]) λc=>Vg Z c 1 [] r<|Bi λg d=>Fg (gdA (zj c)) (Cl [] zw d r r1) λ_=>Vg Z c 2 [] r<|Nl<|Bg () [0]) λh=>Ne<|Wc r (λe=>Sr<|Yo (Bd kp36 kz36 (Pz) r)<|Zv Z 2 r<|Nx<|Wv<|Ni 2<|Ni 2<|Ni 7<|Ni 5<|Ni 5<|Rj (J7,J7,J7,J7,J7) [4,3,2,1,0] [5] r) λe=>Sn<|Zt Z 4 r<|Yo (Bd kp29 kz29 (Pc r (Cp r)<|Pz) r)<|Qo r<|Yo (Bd kp32 kz32 (Pc r (Cp r)<|Pz) r)<|Yo (Bd kp36 kz36 (Pc r (Cp r)<|Pc r (Cp r)<|Pc r (Cp r)<|Pz) r)<|Zv Z 2 r<|Nx<|Wr<|Ni 2<|Ni 2<|Ni 7<|Ni 5<|Ni 5<|Rj (J7,J7,J7,J7,J7) [4,3,2,1,0] [5] r
def zbz (n:Int):Option Bool:=Bd0 (zy n 1 99) λa=>some a
def zd8:Kb 71 [iv n] [] [] (zbz n):=Ch r λZ=>Zt Z 7 r<|Cc Z [] [] zw r r2 λa b _=>Qn r<|Wr<|Rq
def zdw (n:Int):Option Bool:=Bd0 (zy n 0 40) λa=>some a
def zgG:Kb 72 [iv n] [] [] (zdw n):=Ch r λZ=>Zt Z 7 r<|Cc Z [] [] zw r r2 λa b _=>Qn r<|Wr<|Rq
def zii (t:Ar) (c0_:Int):Option Bool:=some (Dc (t.j=c0_))
def zpE {t:Ar} {c0_:Int} {U1:Va} {U3:Nat} :Cn Pg 142 [.agg #[iv t.j,iv t.I,iv t.F,U0,U1,iv t.m.c,U2],pt U3] [.box U3 3 [iv c0_]] [(U0,lc t.m.G),(U1,lc t.m.D),(U2,lc t.m.u)] (zii t c0_) (λr (_:Unit)=>.bool r) λ_ _=>[.box U3 3 [iv c0_]]:=Ch r λZ=>Sr<|Fo (Bx r (Ca ⟨Op',Op',Op',Ob Z.1,Ob Z.2.1,Op',Ob Z.2.2.1,⟨⟩⟩)) λa=>Qn r<|Dw Z 8 [0,0,1] r<|Wr<|Re () [1]
def zbv (s:List Ar) (f_c0:Int):Option Int:=bindC (loopO (λ(S1:Int)=>if Dc (S1<(s.length:Int))then Bd0 (idx s S1) λa=>Bd0 (zii a f_c0) λb=>if b=true then some (.done (.done S1))else some (.go (J8 (S1+1)))else some (.done (.go ()))) (0:Int)) (λc=>some (-1:Int))
def zeu {s:List Ar} {f_c0:Int} :Cn Pg 141 [U0,.func (.func 142) #[] #[pt U1]] [.box U1 3 [iv f_c0]] [(U0,lc s)] (zbv s f_c0) (λr (_:Unit)=>iv r) λ_ _=>[.box U1 3 [iv f_c0]]:=Ch r λZ=>Dw Z 11 [100] r<|Ju [] (λ_=>[]) r1 (Wb<|Lu [0,1,7] (λT=>[(8,iv T)]) r1 λS1=>Zw Z 5 r<|Wc r (λb=>Sn<|Zt Z 12 r<|Bi λh a=>Vx Z a 1 [100] r<|have c:=Bj 3 Z.1 a r;have d:=Bj 4 Z.1 a r;have e:=Bj 6 Z.1 a r;Yo (Lz kk73 Z.1 a r)<|Bi λi f=>Fo (Cw [0] zpE f r r r1 ⟨(Bc c),(Bc d),(Bc e),⟨⟩⟩) λ_=>Nx<|Wc r (λg=>Zw Z 5 r<|Wr<|Bu<|Re () [0]) λg=>Sk<|Bn<|Ne<|Zt Z 3 r<|Nl<|Lg () [0]) λb=>We<|Jg () [0]) λj=>Ne<|Zw Z 4 r<|Wr<|Re () [0]
def zb9 (s:Af) (id:Int):Option Int:=Bd0 (zbv s.a id) λb=>some b
def zd4 {s:Af} {id:Int} {U1 U3 U4:Va} {U5:Nat} :Cn Pg 73 [pt U5,iv id] [.box U5 36 [strV s.E,strV s.A.S,U0,iv s.A.L,iv s.s.K,U1,U2,U3,U4,iv s.H]] [(U2,lc s.a)] (zb9 s id) (λr (_:Unit)=>iv r) λ_ _=>[.box U5 36 [strV s.E,strV s.A.S,U0,iv s.A.L,iv s.s.K,U1,U2,U3,U4,iv s.H]]:=Ch r λZ=>Sr<|Fo (Bx r (Cp r)) λb=>Qn r<|Dt Z 6 [0,1] r<|Yo (Y.makeFunc r)<|Cc Z [0] [100] zeu r r2 λc d _=>Qn r<|Wr<|Re () [1]
def zK (code:Int):Option A6:=some (⟨code,0,[],[]⟩:A6)
def zz {code:Int} :Cn Pg 44 [iv code] [] [] (zK code) (λr (X:Va)=>.agg #[iv r.V,iv r.N,strV r.O,X]) λr X=>[.own X (lc r.t)]:=Ch r λZ=>Sr<|Fa kz59 r λa=>Nx<|Zt Z 3 r<|Yo (Bd kp59 kz59 (Pc r (Cp r)<|Pz) r)<|Zv Z 1 r<|Nx<|Wr<|Ni 2<|Rj J7 [0] [1] r
def zhS (h:Int):Option Int:=Bd0 (zy h 0 1000) λa=>if !a then some (0:Int)else some (J8 ((2:Int)+(J8 ((2:Int)*(J8 (Ic (J8 (J8 (h+50) - 1)) 50))))))
def zwe {h:Int} :Ki 271 [iv h] [] [] (zhS h):=Ch r λZ=>Zt Z 8 r<|Cc Z [] [] zw r r2 λb c _=>Qn r<|Wc r (λa=>Zw Z 4 r<|Wv<|Rq) λa=>Sn<|Zt Z 5 r<|Yo (Y.quo (by decide) r r)<|Qs 3 r<|Nx<|Wr<|Rq
end Go.Proofs.YtbpngbeifojdeaaGreat
end
end
