/-
  The functions that a law reaches, each as a pure function, with the proof that the program computes it, and the step from a pure law to the given statement. Conditions: none.
-/
import Derived.Test.YtdpainahgcdflaaGreatSx
import Derived.Test.YtdpainahgcdflaaGreatRows
set_option linter.unusedVariables false
set_option linter.unusedSimpArgs false
set_option linter.defProp false
set_option maxRecDepth 100000
set_option maxHeartbeats 4000000
section
open List.cons renaming injEq->An
open Nat renaming beq->Ba,blt->Bf
open Option.some renaming injEq->Bh
open List renaming replicate->Bl
open Bool renaming and_eq_true->Bm
open Int renaming ofNat_inj->Bo
open Prod.mk renaming injEq->Bp
namespace Go.Proofs.YtdpainahgcdflaaGreat.Sl
open Go Go.RowKit
variable {aq is is':List Item} {P:Program} {fr fr':Fr} {w0 w:World} {R X σ τ:Type} {ops ops':Array Oper} {S0 S hs hs':List Nat} {n:Nat} {c:Code} {v:Value} {Q:R->Exit->Act->World->Prop} {l' l:List Oper} {q:R} {fn:Func}
inductive Tb where
 | e
 | n (k v:Nat) (l r:Tb)
def Tb.get:Tb->Nat->Option Nat
 | .e,_=>none
 | .n k v l r,q=>match Ba q k with
   | true=>some v
   | false=>match Bf q k with
     | true=>l.get q
     | false=>r.get q
def Tb.all (p:Nat->Nat->Bool):Tb->Bool
 | .e=>true
 | .n k v l r=>p k v&&(l.all p&&r.all p)
def Tb.sound {p:Nat->Nat->Bool} : ∀{t:Tb},t.all p=true->∀{q v:Nat},t.get q=some v->p q v=true
 | .e,_,_,_,h=>by cases h
 | .n k v l r,h,q,u,a=>by
   unfold Tb.all at h;simp only[Bm]at h;unfold Tb.get at a;split at a
   ·simp_all
   ·split at a
    ·exact Tb.sound h.2.1 a
    ·exact Tb.sound h.2.2 a
def fldB (P:Program) (q v:Nat):Bool:=match fieldB P (q / 64) (q % 64) with | some o=>Ba o v | none=>false
def kndB (P:Program) (q v:Nat):Bool:=match kindB P q with | some (ag,sz)=>(ag == Ba (v % 2) 1)&&Ba sz (v / 2) | none=>false
def eltB (P:Program) (q v:Nat):Bool:=match elemB P q with | some (_,sz,_)=>Ba sz v | none=>false
class Tab (P:Program) where
 f:Tb
 k:Tb
 e:Tb
 hf:f.all (fldB P)=true
 hk:k.all (kndB P)=true
 he:e.all (eltB P)=true
def Tab.field [T:Tab P] {s i o:Nat} (hi:Bf i 64=true) (h:T.f.get (s*64+i)=some o):fieldB P s i=some o:=by
 have:=Tb.sound T.hf h;have a:=zlQ.1 hi;unfold fldB at this;rw[show (s*64+i) / 64=s by omega,show (s*64+i) % 64=i by omega]at this;split at this
 ·simp_all
 ·trivial
def Tab.kind [T:Tab P] {t c:Nat} (h:T.k.get t=some c):kindB P t=some (Ba (c % 2) 1,c / 2):=by
 have:=Tb.sound T.hk h;unfold kndB at this;split at this
 ·simp_all
 ·trivial
def Tab.elem [T:Tab P] {t c:Nat} (h:T.e.get t=some c): ∃e by_,elemB P t=some (e,c,by_):=by
 have:=Tb.sound T.he h;unfold eltB at this;split at this
 ·simp_all
 ·trivial
structure IxF where
 α:Type
 enc:Enc α
 l:List α
 i:Int
 z:α
def IxF.ok (x:IxF):Prop:=idx x.l x.i=some x.z
def IxsOk:List IxF->Prop
 | []=>True
 | x::s=>x.ok/\IxsOk s
def Xz:IxsOk []:=trivial
def Xc {α:Type} [e:Enc α] {l:List α} {i:Int} {z:α} {s:List IxF} (h:idx l i=some z) (hs:IxsOk s):IxsOk (⟨α,e,l,i,z⟩::s):=⟨h,hs⟩
def IxsOk.get: ∀{s:List IxF} {k:Nat} {x:IxF},IxsOk s->s[k]? =some x->x.ok
 | y::s,0,x,h,a=>by cases a;exact h.1
 | y::s,k+1,x,h,a=>IxsOk.get (s:=s) (k:=k) h.2 (by simpa using a)
def BsOk:List (Bool × Bool)->Prop
 | []=>True
 | (b,c)::s=>b=c/\BsOk s
def BsOk.get: ∀{s:List (Bool × Bool)} {k:Nat} {b c:Bool},BsOk s->s[k]? =some (b,c)->b=c
 | (_,_)::s,0,b,c,h,a=>by cases a;exact h.1
 | (_,_)::s,k+1,b,c,h,a=>BsOk.get (s:=s) (k:=k) h.2 (by simpa using a)
structure Ctx where
 rds:List (Value × C)
 ixs:List IxF
 gs:List (Bool × Bool)
structure Ctx.ok (w0:World) (S0:List Nat) (K:Ctx):Prop where
 rds:BaseR w0 S0 K.rds
 ixs:IxsOk K.ixs
 gs:BsOk K.gs
def Gz:BsOk []:=trivial
def Gc {b c:Bool} {s:List (Bool × Bool)} (h:b=c) (hs:BsOk s):BsOk ((b,c)::s):=⟨h,hs⟩
def Bq {c:C} {rds:List (Value × C)} (h:Base w S v c) (hs:BaseR w S rds):BaseR w S ((v,c)::rds):=⟨h,hs⟩
def Kk {rds:List (Value × C)} {xs:List IxF} {gs:List (Bool × Bool)} (a:BaseR w S rds) (b:IxsOk xs) (c:BsOk gs):Ctx.ok w S ⟨rds,xs,gs⟩:=⟨a,b,c⟩
def Kx {rds:List (Value × C)} {xs:List IxF} (a:BaseR w S rds) (b:IxsOk xs):Ctx.ok w S ⟨rds,xs,[]⟩:=⟨a,b,Gz⟩
def Kg {rds:List (Value × C)} {gs:List (Bool × Bool)} (a:BaseR w S rds) (b:BsOk gs):Ctx.ok w S ⟨rds,[],gs⟩:=⟨a,Xz,b⟩
def BaseR.get {w:World} {S:List Nat} : ∀{rds:List (Value × C)} {k:Nat} {v:Value} {c:C},BaseR w S rds->rds[k]? =some (v,c)->Base w S v c
 | (_,_)::s,0,_,_,h,a=>by cases a;exact h.1
 | (_,_)::s,k+1,_,_,h,a=>BaseR.get (rds:=s) (k:=k) h.2 (by simpa using a)
def dat (rds:List (Value × C)) (is:List Item) (h:Nat):Option (Value × C):=match Bf h 100 with
 | true=>match is[h]? with
   | some (.own v c)=>some (v,c)
   | _=>none
 | false=>rds[Nat.sub h 100]?
def zkm {rds:List (Value × C)} {h:Nat} {c:C} (b:BaseR w0 S0 rds) (a:dat rds is h=some (v,c)):Can w0 S0 is v c:=by
 unfold dat at a;split at a
 ·split at a
  ·rename_i B A hi;cases a;exact Can.own h hi
  ·trivial
 ·exact (BaseR.get b a).can
def opV (T:Tab P) (K:Ctx) (fr:Fr) (is:List Item) (hs:List Nat) (aq A:List Item):Op->Option (List Nat × Value × List Item × List Item)
 | .fieldAddr s x f=>match hs with
   | 0::hs=>match ev fr x,Bf f 64,T.f.get (s*64+f) with
     | some (.pointer (some ⟨b,off,none⟩)),true,some o=>some (hs,.pointer (some ⟨b,Nat.add off o,none⟩),aq,A)
     | _,_,_=>none
   | (h+1)::j::c::hs=>match dat K.rds is h,K.ixs[j]?,ev fr x,Bf f 64,T.f.get (s*64+f) with
     | some (v,.sl _ m _),some ⟨_,e,l,i,_⟩,some u,true,some o=>some (hs,elP v (i.toNat*e.sz+Nat.add c o),.own u (.int .i64 m)::aq,.own (elP v (i.toNat*e.sz+c)) (.int .i64 l.length)::A)
     | _,_,_,_,_=>none
   | _=>none
 | .load t x=>match hs with
   | h::hs=>match Bf h 200,T.k.get t,ev fr x with
     | true,some c,some (.pointer (some ⟨b,off,none⟩))=>match is[h]? with
       | some (.box b' _ vs)=>match partO off (c / 2) (Ba (c % 2) 1) vs with
         | some v=>some (hs,v,.own (pt b) .any::aq,.own (pt b') .any::A)
         | none=>none
       | _=>none
     | false,some c,some u=>match hs with
       | j::q::hs=>match dat K.rds is (Nat.sub h 200),K.ixs[j]? with
         | some (v,d),some ⟨_,e,l,i,z⟩=>match lelO q (c / 2) (Ba (c % 2) 1) (e.enc z) with
           | some r=>some (hs,r,.own u d::aq,.own (elP v (i.toNat*e.sz+q)) (lc l)::A)
           | none=>none
         | _,_=>none
       | _=>none
     | _,_,_=>none
   | []=>none
 | .indexAddr t x y=>match hs with
   | h::j::hs=>match dat K.rds is h,K.ixs[j]?,T.e.get t,ev fr x,ev fr y with
     | some (v,.sl _ m _),some ⟨_,_,l,i,_⟩,some sz,some u,some (.int k i')=>some (hs,elP v (i.toNat*sz+0),.own u (.int .i64 m):: .own (.int k i') .any::aq,.own v (.int .i64 l.length):: .own (.int k i) .any::A)
     | _,_,_,_,_=>none
   | _=>none
 | .call ⟨.builtin .len,⟨[x]⟩,⟨[t]⟩⟩=>match hs with
   | h::hs=>match dat K.rds is h,T.e.get t,ev fr x with
     | some (v,.sl _ m _),some _,some u=>some (hs,.int .i64 (m:Int),.own u .any::aq,.own v .any::A)
     | _,_,_=>none
   | []=>none
 | .pick c x y=>match hs with
   | g::hs=>match K.gs[g]?,ev fr c with
     | some (b,w),some (.bool b')=>match ev fr (bif w then x else y) with
       | some v=>some (hs,v,.own (.bool b') .any::aq,.own (.bool b) .any::A)
       | none=>none
     | _,_=>none
   | []=>none
 | o=>match sval fr o with
   | some v=>some (hs,v,aq,A)
   | none=>none
section
variable {K:Ctx}
def zq2 [T:Tab P] (G:K.ok w0 S0) {O I J:List Item} {o:Op} (h:opV T K fr is hs aq O o=some (hs',v,I,J)) (e:I=J):
    aq=O/\∀dst ty pos aft gd,Y P w0 S0 n fr is ⟨dst,o,ty,pos,aft,gd⟩ v:=by
 unfold opV at h;split at h
 ·split at h
  ·split at h
   ·rename_i b off W a p q;cases h;exact ⟨e,λdst ty pos aft gd=>Fb (Tab.field p q) a⟩
   ·cases h
  ·split at h
   ·rename_i v sz' M cs' _ U l i z u W f j a p q;cases h;simp only[An,Item.own.injEq,C.int.injEq,true_and,Bo]at e;obtain ⟨⟨rfl,rfl⟩,e⟩:=e;exact ⟨e,λdst ty pos aft gd=>Fe (Tab.field p q) (zkm G.rds f) (G.ixs.get j) a⟩
   ·cases h
  ·cases h
 ·split at h
  ·split at h
   ·rename_i c b off _ g a;split at h
    ·rename_i V bt vs hi;split at h
     ·rename_i u m;cases h;simp only[An,Item.own.injEq,Value.pointer.injEq,Bh,Addr.mk.injEq,and_true]at e;obtain ⟨rfl,e⟩:=e;exact ⟨e,λdst ty pos aft gd=>Y.load_box _ (Tab.kind g) hi a (zp3 m)⟩
     ·cases h
    ·cases h
   ·rename_i c u _ g a;split at h
    ·split at h
     ·rename_i N d _ U l i z f j;split at h
      ·rename_i r' y;cases h;simp only[An,Item.own.injEq]at e;obtain ⟨⟨rfl,rfl⟩,e⟩:=e;exact ⟨e,λdst ty pos aft gd=>Le (Tab.kind g) (zkm G.rds f) (G.ixs.get j) (by rw[a,y]) rfl⟩
      ·cases h
     ·cases h
    ·cases h
   ·cases h
  ·cases h
 ·split at h
  ·split at h
   ·rename_i N sz' M cs' _ U l i z sz u k Z f j hs a A;cases h;simp only[An,Item.own.injEq,Value.int.injEq,C.int.injEq,true_and,and_true,Bo]at e;obtain ⟨⟨rfl,rfl⟩,⟨-,rfl⟩,e⟩:=e;obtain ⟨el,by_,s⟩:=Tab.elem hs;exact ⟨e,λdst ty pos aft gd=>Ix s (zkm G.rds f) (G.ixs.get j) (by rw[a,A])⟩
   ·cases h
  ·cases h
 ·split at h
  ·split at h
   ·rename_i N sz' M cs' F u f hs a;cases h;simp only[An,Item.own.injEq,and_true]at e;obtain ⟨rfl,e⟩:=e;obtain ⟨el,by_,s⟩:=Tab.elem hs;have B:(Bl M ()).length=M:=List.length_replicate;refine ⟨e,λdst ty pos aft gd=>?_⟩;have:=Ln (n:=n) (l:=Bl M ()) (dst:=dst) (ty':=ty) (pos:=pos) (aft:=aft) (gd:=gd) (t:=_) s (by rw[B];exact zkm G.rds f) a;simp_all
   ·cases h
  ·cases h
 ·split at h
  ·split at h
   ·rename_i b w V D g;split at h
    ·rename_i u m;cases h;simp only[An,Item.own.injEq,Value.bool.injEq,and_true]at e;obtain ⟨rfl,e⟩:=e;have x:=G.gs.get D;refine ⟨e,λdst ty pos aft gd=>?_⟩;cases w with
     | true=>exact Y.pick_t x g m
     | false=>exact Y.pick_f x g m
    ·cases h
   ·cases h
  ·cases h
 ·split at h
  ·rename_i N E;cases h;exact ⟨e,λ_ _ _ _ _=>Y.sval E⟩
  ·cases h
end
inductive Md where
 | w (c:Code)
 | o (ops:Array Oper) (l:List Oper)
abbrev Ys:=List (Code ⊕ Nat)
variable {ys':Ys}
def yq (P:Program) {R:Type} :Ys->(R->Exit->Act->World->Prop)->R->Exit->Act->World->Prop
 | [],Q=>Q
 | .inl y::ys,Q=>λr=>Exit.then (y.wp P (yq P ys Q r)) (yq P ys Q r)
 | .inr id::ys,Q=>λr=>Exit.inBlock id (yq P ys Q r)
def Gl (P:Program) (w0:World) (S0:List Nat) (m:Option R) (n:Nat) (fr:Fr) (is:List Item) (h:Md) (ys:Ys) (Q:R->Exit->Act->World->Prop):Prop:=match h with
 | .w c=>TW P w0 S0 m n fr is c (yq P ys Q)
 | .o ops l=>TO P w0 S0 m n fr is ops l (yq P ys Q)
def grd (K:Ctx) (ops:Array Oper) (fr:Fr) (hs:List Nat) (j:Nat) (want:Bool):Option (List Nat × Bool × List Item × List Item):=match (ops[j]?).bind (·.dst) with
 | some d=>match lk d fr with
   | some (.bool b)=>match hs with
     | g::hs=>match K.gs[g]? with
       | some (b',w)=>some (hs,w == want,[.own (.bool b) .any],[.own (.bool b') .any])
       | none=>none
     | []=>none
   | _=>none
 | none=>none
def nxt:Ys->Option (Code × Ys)
 | []=>none
 | .inl y::ys=>some (y,ys)
 | .inr _::ys=>nxt ys
def drv {P:Program} (T:Tab P) (K:Ctx) (n:Nat):Nat->List Nat->Md->Ys->Fr->List Item->List Item->List Item->Option (Md × Ys × Fr × List Item × List Item × List Item)
 | 0,_,md,ys,fr,is,aq,bs=>some (md,ys,fr,is,aq,bs)
 | m+1,hs,.w c,ys,fr,is,aq,bs=>match c with
   | .seq x y=>drv T K n m hs (.w x) (.inl y::ys) fr is aq bs
   | .region _ ⟨l⟩ false=>drv T K n m hs (.o ⟨l⟩ l) ys fr is aq bs
   | .block id c=>drv T K n m hs (.w c) (.inr id::ys) fr is aq bs
   | .skip=>match nxt ys with
     | some (y,ys)=>drv T K n m hs (.w y) ys fr is aq bs
     | none=>none
   | _=>none
 | m+1,hs,.o ops l,ys,fr,is,aq,bs=>match l with
   | []=>match nxt ys with
     | some (y,ys)=>drv T K n m hs (.w y) ys fr is aq bs
     | none=>none
   | ⟨some d,o,_,_,_,none⟩::l=>match Bf d n with
     | true=>match opV T K fr is hs aq bs o with
       | some (hs,v,aq,bs)=>drv T K n m hs (.o ops l) ys ((d,v)::fr) is aq bs
       | none=>none
     | false=>none
   | ⟨some d,o,_,_,_,some (j,want)⟩::l=>match Bf d n,grd K ops fr hs j want with
     | true,some (hs,true,a,b)=>match opV T K fr is hs (a++aq) (b++bs) o with
       | some (hs,v,aq,bs)=>drv T K n m hs (.o ops l) ys ((d,v)::fr) is aq bs
       | none=>none
     | true,some (hs,false,a,b)=>drv T K n m hs (.o ops l) ys ((d,undef)::fr) is (a++aq) (b++bs)
     | _,_=>none
   | ⟨none,.store t x y,_,_,_,none⟩::l=>match hs with
     | h::q::hs=>match is[h]?,T.k.get t,ev fr x,ev fr y with
       | some (.box b bt vs),some c,some (.pointer (some ⟨b',off,none⟩)),some v=>match q with
         | 0=>match Ba v.cells.toList.length (c / 2)&&v.cells.toList.all (·.oneCell') with
           | true=>match splK off vs v.cells.toList (λA=>setK h is (.box b bt A) some) with
             | some is'=>drv T K n m hs (.o ops l) ys fr is' (.own (pt b') .any::aq) (.own (pt b) .any::bs)
             | none=>none
           | false=>none
         | q+1=>match dat K.rds is q,Ba (c / 2) 1,splK off vs [v] (λA=>setK h is (.box b bt A) some) with
           | some (u,_),true,some is'=>drv T K n m hs (.o ops l) ys fr is' (.own (pt b') .any:: .own v .any::aq) (.own (pt b) .any:: .own u .any::bs)
           | _,_,_=>none
       | _,_,_,_=>none
     | _=>none
   | _=>none
section
variable {K:Ctx} {mm:Option R}
def zz1 {j:Nat} {want q:Bool} {a b:List Item} (c:BsOk K.gs) (h:grd K ops fr hs j want=some (hs',q,a,b)):a=b->∀o:Oper,o.guard=some (j,want)->Gd ops fr o q:=by
 unfold grd at h;split at h
 ·rename_i d f;split at h
  ·rename_i g i;split at h
   ·split at h
    ·rename_i A w k;cases h;intro e o l;simp only[An,Item.own.injEq,Value.bool.injEq,and_true]at e;subst e;have:=c.get k;subst this;exact Gd.at j want d g l f i rfl
    ·cases h
   ·cases h
  ·cases h
 ·cases h
theorem zoy {j:Nat} {want q:Bool} {a b A:List Item} (c:BsOk K.gs) (h:grd K ops fr hs j want=some (hs',q,a,b)) (e:a++aq=b++A):aq=A/\∀o:Oper,o.guard=some (j,want)->Gd ops fr o q:=by
 have hl:a.length=b.length:=by
  unfold grd at h;repeat' split at h
  all_goals grind
 obtain ⟨d,f⟩:=List.append_inj e hl;exact ⟨f,zz1 c h d⟩
def zuU {fr:Fr} {is:List Item} {y:Code} : ∀{ys ys':Ys},nxt ys=some (y,ys')->TW P w0 S0 mm n fr is y (yq P ys' Q)->TE w0 S0 mm n fr is .normal (yq P ys Q)
 | [],_,h,_=>by cases h
 | .inl _::_,_,h,g=>by cases h;exact TE.next g
 | .inr _::ys,_,h,g=>TE.block_normal (zuU (ys:=ys) h g)
def zur [T:Tab P] (F:K.ok w0 S0): ∀(m:Nat) (hs:List Nat) (G:Md) (ys:Ys) (fr:Fr) (is aq I:List Item) {E:Md} {ys':Ys} {fr':Fr} {is' B D:List Item},drv T K n m hs G ys fr is aq I=some (E,ys',fr',is',B,D)->
    B=D->aq=I/\(Gl P w0 S0 mm n fr' is' E ys' Q->Gl P w0 S0 mm n fr is G ys Q):=by
 intro m;induction m with
 | zero=>intro hs G ys fr is aq I E ys' fr' is' B D h e;cases h;exact ⟨e,id⟩
 | succ m ih=>
   intro hs G ys fr is aq I E ys' fr' is' B D h e;cases G with
   | w c=>
     unfold drv at h;split at h
     ·obtain ⟨a,d⟩:=ih _ _ _ _ _ _ _ h e;exact ⟨a,λg=>TW.seq (d g)⟩
     ·obtain ⟨a,d⟩:=ih _ _ _ _ _ _ _ h e;exact ⟨a,λg=>TW.region (d g)⟩
     ·obtain ⟨a,d⟩:=ih _ _ _ _ _ _ _ h e;exact ⟨a,λg=>TW.block (d g)⟩
     ·split at h
      ·rename_i f;obtain ⟨a,d⟩:=ih _ _ _ _ _ _ _ h e;exact ⟨a,λg=>TW.skip (zuU f (d g))⟩
      ·cases h
     ·cases h
   | o ops l=>
     unfold drv at h;split at h
     ·split at h
      ·rename_i f;obtain ⟨a,d⟩:=ih _ _ _ _ _ _ _ h e;exact ⟨a,λg=>TO.nil (zuU f (d g))⟩
      ·cases h
     ·split at h
      ·rename_i i;split at h
       ·rename_i j;obtain ⟨a,d⟩:=ih _ _ _ _ _ _ _ h e;obtain ⟨k,p⟩:=zq2 (n:=n) F j a;exact ⟨k,λg=>TO.y (p _ _ _ _ _) rfl rfl i (d g)⟩
       ·cases h
      ·cases h
     ·split at h
      ·rename_i i q;split at h
       ·rename_i j;obtain ⟨a,d⟩:=ih _ _ _ _ _ _ _ h e;obtain ⟨k,p⟩:=zq2 (n:=n) F j a;obtain ⟨s,t⟩:=zoy F.gs q k;exact ⟨s,λg=>TO.y (p _ _ _ _ _) (t _ rfl) rfl i (d g)⟩
       ·cases h
      ·rename_i i q;obtain ⟨a,d⟩:=ih _ _ _ _ _ _ _ h e;obtain ⟨s,t⟩:=zoy F.gs q a;exact ⟨s,λg=>TO.off (t _ rfl) rfl i (d g)⟩
      ·cases h
     ·split at h
      ·split at h
       ·rename_i b bt vs c J off v hi x z f;split at h
        ·split at h
         ·rename_i hl;split at h
          ·rename_i is' hs';obtain ⟨a,d⟩:=ih _ _ _ _ _ _ _ h e;simp only[An,Item.own.injEq,Value.pointer.injEq,Bh,Addr.mk.injEq,and_true]at a;obtain ⟨rfl,a⟩:=a;rw[Bm]at hl;exact ⟨a,λg=>TO.ef0 (Sb _ (Tab.kind x) (by rw[hi,z,f]) (Cp (by simp) hl.2) hs' hl.1) rfl rfl λ_=>d g⟩
          ·cases h
         ·cases h
        ·split at h
         ·rename_i u _ is' A hl hs';obtain ⟨a,d⟩:=ih _ _ _ _ _ _ _ h e;simp only[An,Item.own.injEq,Value.pointer.injEq,Bh,Addr.mk.injEq,and_true]at a;obtain ⟨rfl,rfl,a⟩:=a;exact ⟨a,λg=>TO.ef0 (Sb _ (Tab.kind x) (by rw[hi,z,f]) (Cel.one (One.can (zkm F.rds A))) hs' (by rw[Nat.eq_of_beq_eq_true hl];rfl)) rfl rfl λ_=>d g⟩
         ·cases h
       ·cases h
      ·cases h
     ·cases h
def Vw [T:Tab P] (B:K.ok w0 S0) (k:Nat) (hs:List Nat) {A:Code} (a:drv T K n k hs (.w c) [] fr is [] []=some (.w A,ys',fr',is',aq,aq)) (h:TW P w0 S0 mm n fr' is' A (yq P ys' Q)):TW P w0 S0 mm n fr is c Q:=
 (zur B k hs _ _ _ _ _ _ a rfl).2 h
def Vt [T:Tab P] (A:K.ok w0 S0) (k:Nat) (hs:List Nat) (a:drv T K n k hs (.w c) [] fr is [] []=some (.o ops' l',ys',fr',is',aq,aq)) (h:TO P w0 S0 mm n fr' is' ops' l' (yq P ys' Q)):TW P w0 S0 mm n fr is c Q:=
 (zur A k hs _ _ _ _ _ _ a rfl).2 h
def Vv [T:Tab P] (A:K.ok w0 S0) (k:Nat) (hs:List Nat) (a:drv T K n k hs (.o ops l) [] fr is [] []=some (.o ops' l',ys',fr',is',aq,aq)) (h:TO P w0 S0 mm n fr' is' ops' l' (yq P ys' Q)):TO P w0 S0 mm n fr is ops l Q:=
 (zur A k hs _ _ _ _ _ _ a rfl).2 h
variable {rds:List (Value × C)}
def Dw [T:Tab P] (Z:BaseR w0 S0 rds) (k:Nat) (hs:List Nat) {A:Code} (a:drv T ⟨rds,[],[]⟩ n k hs (.w c) [] fr is [] []=some (.w A,ys',fr',is',aq,aq)) (h:TW P w0 S0 mm n fr' is' A (yq P ys' Q)):TW P w0 S0 mm n fr is c Q:=Vw (Kx Z Xz) k hs a h
def Dt [T:Tab P] (Z:BaseR w0 S0 rds) (k:Nat) (hs:List Nat) (a:drv T ⟨rds,[],[]⟩ n k hs (.w c) [] fr is [] []=some (.o ops' l',ys',fr',is',aq,aq)) (h:TO P w0 S0 mm n fr' is' ops' l' (yq P ys' Q)):TW P w0 S0 mm n fr is c Q:=Vt (Kx Z Xz) k hs a h
def Dv [T:Tab P] (Z:BaseR w0 S0 rds) (k:Nat) (hs:List Nat) (a:drv T ⟨rds,[],[]⟩ n k hs (.o ops l) [] fr is [] []=some (.o ops' l',ys',fr',is',aq,aq)) (h:TO P w0 S0 mm n fr' is' ops' l' (yq P ys' Q)):TO P w0 S0 mm n fr is ops l Q:=Vv (Kx Z Xz) k hs a h
end
def drvA {P:Program} (T:Tab P) (K:Ctx) (n:Nat) (ops:Array Oper) (H:Hd):List Nat->List Nat->List Nat->Fr->List Item->List Item->Option (Fr × List Item × List Item)
 | [],_,_,fr,aq,bs=>some (fr,aq,bs)
 | i::js,Bs,hs,fr,aq,bs=>match ops[i]? with
   | some ⟨some d,o,_,_,_,none⟩=>match Bf d n,opV T K fr (hb' ops.size (Bs.headD 0) H) hs aq bs o with
     | true,some (hs,v,aq,bs)=>drvA T K n ops H js Bs.tail hs ((d,v)::fr) aq bs
     | _,_=>none
   | some ⟨some d,o,_,_,_,some (j,want)⟩=>match Bf d n,grd K ops fr hs j want with
     | true,some (hs,true,a,b)=>match opV T K fr (hb' ops.size (Bs.headD 0) H) hs (a++aq) (b++bs) o with
       | some (hs,v,aq,bs)=>drvA T K n ops H js Bs.tail hs ((d,v)::fr) aq bs
       | none=>none
     | true,some (hs,false,a,b)=>drvA T K n ops H js Bs.tail hs ((d,undef)::fr) (a++aq) (b++bs)
     | _,_=>none
   | _=>none
def bdry (ops:Array Oper):List Nat->List Nat->Nat->Bool
 | [],_,_=>true
 | i::s,Bs,L=>rdyB ops i L (Bs.headD 0)&&(rdyB ops i L 0&&bdry ops s Bs.tail (L ||| 2 ^ i))
section
variable {K:Ctx} {mm:Option R} {H:Hd} {fuel L:Nat}
def zow [T:Tab P] (B:K.ok w0 S0): ∀(js Bs hs:List Nat) (fr:Fr) (aq F:List Item) (fuel2 L:Nat) {fr':Fr} {D E:List Item},drvA T K n ops H js Bs hs fr aq F=some (fr',D,E)->decF js fuel2=some fuel->bdry ops js Bs L=true->anob H js=true->
    sfx is (hl' ops.size L H)=hl' ops.size L H->D=E->aq=F/\(TA P w0 S0 mm n fr' is H ops fuel (abits js L) Q->TA P w0 S0 mm n fr is H ops fuel2 L Q)
 | [],_,_,_,_,_,_,_,_,_,_,h,b,_,_,_,e=>by cases h;cases b;exact ⟨e,id⟩
 | i::js,Bs,hs,fr,aq,F,fuel2,L,_,_,_,h,b,c,a,hH,e=>by
   unfold bdry at c
   unfold anob at a
   simp only[Bm]at c a
   obtain ⟨f,rfl,b⟩: ∃f,fuel2=f+1/\decF js f=some fuel:=by
    cases fuel2 with
    | zero=>cases b
    | succ f=>exact ⟨f,rfl,b⟩
   have A:sfx is (hl' ops.size (L ||| 2 ^ i) H)=hl' ops.size (L ||| 2 ^ i) H:=by rw[hl_or a.1];exact hH
   unfold drvA at h
   split at h
   ·rename_i hi
    split at h
    ·rename_i d l
     obtain ⟨j,k⟩:=zow B js _ _ _ _ _ f _ h b c.2.2 a.2 A e
     obtain ⟨m,o⟩:=zq2 (n:=n) B l j
     exact ⟨m,λg=>TA.y i _ hi (o _ _ _ _ _) rfl rfl d c.1 a.1 hH (k g)⟩
    ·cases h
   ·rename_i hi
    split at h
    ·rename_i d p
     split at h
     ·rename_i l
      obtain ⟨j,k⟩:=zow B js _ _ _ _ _ f _ h b c.2.2 a.2 A e
      obtain ⟨m,o⟩:=zq2 (n:=n) B l j
      obtain ⟨q,s⟩:=zoy B.gs p m
      exact ⟨q,λg=>TA.y i _ hi (o _ _ _ _ _) (s _ rfl) rfl d c.1 a.1 hH (k g)⟩
     ·cases h
    ·rename_i d p
     obtain ⟨j,k⟩:=zow B js _ _ _ _ _ f _ h b c.2.2 a.2 A e
     obtain ⟨q,s⟩:=zoy B.gs p j
     exact ⟨q,λg=>TA.off i hi (s _ rfl) rfl d c.2.1 a.1 hH (k g)⟩
    ·cases h
   ·cases h
def Ak [T:Tab P] (B:K.ok w0 S0) (js Bs hs:List Nat) {fuel2:Nat} (a:(drvA T K n ops H js Bs hs fr [] [],decF js fuel2)=(some (fr',aq,aq),some fuel)) (h:TA P w0 S0 mm n fr' is H ops fuel (abits js L) Q) (A:sfx is (hl' ops.size L H)=hl' ops.size L H:=by exact r) (b:bdry ops js Bs L=true:=by kernel_rfl) (c:anob H js=true:=by exact r):TA P w0 S0 mm n fr is H ops fuel2 L Q:=by simp only[Bp]at a;exact (zow B js Bs hs fr [] [] fuel2 L a.1 a.2 b c A rfl).2 h
def Aj [T:Tab P] {rds:List (Value × C)} (Z:BaseR w0 S0 rds) (js Bs hs:List Nat) {fuel2:Nat} (a:(drvA T ⟨rds,[],[]⟩ n ops H js Bs hs fr [] [],decF js fuel2)=(some (fr',aq,aq),some fuel)) (h:TA P w0 S0 mm n fr' is H ops fuel (abits js L) Q) (A:sfx is (hl' ops.size L H)=hl' ops.size L H:=by exact r) (b:bdry ops js Bs L=true:=by kernel_rfl) (c:anob H js=true:=by exact r):TA P w0 S0 mm n fr is H ops fuel2 L Q:=Ak (Kx Z Xz) js Bs hs a h A b c
end
def canK (rds:List (Value × C)) (is:List Item):List Nat->Option (List (Value × C))
 | []=>some []
 | q::qs=>match dat rds is q,canK rds is qs with
   | some p,some ps=>some (p::ps)
   | _,_=>none
def zvY {w0:World} {S0:List Nat} {rds:List (Value × C)} {is:List Item} (a:BaseR w0 S0 rds): ∀{qs:List Nat} {ps:List (Value × C)},canK rds is qs=some ps->Cans w0 S0 is ps
 | [],_,h=>by cases h;trivial
 | q::qs,_,h=>by
   unfold canK at h;split at h
   ·rename_i p ps b c;cases h;exact ⟨zkm a b,zvY a c⟩
   ·cases h
section
def Cc {B:Type} {mm:Option B} {k:B->Option R} {val:B->X->Value} {post is':B->X->List Item} {pre rest:List Item} {A rds:List (Value × C)} {f:FuncId} {os:List Operand} {args:List Value} {ats:Array TypeId} {d:Nat} {ty:TypeId} {pos:String} {aft:Array Edge} (Z:BaseR w0 S0 A) (D qs:List Nat) (b:Cn P f args pre rds mm val post) (c:(evs fr os,takeP D is)=(some args,some (pre,rest))) (e: ∀q x,appK (post q x) rest some=some (is' q x)) (h: ∀q,mm=some q->∀x,TO P w0 S0 (k q) n ((d,val q x)::fr) (is' q x) ops l Q) (g:canK A rest qs=some rds:=by exact r) (i:Bf d n=true:=by exact r):
    TO P w0 S0 (mm.bind k) n fr is ops (⟨some d,.call {callee:=.value (.func f),args:=os.toArray,argTypes:=ats},ty,pos,aft,none⟩::l) Q:=
 TO.bind λq a=>TO.ef (Cl D b a c (e q) (zvY Z g)) rfl rfl i (h q a)
def Ch {f:FuncId} {args:List Value} {pre:List Item} {rds:List (Value × C)} {k:Nat} {val:R->X->Value} {post:R->X->List Item} {m:Option R} (b:P.funcs[f]? =some fn) (a:(fn.body,fn.ntmps)=(some c,k)) (h: ∀w S,BaseR w S rds->TW P w S m k (argFr 0 args) pre c (λq=>bodyPost P fn (λe w'=>∃x,e= .returned (val q x)/\St w S (post q x) w'))) (hl:Nat.ble args.length k=true:=by exact r) (hN:(fn.name != "runtime.NumGoroutine")=true:=by exact r):Cn P f args pre rds m val post:=by simp only[Bp]at a;exact Ci b a.1 a.2 h hl hN
end
def Bj {α:Type} [Enc α] {l:List α} {i:Int} {x:α} {d:C} (c:Nat) (a:Base w S v (lc l)) (b:idx l i=some x) (e:(Enc.enc x)[c]? =some d):Base w S (elv w v (i.toNat*Enc.sz α+c)) d:=Base.el a (zY b).2.2 rfl e
def rvK {P:Program} (T:Tab P) (fr:Fr) (is:List Item):List ResultVar->List Nat->Option (List Value × List Item × List Item)
 | [],_=>some ([],[],[])
 | .tmp t::r,hs=>match lk t fr,rvK T fr is r hs with
   | some v,some (vs,aq,bs)=>some (v::vs,aq,bs)
   | _,_=>none
 | .cell p t::r,i::hs=>match is[i]?,lk p fr,T.k.get t,rvK T fr is r hs with
   | some (.box b _ us),some (.pointer (some ⟨b',off,none⟩)),some c,some (vs,aq,bs)=>match partO off (c / 2) (Ba (c % 2) 1) us with
     | some v=>some (v::vs,.own (pt b') .any::aq,.own (pt b) .any::bs)
     | none=>none
   | _,_,_,_=>none
 | .cell _ _::_,[]=>none
def zu4 {P:Program} {T:Tab P} {fr:Fr} {is:List Item} : ∀{B:List ResultVar} {hs:List Nat} {vs:List Value} {aq A:List Item},rvK T fr is B hs=some (vs,aq,A)->aq=A->RV P fr is B vs
 | [],_,_,_,_,h,_=>by cases h;trivial
 | .tmp t::r,hs,_,_,_,h,e=>by
   unfold rvK at h;split at h
   ·rename_i v vs aq A a d;cases h;exact ⟨a,zu4 d e⟩
   ·cases h
 | .cell p t::r,i::hs,_,_,_,h,e=>by
   unfold rvK at h;split at h
   ·rename_i b bt us D off c vs aq A a d f g;split at h
    ·rename_i v j;cases h;simp only[An,Item.own.injEq,Value.pointer.injEq,Bh,Addr.mk.injEq,and_true]at e;obtain ⟨rfl,e⟩:=e;exact RV.cell i a d (Tab.kind f) (zp3 j) (zu4 g e)
    ·cases h
   ·cases h
 | .cell _ _::_,[],_,_,_,h,_=>by cases h
section
def Rj [T:Tab P] {h:List Nat} {val:R->X->Value} {post:R->X->List Item} {e:Exit} {vs:List Value} (x:X) (A hs:List Nat) (a:rvK T fr is fn.results.toList hs=some (vs,aq,aq)) (b:backE e=true:=by exact r) (c:retV vs=val q x:=by exact r) (hi:pulls A is=some (post q x):=by exact r):
    TE w0 h (some q) n fr is e (λq=>bodyPost P fn (λe w'=>∃x,e= .returned (val q x)/\St w0 h (post q x) w')):=Rf x A (zu4 a rfl) b c hi
end
section
variable {m:Option R}
def Wv {Q':R->Act->World->Prop} (h:TE w0 S0 m n fr is .ret Q):TW P w0 S0 m n fr is .ret (λr=>Exit.then (Q' r) (Q r)):=Wr (Tr h)
def We {I:σ->Act->World->Prop} {id:Nat} {Q':Ctl σ R->Act->World->Prop} (h:TE w0 S0 (some q) n fr is .normal Q):
    TW P w0 S0 (some (Ctl.done q)) n fr is (.exit id) (λr=>Exit.then (Q' r) (lp I (λr=>Exit.inBlock id (Q r)) r)):=Wx (Tx (Ex (Be h)))
def Bu {I:σ->Act->World->Prop} {M:τ->Act->World->Prop} {id A:Nat} {B:Ctl σ (Ctl τ R)->Act->World->Prop} {D:R->Act->World->Prop} (h:TE w0 S0 (some q) n fr is .ret Q):
    TE w0 S0 (some (Ctl.done (Ctl.done q))) n fr is .ret (λr=>Exit.inBlock id (Exit.then (B r) (lp I (λr=>Exit.inBlock A (jn M (λr=>Exit.then (D r) (Q r)) r)) r))):=Br (Tr (Er (Br (Jd (Tr h)))))
def Rq {h:List Nat} {val:R->Unit->Value} {post:R->Unit->List Item} {e:Exit} {A:List Nat} {vs:List Value} (a:backE e=true:=by exact r) (b:resT fn.results.toList=some A:=by exact r) (c:lks fr A=some vs:=by exact r) (d:retV vs=val q ():=by exact r) (hi:some []=some (post q ()):=by exact r):
    TE w0 h (some q) n fr is e (λq=>bodyPost P fn (λe w'=>∃x,e= .returned (val q x)/\St w0 h (post q x) w')):=Re () [] a b c d hi
def Jq {frf:τ->Unit->Fr} {isf:τ->Unit->List Item} {t:τ} (a:some []=some (isf t ()):=by exact r) (b:Sub (frf t ()) fr:=by repeat (first | refine ⟨r,?_⟩ | exact trivial)):
    TE w0 S0 (some (.go t)) n fr is .normal (jn (Mid w0 S0 n frf isf) Q):=Jg () [] a b
def Bv {frf:τ->Unit->Fr} {isf:τ->Unit->List Item} {t:τ} (a:some []=some (isf t ()):=by exact r) (b:Sub (frf t ()) fr:=by repeat (first | refine ⟨r,?_⟩ | exact trivial)):
    TE w0 S0 (some t) n fr is .normal (jb (Mid w0 S0 n frf isf)):=Bg () [] a b
def Lq {ρ:Type} {Q:ρ->Exit->Act->World->Prop} {frf:σ->Unit->Fr} {isf:σ->Unit->List Item} {t:σ} (a:some []=some (isf t ()):=by exact r) (b:Sub (frf t ()) fr:=by repeat (first | refine ⟨r,?_⟩ | exact trivial)):
    TE w0 S0 (some (.go t)) n fr is .normal (lp (Mid w0 S0 n frf isf) Q):=Lg () [] a b
def Dz {H:Hd} {id:Nat} (k:Nat) (B A:List Nat) (a:heldK (B++Bl (k - B.length) 0) (A++Bl (k - A.length) 999) is=some (is',H)) (b:P.follows .mixedOrders=true) (h:TA P w0 S0 m n fr is' H ops ops.size 0 Q):
    TW P w0 S0 m n fr is (.region id ops true) Q:=Dr _ _ a b h
end
end Go.Proofs.YtdpainahgcdflaaGreat.Sl
end
section
open Option renaming bind->Bb
open Decidable renaming decide->Dc
open Bool renaming false->An
open List renaming replicate->Ba
noncomputable section
open Go.Proofs.Tryz renaming prog->Pg
open Go.IntKind renaming i64->I6
namespace Go.Proofs.YtdpainahgcdflaaGreat
open Go Sl
variable {U0 U1 U2:Value}
structure Ao where
 r:Int
 g:List UInt8
 deriving DecidableEq
instance:Enc Ao:=⟨2,λx=>[.int .i64 x.r,.str x.g],λ_=>rfl,by decide⟩
instance:Dec Ao where
 sh:=[.int .i64,.str]
 ok x:=okI x.r/\x.g.length<=9223372036854775807
 dec cs h:=by obtain ⟨c0,r0,rfl,h0,h⟩:=h.cons_inv;obtain ⟨c1,r1,rfl,h1,h⟩:=h.cons_inv;obtain rfl:=h.nil_inv;obtain ⟨y0,rfl,w0_⟩:=h0.int_inv;have w0:=zbA w0_;obtain ⟨y1,rfl,w1⟩:=h1.str_inv;exact ⟨(⟨y0,y1⟩:Ao),rfl,w0,w1⟩
instance:Flat Ao:={vals:=λx=>[.int .i64 x.r,strV x.g],flat:=λ_=>rfl}
structure Ar where
 K:List UInt8
 x:List Ao
 H:Int
 deriving DecidableEq
instance:Enc Ar:=⟨3,λx=>[.str x.K,lc x.x,.int .i64 x.H],λ_=>rfl,by decide⟩
instance:Dec Ar where
 sh:=[.str,.sl 2 (Dec.sh Ao),.int .i64]
 ok x:=x.K.length<=9223372036854775807/\okl x.x/\okI x.H
 dec cs h:=by obtain ⟨c0,r0,rfl,h0,h⟩:=h.cons_inv;obtain ⟨c1,r1,rfl,h1,h⟩:=h.cons_inv;obtain ⟨c2,r2,rfl,h2,h⟩:=h.cons_inv;obtain rfl:=h.nil_inv;obtain ⟨y0,rfl,w0⟩:=h0.str_inv;obtain ⟨y1,rfl,w1⟩:=h1.sl_inv (α:=Ao) rfl;obtain ⟨y2,rfl,w2_⟩:=h2.int_inv;have w2:=zbA w2_;exact ⟨(⟨y0,y1,y2⟩:Ar),rfl,w0,w1,w2⟩
structure Am where
 r:Int
 Q:Int
 deriving DecidableEq
instance:Enc Am:=⟨2,λx=>[.int .i64 x.r,.int .i64 x.Q],λ_=>rfl,by decide⟩
instance:Dec Am where
 sh:=[.int .i64,.int .i64]
 ok x:=okI x.r/\okI x.Q
 dec cs h:=by obtain ⟨c0,r0,rfl,h0,h⟩:=h.cons_inv;obtain ⟨c1,r1,rfl,h1,h⟩:=h.cons_inv;obtain rfl:=h.nil_inv;obtain ⟨y0,rfl,w0_⟩:=h0.int_inv;have w0:=zbA w0_;obtain ⟨y1,rfl,w1_⟩:=h1.int_inv;have w1:=zbA w1_;exact ⟨(⟨y0,y1⟩:Am),rfl,w0,w1⟩
instance:Flat Am:={vals:=λx=>[.int .i64 x.r,.int .i64 x.Q],flat:=λ_=>rfl}
structure Ad where
 G:Int
 m:_root_.List Am
 deriving DecidableEq
instance:Enc Ad:=⟨2,λx=>[.int .i64 x.G,lc x.m],λ_=>rfl,by decide⟩
instance:Dec Ad where
 sh:=[.int .i64,.sl 2 (Dec.sh Am)]
 ok x:=okI x.G/\okl x.m
 dec cs h:=by obtain ⟨c0,r0,rfl,h0,h⟩:=h.cons_inv;obtain ⟨c1,r1,rfl,h1,h⟩:=h.cons_inv;obtain rfl:=h.nil_inv;obtain ⟨y0,rfl,w0_⟩:=h0.int_inv;have w0:=zbA w0_;obtain ⟨y1,rfl,w1⟩:=h1.sl_inv (α:=Am) rfl;exact ⟨(⟨y0,y1⟩:Ad),rfl,w0,w1⟩
structure Ac where
 g:List UInt8
 b:Int
 M:Bool
 F:List UInt8
 deriving DecidableEq
variable {l:List Ac}
instance:Enc Ac:=⟨4,λx=>[.str x.g,.int .i64 x.b,.bool x.M,.str x.F],λ_=>rfl,by decide⟩
instance:Dec Ac where
 sh:=[.str,.int .i64,.bool,.str]
 ok x:=x.g.length<=9223372036854775807/\okI x.b/\True/\x.F.length<=9223372036854775807
 dec cs h:=by obtain ⟨c0,r0,rfl,h0,h⟩:=h.cons_inv;obtain ⟨c1,r1,rfl,h1,h⟩:=h.cons_inv;obtain ⟨c2,r2,rfl,h2,h⟩:=h.cons_inv;obtain ⟨c3,r3,rfl,h3,h⟩:=h.cons_inv;obtain rfl:=h.nil_inv;obtain ⟨y0,rfl,w0⟩:=h0.str_inv;obtain ⟨y1,rfl,w1_⟩:=h1.int_inv;have w1:=zbA w1_;obtain ⟨y2,rfl⟩:=h2.bool_inv;have w2:=True.intro;obtain ⟨y3,rfl,w3⟩:=h3.str_inv;exact ⟨(⟨y0,y1,y2,y3⟩:Ac),rfl,w0,w1,w2,w3⟩
instance:Flat Ac:={vals:=λx=>[strV x.g,.int .i64 x.b,.bool x.M,strV x.F],flat:=λ_=>rfl}
instance:Enc (List Ac):=⟨1,λl=>[lc l],λ_=>rfl,Nat.one_pos⟩
instance:Dec (List Ac) where
 sh:=[.sl 4 (Dec.sh Ac)]
 ok l:=okl l
 dec cs h:=by obtain ⟨c0,r0,rfl,h0,h⟩:=h.cons_inv;obtain rfl:=h.nil_inv;obtain ⟨y0,rfl,w0⟩:=h0.sl_inv (α:=Ac) rfl;exact ⟨y0,rfl,w0⟩
structure Aa where
 s:List Ac
 q:List (List Ac)
 b:Int
 t:List Int
 deriving DecidableEq
instance:Enc Aa:=⟨4,λx=>[lc x.s,lc x.q,.int .i64 x.b,lc x.t],λ_=>rfl,by decide⟩
instance:Dec Aa where
 sh:=[.sl 4 (Dec.sh Ac),.sl 1 (Dec.sh (List Ac)),.int .i64,.sl 1 (Dec.sh Int)]
 ok x:=okl x.s/\okl x.q/\okI x.b/\okl x.t
 dec cs h:=by obtain ⟨c0,r0,rfl,h0,h⟩:=h.cons_inv;obtain ⟨c1,r1,rfl,h1,h⟩:=h.cons_inv;obtain ⟨c2,r2,rfl,h2,h⟩:=h.cons_inv;obtain ⟨c3,r3,rfl,h3,h⟩:=h.cons_inv;obtain rfl:=h.nil_inv;obtain ⟨y0,rfl,w0⟩:=h0.sl_inv (α:=Ac) rfl;obtain ⟨y1,rfl,w1⟩:=h1.sl_inv (α:=List Ac) rfl;obtain ⟨y2,rfl,w2_⟩:=h2.int_inv;have w2:=zbA w2_;obtain ⟨y3,rfl,w3⟩:=h3.sl_inv (α:=Int) rfl;exact ⟨(⟨y0,y1,y2,y3⟩:Aa),rfl,w0,w1,w2,w3⟩
structure Ae where
 p:Int
 I:Int
 E:Int
 c:Aa
 deriving DecidableEq
instance:Enc Ae:=⟨7,λx=>[.int .i64 x.p,.int .i64 x.I,.int .i64 x.E,lc x.c.s,lc x.c.q,.int .i64 x.c.b,lc x.c.t],λ_=>rfl,by decide⟩
instance:Dec Ae where
 sh:=[.int .i64,.int .i64,.int .i64,.sl 4 (Dec.sh Ac),.sl 1 (Dec.sh (List Ac)),.int .i64,.sl 1 (Dec.sh Int)]
 ok x:=okI x.p/\okI x.I/\okI x.E/\okl x.c.s/\okl x.c.q/\okI x.c.b/\okl x.c.t
 dec cs h:=by obtain ⟨c0,r0,rfl,h0,h⟩:=h.cons_inv;obtain ⟨c1,r1,rfl,h1,h⟩:=h.cons_inv;obtain ⟨c2,r2,rfl,h2,h⟩:=h.cons_inv;obtain ⟨c3,r3,rfl,h3,h⟩:=h.cons_inv;obtain ⟨c4,r4,rfl,h4,h⟩:=h.cons_inv;obtain ⟨c5,r5,rfl,h5,h⟩:=h.cons_inv;obtain ⟨c6,r6,rfl,h6,h⟩:=h.cons_inv;obtain rfl:=h.nil_inv;obtain ⟨y0,rfl,w0_⟩:=h0.int_inv;have w0:=zbA w0_;obtain ⟨y1,rfl,w1_⟩:=h1.int_inv;have w1:=zbA w1_;obtain ⟨y2,rfl,w2_⟩:=h2.int_inv;have w2:=zbA w2_;obtain ⟨y3,rfl,w3⟩:=h3.sl_inv (α:=Ac) rfl;obtain ⟨y4,rfl,w4⟩:=h4.sl_inv (α:=List Ac) rfl;obtain ⟨y5,rfl,w5_⟩:=h5.int_inv;have w5:=zbA w5_;obtain ⟨y6,rfl,w6⟩:=h6.sl_inv (α:=Int) rfl;exact ⟨(⟨y0,y1,y2,⟨y3,y4,y5,y6⟩⟩:Ae),rfl,w0,w1,w2,w3,w4,w5,w6⟩
structure Ah where
 r:Int
 A:Int
 b:Int
 L:List UInt8
 T:Bool
 deriving DecidableEq
instance:Enc Ah:=⟨5,λx=>[.int .i64 x.r,.int .i64 x.A,.int .i64 x.b,.str x.L,.bool x.T],λ_=>rfl,by decide⟩
instance:Dec Ah where
 sh:=[.int .i64,.int .i64,.int .i64,.str,.bool]
 ok x:=okI x.r/\okI x.A/\okI x.b/\x.L.length<=9223372036854775807/\True
 dec cs h:=by obtain ⟨c0,r0,rfl,h0,h⟩:=h.cons_inv;obtain ⟨c1,r1,rfl,h1,h⟩:=h.cons_inv;obtain ⟨c2,r2,rfl,h2,h⟩:=h.cons_inv;obtain ⟨c3,r3,rfl,h3,h⟩:=h.cons_inv;obtain ⟨c4,r4,rfl,h4,h⟩:=h.cons_inv;obtain rfl:=h.nil_inv;obtain ⟨y0,rfl,w0_⟩:=h0.int_inv;have w0:=zbA w0_;obtain ⟨y1,rfl,w1_⟩:=h1.int_inv;have w1:=zbA w1_;obtain ⟨y2,rfl,w2_⟩:=h2.int_inv;have w2:=zbA w2_;obtain ⟨y3,rfl,w3⟩:=h3.str_inv;obtain ⟨y4,rfl⟩:=h4.bool_inv;have w4:=True.intro;exact ⟨(⟨y0,y1,y2,y3,y4⟩:Ah),rfl,w0,w1,w2,w3,w4⟩
instance:Flat Ah:={vals:=λx=>[.int .i64 x.r,.int .i64 x.A,.int .i64 x.b,strV x.L,.bool x.T],flat:=λ_=>rfl}
structure Af where
 C:List UInt8
 j:Ar
 u:Ad
 a:List Ae
 B:List Ah
 J:List Ah
 A:Int
 deriving DecidableEq
instance:Enc Af:=⟨10,λx=>[.str x.C,.str x.j.K,lc x.j.x,.int .i64 x.j.H,.int .i64 x.u.G,lc x.u.m,lc x.a,lc x.B,lc x.J,.int .i64 x.A],λ_=>rfl,by decide⟩
instance:Dec Af where
 sh:=[.str,.str,.sl 2 (Dec.sh Ao),.int .i64,.int .i64,.sl 2 (Dec.sh Am),.sl 7 (Dec.sh Ae),.sl 5 (Dec.sh Ah),.sl 5 (Dec.sh Ah),.int .i64]
 ok x:=x.C.length<=9223372036854775807/\x.j.K.length<=9223372036854775807/\okl x.j.x/\okI x.j.H/\okI x.u.G/\okl x.u.m/\okl x.a/\okl x.B/\okl x.J/\okI x.A
 dec cs h:=by obtain ⟨c0,r0,rfl,h0,h⟩:=h.cons_inv;obtain ⟨c1,r1,rfl,h1,h⟩:=h.cons_inv;obtain ⟨c2,r2,rfl,h2,h⟩:=h.cons_inv;obtain ⟨c3,r3,rfl,h3,h⟩:=h.cons_inv;obtain ⟨c4,r4,rfl,h4,h⟩:=h.cons_inv;obtain ⟨c5,r5,rfl,h5,h⟩:=h.cons_inv;obtain ⟨c6,r6,rfl,h6,h⟩:=h.cons_inv;obtain ⟨c7,r7,rfl,h7,h⟩:=h.cons_inv;obtain ⟨c8,r8,rfl,h8,h⟩:=h.cons_inv;obtain ⟨c9,r9,rfl,h9,h⟩:=h.cons_inv;obtain rfl:=h.nil_inv;obtain ⟨y0,rfl,w0⟩:=h0.str_inv;obtain ⟨y1,rfl,w1⟩:=h1.str_inv;obtain ⟨y2,rfl,w2⟩:=h2.sl_inv (α:=Ao) rfl;obtain ⟨y3,rfl,w3_⟩:=h3.int_inv;have w3:=zbA w3_;obtain ⟨y4,rfl,w4_⟩:=h4.int_inv;have w4:=zbA w4_;obtain ⟨y5,rfl,w5⟩:=h5.sl_inv (α:=Am) rfl;obtain ⟨y6,rfl,w6⟩:=h6.sl_inv (α:=Ae) rfl;obtain ⟨y7,rfl,w7⟩:=h7.sl_inv (α:=Ah) rfl;obtain ⟨y8,rfl,w8⟩:=h8.sl_inv (α:=Ah) rfl;obtain ⟨y9,rfl,w9_⟩:=h9.int_inv;have w9:=zbA w9_;exact ⟨(⟨y0,⟨y1,y2,y3⟩,⟨y4,y5⟩,y6,y7,y8,y9⟩:Af),rfl,w0,w1,w2,w3,w4,w5,w6,w7,w8,w9⟩
structure Op where
 g:List UInt8
 M:Bool
 F:List UInt8
 deriving DecidableEq
instance:Enc Op:=⟨3,λx=>[.str x.g,.bool x.M,.str x.F],λ_=>rfl,by decide⟩
instance:Dec Op where
 sh:=[.str,.bool,.str]
 ok x:=x.g.length<=9223372036854775807/\True/\x.F.length<=9223372036854775807
 dec cs h:=by obtain ⟨c0,r0,rfl,h0,h⟩:=h.cons_inv;obtain ⟨c1,r1,rfl,h1,h⟩:=h.cons_inv;obtain ⟨c2,r2,rfl,h2,h⟩:=h.cons_inv;obtain rfl:=h.nil_inv;obtain ⟨y0,rfl,w0⟩:=h0.str_inv;obtain ⟨y1,rfl⟩:=h1.bool_inv;have w1:=True.intro;obtain ⟨y2,rfl,w2⟩:=h2.str_inv;exact ⟨(⟨y0,y1,y2⟩:Op),rfl,w0,w1,w2⟩
instance:Flat Op:={vals:=λx=>[strV x.g,.bool x.M,strV x.F],flat:=λ_=>rfl}
structure As where
 D:Int
 P:List UInt8
 r:Int
 N:Int
 g:List UInt8
 R:List UInt8
 O:List Op
 deriving DecidableEq
instance:Enc As:=⟨7,λx=>[.int .i64 x.D,.str x.P,.int .i64 x.r,.int .i64 x.N,.str x.g,.str x.R,lc x.O],λ_=>rfl,by decide⟩
instance:Dec As where
 sh:=[.int .i64,.str,.int .i64,.int .i64,.str,.str,.sl 3 (Dec.sh Op)]
 ok x:=okI x.D/\x.P.length<=9223372036854775807/\okI x.r/\okI x.N/\x.g.length<=9223372036854775807/\x.R.length<=9223372036854775807/\okl x.O
 dec cs h:=by obtain ⟨c0,r0,rfl,h0,h⟩:=h.cons_inv;obtain ⟨c1,r1,rfl,h1,h⟩:=h.cons_inv;obtain ⟨c2,r2,rfl,h2,h⟩:=h.cons_inv;obtain ⟨c3,r3,rfl,h3,h⟩:=h.cons_inv;obtain ⟨c4,r4,rfl,h4,h⟩:=h.cons_inv;obtain ⟨c5,r5,rfl,h5,h⟩:=h.cons_inv;obtain ⟨c6,r6,rfl,h6,h⟩:=h.cons_inv;obtain rfl:=h.nil_inv;obtain ⟨y0,rfl,w0_⟩:=h0.int_inv;have w0:=zbA w0_;obtain ⟨y1,rfl,w1⟩:=h1.str_inv;obtain ⟨y2,rfl,w2_⟩:=h2.int_inv;have w2:=zbA w2_;obtain ⟨y3,rfl,w3_⟩:=h3.int_inv;have w3:=zbA w3_;obtain ⟨y4,rfl,w4⟩:=h4.str_inv;obtain ⟨y5,rfl,w5⟩:=h5.str_inv;obtain ⟨y6,rfl,w6⟩:=h6.sl_inv (α:=Op) rfl;exact ⟨(⟨y0,y1,y2,y3,y4,y5,y6⟩:As),rfl,w0,w1,w2,w3,w4,w5,w6⟩
structure KV where
 g:List UInt8
 F:List UInt8
 deriving DecidableEq
instance:Enc KV:=⟨2,λx=>[.str x.g,.str x.F],λ_=>rfl,by decide⟩
instance:Dec KV where
 sh:=[.str,.str]
 ok x:=x.g.length<=9223372036854775807/\x.F.length<=9223372036854775807
 dec cs h:=by obtain ⟨c0,r0,rfl,h0,h⟩:=h.cons_inv;obtain ⟨c1,r1,rfl,h1,h⟩:=h.cons_inv;obtain rfl:=h.nil_inv;obtain ⟨y0,rfl,w0⟩:=h0.str_inv;obtain ⟨y1,rfl,w1⟩:=h1.str_inv;exact ⟨(⟨y0,y1⟩:KV),rfl,w0,w1⟩
instance:Flat KV:={vals:=λx=>[strV x.g,strV x.F],flat:=λ_=>rfl}
structure At where
 S:Int
 N:Int
 L:_root_.List UInt8
 m:_root_.List KV
 deriving DecidableEq
instance:Enc At:=⟨4,λx=>[.int .i64 x.S,.int .i64 x.N,.str x.L,lc x.m],λ_=>rfl,by decide⟩
instance:Dec At where
 sh:=[.int .i64,.int .i64,.str,.sl 2 (Dec.sh KV)]
 ok x:=okI x.S/\okI x.N/\x.L.length<=9223372036854775807/\okl x.m
 dec cs h:=by obtain ⟨c0,r0,rfl,h0,h⟩:=h.cons_inv;obtain ⟨c1,r1,rfl,h1,h⟩:=h.cons_inv;obtain ⟨c2,r2,rfl,h2,h⟩:=h.cons_inv;obtain ⟨c3,r3,rfl,h3,h⟩:=h.cons_inv;obtain rfl:=h.nil_inv;obtain ⟨y0,rfl,w0_⟩:=h0.int_inv;have w0:=zbA w0_;obtain ⟨y1,rfl,w1_⟩:=h1.int_inv;have w1:=zbA w1_;obtain ⟨y2,rfl,w2⟩:=h2.str_inv;obtain ⟨y3,rfl,w3⟩:=h3.sl_inv (α:=KV) rfl;exact ⟨(⟨y0,y1,y2,y3⟩:At),rfl,w0,w1,w2,w3⟩
structure A5 where
 text:List UInt8
 U:Int
 V:Bool
 deriving DecidableEq
instance:Enc A5:=⟨3,λx=>[.str x.text,.int .i64 x.U,.bool x.V],λ_=>rfl,by decide⟩
instance:Dec A5 where
 sh:=[.str,.int .i64,.bool]
 ok x:=x.text.length<=9223372036854775807/\okI x.U/\True
 dec cs h:=by obtain ⟨c0,r0,rfl,h0,h⟩:=h.cons_inv;obtain ⟨c1,r1,rfl,h1,h⟩:=h.cons_inv;obtain ⟨c2,r2,rfl,h2,h⟩:=h.cons_inv;obtain rfl:=h.nil_inv;obtain ⟨y0,rfl,w0⟩:=h0.str_inv;obtain ⟨y1,rfl,w1_⟩:=h1.int_inv;have w1:=zbA w1_;obtain ⟨y2,rfl⟩:=h2.bool_inv;have w2:=True.intro;exact ⟨(⟨y0,y1,y2⟩:A5),rfl,w0,w1,w2⟩
instance:Flat A5:={vals:=λx=>[strV x.text,.int .i64 x.U,.bool x.V],flat:=λ_=>rfl}
def hMix:Pg.follows .mixedOrders=true:=by kernel_rfl
instance:Tab Pg:=⟨.n 6338 2 (.n 2944 0 (.n 2176 0 (.n 1985 1 (.n 1728 0 (.n 1537 1 (.n 1536 0 .e .e) (.n 1538 2 .e .e)) (.n 1984 0 (.n 1729 1 .e .e) .e)) (.n 1988 7 (.n 1987 6 (.n 1986 4 .e .e) .e) (.n 1990 9 (.n 1989 8 .e .e) .e))) (.n 2182 6 (.n 2179 3 (.n 2178 2 (.n 2177 1 .e .e) .e) (.n 2181 5 (.n 2180 4 .e .e) .e)) (.n 2498 2 (.n 2497 1 (.n 2496 0 .e .e) .e) (.n 2689 1 (.n 2688 0 .e .e) .e)))) (.n 3521 1 (.n 2950 9 (.n 2947 6 (.n 2946 4 (.n 2945 1 .e .e) .e) (.n 2949 8 (.n 2948 7 .e .e) .e)) (.n 3138 2 (.n 3137 1 (.n 3136 0 .e .e) .e) (.n 3520 0 (.n 3139 3 .e .e) .e))) (.n 6208 0 (.n 3524 4 (.n 3523 3 (.n 3522 2 .e .e) .e) (.n 3526 6 (.n 3525 5 .e .e) .e)) (.n 6211 3 (.n 6210 2 (.n 6209 1 .e .e) .e) (.n 6337 1 (.n 6336 0 .e .e) .e))))) (.n 7747 3 (.n 7171 3 (.n 6720 0 (.n 6530 2 (.n 6528 0 (.n 6339 3 .e .e) (.n 6529 1 .e .e)) (.n 6532 4 (.n 6531 3 .e .e) .e)) (.n 7168 0 (.n 6722 2 (.n 6721 1 .e .e) .e) (.n 7170 2 (.n 7169 1 .e .e) .e))) (.n 7425 1 (.n 7298 2 (.n 7297 1 (.n 7296 0 .e .e) .e) (.n 7424 0 (.n 7299 3 .e .e) .e)) (.n 7744 0 (.n 7553 1 (.n 7552 0 .e .e) .e) (.n 7746 2 (.n 7745 1 .e .e) .e)))) (.n 10627 3 (.n 9281 1 (.n 8449 1 (.n 8448 0 (.n 7748 4 .e .e) .e) (.n 9280 0 (.n 8450 2 .e .e) .e)) (.n 10624 0 (.n 9857 1 (.n 9856 0 .e .e) .e) (.n 10626 2 (.n 10625 1 .e .e) .e))) (.n 16128 0 (.n 15552 0 (.n 11713 1 (.n 11712 0 .e .e) .e) (.n 15554 2 (.n 15553 1 .e .e) .e)) (.n 16131 3 (.n 16130 2 (.n 16129 1 .e .e) .e) (.n 19969 1 (.n 19968 0 .e .e) .e))))),.n 93 2 (.n 34 15 (.n 25 2 (.n 9 2 (.n 4 2 (.n 3 2 .e .e) (.n 5 2 .e .e)) (.n 24 7 (.n 22 2 .e .e) .e)) (.n 29 2 (.n 28 2 (.n 27 5 .e .e) .e) (.n 32 2 (.n 31 21 .e .e) .e))) (.n 44 2 (.n 40 2 (.n 39 7 (.n 37 2 .e .e) .e) (.n 43 2 (.n 42 5 .e .e) .e)) (.n 49 9 (.n 47 2 (.n 46 21 .e .e) .e) (.n 55 15 (.n 53 2 .e .e) .e)))) (.n 121 11 (.n 109 2 (.n 99 15 (.n 95 2 (.n 94 2 .e .e) (.n 97 9 .e .e)) (.n 105 7 (.n 102 11 .e .e) .e)) (.n 114 15 (.n 112 9 (.n 110 2 .e .e) .e) (.n 118 5 (.n 116 5 .e .e) .e))) (.n 205 2 (.n 154 5 (.n 145 5 (.n 132 7 .e .e) .e) (.n 183 5 (.n 166 9 .e .e) .e)) (.n 274 2 (.n 252 9 (.n 243 7 .e .e) .e) (.n 310 2 (.n 275 33 .e .e) .e)))),.n 44 5 (.n 32 3 (.n 28 7 (.n 25 2 (.n 22 2 .e .e) .e) (.n 29 5 .e .e)) (.n 40 2 (.n 37 2 .e .e) (.n 43 7 .e .e))) (.n 95 1 (.n 93 4 (.n 53 3 (.n 47 2 .e .e) .e) (.n 94 1 .e .e)) (.n 110 1 (.n 109 4 .e .e) (.n 205 1 .e .e))),by kernel_rfl,by kernel_rfl,by kernel_rfl⟩
def kk9:kindB Pg 9=some (false,1):=by kernel_rfl
def ks9:isStrB Pg 9=true:=by kernel_rfl
def ke94:elemB Pg 94=some (93,1,24):=by kernel_rfl
def kk93:kindB Pg 93=some (false,1):=by kernel_rfl
def ke95:elemB Pg 95=some (3,1,8):=by kernel_rfl
def kk95:kindB Pg 95=some (false,1):=by kernel_rfl
def ke28:elemB Pg 28=some (99,7,104):=by kernel_rfl
def kk99:kindB Pg 99=some (true,7):=by kernel_rfl
def kz116:zeroB Pg 116=some (.agg #[.int .i64 (0:Int),strV ([])]):=by kernel_rfl
def kk3:kindB Pg 3=some (false,1):=by kernel_rfl
def zzp:fieldB Pg 116 1=some 1:=by kernel_rfl
def kk116:kindB Pg 116=some (true,2):=by kernel_rfl
def ke37:elemB Pg 37=some (116,2,24):=by kernel_rfl
def kz39:zeroB Pg 39=some (.agg #[strV ([]),.slice none 0 0,.int .i64 (0:Int)]):=by kernel_rfl
def kk37:kindB Pg 37=some (false,1):=by kernel_rfl
def kk39:kindB Pg 39=some (true,3):=by kernel_rfl
def kz118:zeroB Pg 118=some (.agg #[.int .i64 (0:Int),.int .i64 (0:Int)]):=by kernel_rfl
def zzq:fieldB Pg 118 1=some 1:=by kernel_rfl
def kk118:kindB Pg 118=some (true,2):=by kernel_rfl
def ke40:elemB Pg 40=some (118,2,16):=by kernel_rfl
def kz42:zeroB Pg 42=some (.agg #[.int .i64 (0:Int),.slice none 0 0]):=by kernel_rfl
def kk40:kindB Pg 40=some (false,1):=by kernel_rfl
def kk42:kindB Pg 42=some (true,2):=by kernel_rfl
def kz166:zeroB Pg 166=some (.agg #[strV ([]),.int .i64 (0:Int),.bool false,strV ([])]):=by kernel_rfl
def zzy:fieldB Pg 166 1=some 1:=by kernel_rfl
def kk4:kindB Pg 4=some (false,1):=by kernel_rfl
def zzz:fieldB Pg 166 2=some 2:=by kernel_rfl
def zzA:fieldB Pg 166 3=some 3:=by kernel_rfl
def kk166:kindB Pg 166=some (true,4):=by kernel_rfl
def ke109:elemB Pg 109=some (166,4,48):=by kernel_rfl
def kz109:zeroB Pg 109=some (.slice none 0 0):=by kernel_rfl
def ke110:elemB Pg 110=some (109,1,24):=by kernel_rfl
def kk109:kindB Pg 109=some (false,1):=by kernel_rfl
def kz3:zeroB Pg 3=some (.int .i64 (0:Int)):=by kernel_rfl
def kz112:zeroB Pg 112=some (.agg #[.slice none 0 0,.slice none 0 0,.int .i64 (0:Int),.slice none 0 0]):=by kernel_rfl
def zkn:fieldB Pg 112 0=some 0:=by kernel_rfl
def ze1:fieldB Pg 112 1=some 1:=by kernel_rfl
def kk110:kindB Pg 110=some (false,1):=by kernel_rfl
def zl2:fieldB Pg 112 2=some 2:=by kernel_rfl
def zf2:fieldB Pg 112 3=some 3:=by kernel_rfl
def kk112:kindB Pg 112=some (true,4):=by kernel_rfl
def kz114:zeroB Pg 114=some (.agg #[.int .i64 (0:Int),.int .i64 (0:Int),.int .i64 (0:Int),.slice none 0 0,.slice none 0 0,.int .i64 (0:Int),.slice none 0 0]):=by kernel_rfl
def ze2:fieldB Pg 114 0=some 0:=by kernel_rfl
def zhp:fieldB Pg 114 1=some 1:=by kernel_rfl
def zoA:fieldB Pg 114 2=some 2:=by kernel_rfl
def zV:fieldB Pg 114 3=some 3:=by kernel_rfl
def kk114:kindB Pg 114=some (true,7):=by kernel_rfl
def ke43:elemB Pg 43=some (114,7,104):=by kernel_rfl
def kz121:zeroB Pg 121=some (.agg #[.int .i64 (0:Int),.int .i64 (0:Int),.int .i64 (0:Int),strV ([]),.bool false]):=by kernel_rfl
def zzr:fieldB Pg 121 1=some 1:=by kernel_rfl
def zzs:fieldB Pg 121 2=some 2:=by kernel_rfl
def zzt:fieldB Pg 121 3=some 3:=by kernel_rfl
def zzu:fieldB Pg 121 4=some 4:=by kernel_rfl
def kk121:kindB Pg 121=some (true,5):=by kernel_rfl
def ke44:elemB Pg 44=some (121,5,48):=by kernel_rfl
def kz46:zeroB Pg 46=some (.agg #[strV ([]),strV ([]),.slice none 0 0,.int .i64 (0:Int),.int .i64 (0:Int),.slice none 0 0,.slice none 0 0,.slice none 0 0,.slice none 0 0,.int .i64 (0:Int)]):=by kernel_rfl
def kk43:kindB Pg 43=some (false,1):=by kernel_rfl
def kk44:kindB Pg 44=some (false,1):=by kernel_rfl
def kk46:kindB Pg 46=some (true,10):=by kernel_rfl
def kz132:zeroB Pg 132=some (.agg #[strV ([]),.bool false,strV ([])]):=by kernel_rfl
def zzv:fieldB Pg 132 1=some 1:=by kernel_rfl
def zzw:fieldB Pg 132 2=some 2:=by kernel_rfl
def kk132:kindB Pg 132=some (true,3):=by kernel_rfl
def ke53:elemB Pg 53=some (132,3,40):=by kernel_rfl
def kz55:zeroB Pg 55=some (.agg #[.int .i64 (0:Int),strV ([]),.int .i64 (0:Int),.int .i64 (0:Int),strV ([]),strV ([]),.slice none 0 0]):=by kernel_rfl
def kk53:kindB Pg 53=some (false,1):=by kernel_rfl
def kk55:kindB Pg 55=some (true,7):=by kernel_rfl
def kp132:placesB Pg 132=some [(0,1),(1,1),(2,1)]:=by kernel_rfl
def ki3:intB Pg 3=some .i64:=by kernel_rfl
def ki5:intB Pg 5=some .u8:=by kernel_rfl
def kz5:zeroB Pg 5=some (.int .u8 (0:Int)):=by kernel_rfl
def ke205:elemB Pg 205=some (5,1,1):=by kernel_rfl
def kp112:placesB Pg 112=some [(0,1),(1,1),(2,1),(3,1)]:=by kernel_rfl
def kp166:placesB Pg 166=some [(0,1),(1,1),(2,1),(3,1)]:=by kernel_rfl
def keq166:eqTB Pg 166=some [2,0,1,2]:=by kernel_rfl
def kz49:zeroB Pg 49=some (.agg #[.int .i64 (0:Int),.int .i64 (0:Int),strV ([]),.slice none 0 0]):=by kernel_rfl
def kp49:placesB Pg 49=some [(0,1),(1,1),(2,1),(3,1)]:=by kernel_rfl
def kk49:kindB Pg 49=some (true,4):=by kernel_rfl
def kp42:placesB Pg 42=some [(0,1),(1,1)]:=by kernel_rfl
def kp46:placesB Pg 46=some [(0,1),(1,3),(4,2),(6,1),(7,1),(8,1),(9,1)]:=by kernel_rfl
def kp118:placesB Pg 118=some [(0,1),(1,1)]:=by kernel_rfl
def kp39:placesB Pg 39=some [(0,1),(1,1),(2,1)]:=by kernel_rfl
def kp116:placesB Pg 116=some [(0,1),(1,1)]:=by kernel_rfl
def kp114:placesB Pg 114=some [(0,1),(1,1),(2,1),(3,4)]:=by kernel_rfl
def kz145:zeroB Pg 145=some (.agg #[strV ([]),strV ([])]):=by kernel_rfl
def ke47:elemB Pg 47=some (145,2,32):=by kernel_rfl
def kp145:placesB Pg 145=some [(0,1),(1,1)]:=by kernel_rfl
def zzx:fieldB Pg 145 1=some 1:=by kernel_rfl
def kk145:kindB Pg 145=some (true,2):=by kernel_rfl
def kp121:placesB Pg 121=some [(0,1),(1,1),(2,1),(3,1),(4,1)]:=by kernel_rfl
def ki272:intB Pg 272=some .u64:=by kernel_rfl
def kk5:kindB Pg 5=some (false,1):=by kernel_rfl
def ki274:intB Pg 274=some .u32:=by kernel_rfl
def kz275:zeroB Pg 275=some (arrV (Ba 16 (Wrd.mk 0))):=by kernel_rfl
def ka275:arrB Pg 275=some (16,274,1):=by kernel_rfl
def kk275:kindB Pg 275=some (true,16):=by kernel_rfl
def kk274:kindB Pg 274=some (false,1):=by kernel_rfl
def kz243:zeroB Pg 243=some (.agg #[strV ([]),.int .i64 (0:Int),.bool false]):=by kernel_rfl
def kp243:placesB Pg 243=some [(0,1),(1,1),(2,1)]:=by kernel_rfl
def kk243:kindB Pg 243=some (true,3):=by kernel_rfl
def zzB:fieldTB Pg 112 1=some (1,110):=by kernel_rfl
def kz312:zeroB Pg 312=some (.agg #[.pointer none,.slice none 0 0]):=by kernel_rfl
def kk310:kindB Pg 310=some (false,1):=by kernel_rfl
def kk205:kindB Pg 205=some (false,1):=by kernel_rfl
def kc335:callB Pg 335=true:=by kernel_rfl
def kp310:ptrB Pg 310=some (312,2):=by kernel_rfl
def kp330:ptrB Pg 330=some (5,1):=by kernel_rfl
def ku334:unsB Pg 334=true:=by kernel_rfl
def kl312:liesAt Pg Pg.depth 312 (2 / Pg.cellsOf 312) 0 312 1=true:=by kernel_rfl
def kc315:callB Pg 315=true:=by kernel_rfl
def kc318:callB Pg 318=true:=by kernel_rfl
def kb4:Pg.underlying 4=some .bool:=by kernel_rfl
def hu31:Pg.underlying 31=some (.struct #[⟨ "Secret",9,0,An,"","",0⟩,⟨ "Keys",24,1,An,"","",16⟩,⟨ "Shares",27,4,An,"","",64⟩,⟨ "Tens",28,6,An,"","",96⟩,⟨ "Rows",29,7,An,"","",120⟩,⟨ "Hist",29,8,An,"","",144⟩,⟨ "Boot",3,9,An,"","",168⟩]):=by kernel_rfl
def hs31:shB Pg 20 31=some (Dec.sh Af):=by kernel_rfl
def hu34:Pg.underlying 34=some (.struct #[⟨ "Kind",3,0,An,"","",0⟩,⟨ "Token",9,1,An,"","",8⟩,⟨ "Tenant",3,2,An,"","",24⟩,⟨ "N",3,3,An,"","",32⟩,⟨ "Key",9,4,An,"","",40⟩,⟨ "To",9,5,An,"","",56⟩,⟨ "Ops",32,6,An,"","",72⟩]):=by kernel_rfl
def hs34:shB Pg 20 34=some (Dec.sh As):=by kernel_rfl
def zek (a:Ao) (left:Int):Option Int:=if Dc (I6.wrap (left - (a.g.length:Int))<0)then some (-1:Int)else some (I6.wrap (left - (a.g.length:Int)))
def zpU {a:Ao} {left:Int} :Cn Pg 106 [.agg #[iv a.r,strV a.g],iv left] [] [] (zek a left) (λr (_:Unit)=>iv r) λ_ _=>[]:=Ch Tryz.func106 r λw S Z=>Sr<|Fo (Bx r (Cp r)) λc=>Qs 1 r<|Nx<|Dt Z 5 [0,0] r<|Yo (Y.slen ks9 r)<|Qs 2 r<|Nx<|Dw Z 6 [] r<|Wc r (λb=>Dw Z 4 [] r<|Wv<|Rq) λb=>Sn<|Dw Z 5 [] r<|Wr<|Rq
def zfn (a:List Ao) (left:Int):Option Int:=if Dc (I6.wrap (left - (a.length:Int))<0)then some (-1:Int)else bindC (loopO (λ(b:Int × Int)=>if Dc (b.2<(a.length:Int))then Bb (idx a b.2) λd=>Bb (zek d b.1) λc=>if Dc (c<0)then some (.done (.done (-1:Int)))else some (.go (c,I6.wrap (b.2+1)))else some (.done (.go b.1))) (I6.wrap (left - (a.length:Int)),(0:Int))) (λ(e:Int)=>some e)
def zo3 {a:List Ao} {left:Int} :Cn Pg 53 [U0,iv left] [] [(U0,lc a)] (zfn a left) (λr (_:Unit)=>iv r) λ_ _=>[]:=Ch Tryz.func53 r λw S Z=>by
 refine Dw Z 18 [100] r<|Wc r (λb=>Dw Z 4 [] r<|Wv<|Rq) λb=>Sn<|Dw Z 5 [] r<|Ju [] (λT=>[(1,iv T)]) r1 (?_) λf=>?_
 ·exact Wb<|Lu [0] (λT=>[(1,iv T.1),(5,iv T.2)]) r1 λg=>Dw Z 8 [100] r<|Wc r (λc=>Sn<|Dt Z 6 [] r<|Bi λh d=>Vv (Kx Z (Xc d<|Xz)) 3 [100,0,300,0,0] r<|Cc Z [] [] zpU r r2 λi j _=>Qs 1 r<|Nx<|Dw Z 5 [] r<|Wc r (λe=>Dw Z 4 [] r<|Wr<|Bu<|Rq) λe=>Sk<|Bn<|Ne<|Rg<|Qs 3 r<|Nl<|Lq) λc=>We<|Jq
 exact Ne<|Dw Z 5 [] r<|Wr<|Rq
def zgR (a:Ar) (left:Int):Option Int:=if Dc (I6.wrap (left - (a.K.length:Int))<0)then some (-1:Int)else Bb (zfn a.x (I6.wrap (left - (a.K.length:Int)))) λb=>if Dc (b<0)then some (-1:Int)else some b
def zqQ {a:Ar} {left:Int} :Cn Pg 18 [.agg #[strV a.K,U0,iv a.H],iv left] [] [(U0,lc a.x)] (zgR a left) (λr (_:Unit)=>iv r) λ_ _=>[]:=Ch Tryz.func18 r λw S Z=>Sr<|Fo (Bx r (Ca ⟨Op',Ob Z.1,Op',⟨⟩⟩)) λd=>Qs 1 r<|Nx<|Dt Z 5 [0,0] r<|Yo (Y.slen ks9 r)<|Qs 2 r<|Nx<|Dw Z 6 [] r<|Wc r (λb=>Dw Z 4 [] r<|Wv<|Rq) λb=>Sn<|Dt Z 5 [0,0] r<|Cc Z [] [100] zo3 r r2 λe f _=>Qs 1 r<|Nx<|Dw Z 6 [] r<|Wc r (λc=>Dw Z 4 [] r<|Wv<|Rq) λc=>Sn<|Dw Z 5 [] r<|Wr<|Rq
def zgS (a:List Am) (left:Int):Option Int:=if Dc (I6.wrap (left - (a.length:Int))<0)then some (-1:Int)else some (I6.wrap (left - (a.length:Int)))
def zqS {a:List Am} {left:Int} :Cn Pg 54 [U0,iv left] [] [(U0,lc a)] (zgS a left) (λr (_:Unit)=>iv r) λ_ _=>[]:=Ch Tryz.func54 r λw S Z=>Dw Z 18 [100] r<|Wc r (λb=>Dw Z 4 [] r<|Wv<|Rq) λb=>Sn<|Dw Z 5 [] r<|Wr<|Rq
def zgT (a:Ad) (left:Int):Option Int:=Bb (zgS a.m left) λb=>if Dc (b<0)then some (-1:Int)else some b
def zqT {a:Ad} {left:Int} :Cn Pg 19 [.agg #[iv a.G,U0],iv left] [] [(U0,lc a.m)] (zgT a left) (λr (_:Unit)=>iv r) λ_ _=>[]:=Ch Tryz.func19 r λw S Z=>Sr<|Fo (Bx r (Ca ⟨Op',Ob Z.1,⟨⟩⟩)) λc=>Qs 1 r<|Nx<|Dt Z 5 [0,0] r<|Cc Z [] [100] zqS r r2 λd e _=>Qs 1 r<|Nx<|Dw Z 6 [] r<|Wc r (λb=>Dw Z 4 [] r<|Wv<|Rq) λb=>Sn<|Dw Z 5 [] r<|Wr<|Rq
def zh6 (a:Ac) (left:Int):Option Int:=if Dc (I6.wrap (left - (a.g.length:Int))<0)then some (-1:Int)else if Dc (I6.wrap (I6.wrap (left - (a.g.length:Int)) - (a.F.length:Int))<0)then some (-1:Int)else some (I6.wrap (I6.wrap (left - (a.g.length:Int)) - (a.F.length:Int)))
def zuL {a:Ac} {left:Int} :Cn Pg 235 [.agg #[strV a.g,iv a.b,.bool a.M,strV a.F],iv left] [] [] (zh6 a left) (λr (_:Unit)=>iv r) λ_ _=>[]:=Ch Tryz.func235 r λw S Z=>Sr<|Fo (Bx r (Cp r)) λe=>Qs 1 r<|Nx<|Dt Z 5 [0,0] r<|Yo (Y.slen ks9 r)<|Qs 2 r<|Nx<|Dw Z 6 [] r<|Wc r (λc=>Dw Z 4 [] r<|Wv<|Rq) λc=>Sn<|Dt Z 5 [0,0] r<|Yo (Y.slen ks9 r)<|Qs 2 r<|Nx<|Dw Z 6 [] r<|Wc r (λd=>Dw Z 4 [] r<|Wv<|Rq) λd=>Sn<|Dw Z 5 [] r<|Wr<|Rq
def ze3 (a:List Ac) (left:Int):Option Int:=if Dc (I6.wrap (left - (a.length:Int))<0)then some (-1:Int)else bindC (loopO (λ(b:Int × Int)=>if Dc (b.2<(a.length:Int))then Bb (idx a b.2) λd=>Bb (zh6 d b.1) λc=>if Dc (c<0)then some (.done (.done (-1:Int)))else some (.go (c,I6.wrap (b.2+1)))else some (.done (.go b.1))) (I6.wrap (left - (a.length:Int)),(0:Int))) (λ(e:Int)=>some e)
def znf {a:List Ac} {left:Int} :Cn Pg 166 [U0,iv left] [] [(U0,lc a)] (ze3 a left) (λr (_:Unit)=>iv r) λ_ _=>[]:=Ch Tryz.func166 r λw S Z=>by
 refine Dw Z 18 [100] r<|Wc r (λb=>Dw Z 4 [] r<|Wv<|Rq) λb=>Sn<|Dw Z 5 [] r<|Ju [] (λT=>[(1,iv T)]) r1 (?_) λf=>?_
 ·exact Wb<|Lu [0] (λT=>[(1,iv T.1),(5,iv T.2)]) r1 λg=>Dw Z 8 [100] r<|Wc r (λc=>Sn<|Dt Z 6 [] r<|Bi λh d=>Vv (Kx Z (Xc d<|Xz)) 3 [100,0,300,0,0] r<|Cc Z [] [] zuL r r2 λi j _=>Qs 1 r<|Nx<|Dw Z 5 [] r<|Wc r (λe=>Dw Z 4 [] r<|Wr<|Bu<|Rq) λe=>Sk<|Bn<|Ne<|Rg<|Qs 3 r<|Nl<|Lq) λc=>We<|Jq
 exact Ne<|Dw Z 5 [] r<|Wr<|Rq
def zh7 (a:List (List Ac)) (left:Int):Option Int:=if Dc (I6.wrap (left - (a.length:Int))<0)then some (-1:Int)else bindC (loopO (λ(b:Int × Int)=>if Dc (b.2<(a.length:Int))then Bb (idx a b.2) λd=>Bb (ze3 d b.1) λc=>if Dc (c<0)then some (.done (.done (-1:Int)))else some (.go (c,I6.wrap (b.2+1)))else some (.done (.go b.1))) (I6.wrap (left - (a.length:Int)),(0:Int))) (λ(e:Int)=>some e)
def zsf {a:List (List Ac)} {left:Int} :Cn Pg 167 [U0,iv left] [] [(U0,lc a)] (zh7 a left) (λr (_:Unit)=>iv r) λ_ _=>[]:=Ch Tryz.func167 r λw S Z=>by
 refine Dw Z 18 [100] r<|Wc r (λc=>Dw Z 4 [] r<|Wv<|Rq) λc=>Sn<|Dw Z 5 [] r<|Ju [] (λT=>[(1,iv T)]) r1 (?_) λg=>?_
 ·refine Wb<|Lu [0] (λT=>[(1,iv T.1),(5,iv T.2)]) r1 λh=>Dw Z 8 [100] r<|Wc r (λd=>?_) λd=>?_
  ·refine Sn<|Dt Z 6 [] r<|Bi λi b=>Yo (Ix ke94 (Bc Z.1) b r)<|?_
   have e:=Bj 0 Z.1 b r;exact Yo (Lz kk93 Z.1 b r)<|Qs 1 r<|Cc (Bq e<|Z) [] [100] znf r r2 λj k _=>Qs 1 r<|Nx<|Dw Z 5 [] r<|Wc r (λf=>Dw Z 4 [] r<|Wr<|Bu<|Rq) λf=>Sk<|Bn<|Ne<|Rg<|Qs 3 r<|Nl<|Lq
  exact We<|Jq
 exact Ne<|Dw Z 5 [] r<|Wr<|Rq
def zi2 (a:List Int) (left:Int):Option Int:=if Dc (I6.wrap (left - (a.length:Int))<0)then some (-1:Int)else some (I6.wrap (left - (a.length:Int)))
def ztT {a:List Int} {left:Int} :Cn Pg 168 [U0,iv left] [] [(U0,lc a)] (zi2 a left) (λr (_:Unit)=>iv r) λ_ _=>[]:=Ch Tryz.func168 r λw S Z=>Dw Z 18 [100] r<|Wc r (λb=>Dw Z 4 [] r<|Wv<|Rq) λb=>Sn<|Dw Z 5 [] r<|Wr<|Rq
def zj8 (a:Aa) (left:Int):Option Int:=Bb (ze3 a.s left) λb=>if Dc (b<0)then some (-1:Int)else Bb (zh7 a.q b) λc=>if Dc (c<0)then some (-1:Int)else Bb (zi2 a.t c) λd=>if Dc (d<0)then some (-1:Int)else some d
def zuK {a:Aa} {left:Int} :Cn Pg 107 [.agg #[U0,U1,iv a.b,U2],iv left] [] [(U0,lc a.s),(U1,lc a.q),(U2,lc a.t)] (zj8 a left) (λr (_:Unit)=>iv r) λ_ _=>[]:=Ch Tryz.func107 r λw S Z=>Sr<|Fo (Bx r (Ca ⟨Ob Z.1,Ob Z.2.1,Op',Ob Z.2.2.1,⟨⟩⟩)) λf=>Qs 1 r<|Nx<|Dt Z 5 [0,0] r<|Cc Z [] [100] znf r r2 λg h _=>Qs 1 r<|Nx<|Dw Z 6 [] r<|Wc r (λc=>Dw Z 4 [] r<|Wv<|Rq) λc=>Sn<|Dt Z 5 [0,0] r<|Cc Z [] [101] zsf r r2 λi j _=>Qs 1 r<|Nx<|Dw Z 6 [] r<|Wc r (λd=>Dw Z 4 [] r<|Wv<|Rq) λd=>Sn<|Dt Z 5 [0,0] r<|Cc Z [] [102] ztT r r2 λk l _=>Qs 1 r<|Nx<|Dw Z 6 [] r<|Wc r (λe=>Dw Z 4 [] r<|Wv<|Rq) λe=>Sn<|Dw Z 5 [] r<|Wr<|Rq
def zgF (a:Ae) (left:Int):Option Int:=Bb (zj8 a.c left) λb=>if Dc (b<0)then some (-1:Int)else some b
def ztU {a:Ae} {left:Int} :Cn Pg 55 [.agg #[iv a.p,iv a.I,iv a.E,U0,U1,iv a.c.b,U2],iv left] [] [(U0,lc a.c.s),(U1,lc a.c.q),(U2,lc a.c.t)] (zgF a left) (λr (_:Unit)=>iv r) λ_ _=>[]:=Ch Tryz.func55 r λw S Z=>Sr<|Fo (Bx r (Ca ⟨Op',Op',Op',Ob Z.1,Ob Z.2.1,Op',Ob Z.2.2.1,⟨⟩⟩)) λe=>Qs 1 r<|Nx<|Dt Z 5 [0,0] r<|Cc Z [] [100,101,102] zuK r r2 λf g _=>Qs 1 r<|Nx<|Dw Z 6 [] r<|Wc r (λd=>Dw Z 4 [] r<|Wv<|Rq) λd=>Sn<|Dw Z 5 [] r<|Wr<|Rq
def zh8 (a:List Ae) (left:Int):Option Int:=if Dc (I6.wrap (left - (a.length:Int))<0)then some (-1:Int)else bindC (loopO (λ(b:Int × Int)=>if Dc (b.2<(a.length:Int))then Bb (idx a b.2) λd=>Bb (zgF d b.1) λc=>if Dc (c<0)then some (.done (.done (-1:Int)))else some (.go (c,I6.wrap (b.2+1)))else some (.done (.go b.1))) (I6.wrap (left - (a.length:Int)),(0:Int))) (λ(e:Int)=>some e)
def zsg {a:List Ae} {left:Int} :Cn Pg 20 [U0,iv left] [] [(U0,lc a)] (zh8 a left) (λr (_:Unit)=>iv r) λ_ _=>[]:=Ch Tryz.func20 r λw S Z=>by
 refine Dw Z 18 [100] r<|Wc r (λc=>Dw Z 4 [] r<|Wv<|Rq) λc=>Sn<|Dw Z 5 [] r<|Ju [] (λT=>[(1,iv T)]) r1 (?_) λi=>?_
 ·refine Wb<|Lu [0] (λT=>[(1,iv T.1),(5,iv T.2)]) r1 λj=>Dw Z 8 [100] r<|Wc r (λd=>?_) λd=>?_
  ·refine Sn<|Dt Z 6 [] r<|Bi λk b=>Yo (Ix ke28 (Bc Z.1) b r)<|?_
   have e:=Bj 3 Z.1 b r;have f:=Bj 4 Z.1 b r;have g:=Bj 6 Z.1 b r;exact Yo (Lz kk99 Z.1 b r)<|Qs 1 r<|Cc (Bq e<|Bq f<|Bq g<|Z) [] [100,101,102] ztU r r2 λl m _=>Qs 1 r<|Nx<|Dw Z 5 [] r<|Wc r (λh=>Dw Z 4 [] r<|Wr<|Bu<|Rq) λh=>Sk<|Bn<|Ne<|Rg<|Qs 3 r<|Nl<|Lq
  exact We<|Jq
 exact Ne<|Dw Z 5 [] r<|Wr<|Rq
def zeW (a:Ah) (left:Int):Option Int:=if Dc (I6.wrap (left - (a.L.length:Int))<0)then some (-1:Int)else some (I6.wrap (left - (a.L.length:Int)))
def zqR {a:Ah} {left:Int} :Cn Pg 56 [.agg #[iv a.r,iv a.A,iv a.b,strV a.L,.bool a.T],iv left] [] [] (zeW a left) (λr (_:Unit)=>iv r) λ_ _=>[]:=Ch Tryz.func56 r λw S Z=>Sr<|Fo (Bx r (Cp r)) λd=>Qs 1 r<|Nx<|Dt Z 5 [0,0] r<|Yo (Y.slen ks9 r)<|Qs 2 r<|Nx<|Dw Z 6 [] r<|Wc r (λc=>Dw Z 4 [] r<|Wv<|Rq) λc=>Sn<|Dw Z 5 [] r<|Wr<|Rq
def zel (a:List Ah) (left:Int):Option Int:=if Dc (I6.wrap (left - (a.length:Int))<0)then some (-1:Int)else bindC (loopO (λ(b:Int × Int)=>if Dc (b.2<(a.length:Int))then Bb (idx a b.2) λd=>Bb (zeW d b.1) λc=>if Dc (c<0)then some (.done (.done (-1:Int)))else some (.go (c,I6.wrap (b.2+1)))else some (.done (.go b.1))) (I6.wrap (left - (a.length:Int)),(0:Int))) (λ(e:Int)=>some e)
def zkJ {a:List Ah} {left:Int} :Cn Pg 21 [U0,iv left] [] [(U0,lc a)] (zel a left) (λr (_:Unit)=>iv r) λ_ _=>[]:=Ch Tryz.func21 r λw S Z=>by
 refine Dw Z 18 [100] r<|Wc r (λb=>Dw Z 4 [] r<|Wv<|Rq) λb=>Sn<|Dw Z 5 [] r<|Ju [] (λT=>[(1,iv T)]) r1 (?_) λf=>?_
 ·exact Wb<|Lu [0] (λT=>[(1,iv T.1),(5,iv T.2)]) r1 λg=>Dw Z 8 [100] r<|Wc r (λc=>Sn<|Dt Z 6 [] r<|Bi λh d=>Vv (Kx Z (Xc d<|Xz)) 3 [100,0,300,0,0] r<|Cc Z [] [] zqR r r2 λi j _=>Qs 1 r<|Nx<|Dw Z 5 [] r<|Wc r (λe=>Dw Z 4 [] r<|Wr<|Bu<|Rq) λe=>Sk<|Bn<|Ne<|Rg<|Qs 3 r<|Nl<|Lq) λc=>We<|Jq
 exact Ne<|Dw Z 5 [] r<|Wr<|Rq
def zh9 (a:Af) (left:Int):Option Int:=if Dc (I6.wrap (left - (a.C.length:Int))<0)then some (-1:Int)else Bb (zgR a.j (I6.wrap (left - (a.C.length:Int)))) λb=>if Dc (b<0)then some (-1:Int)else Bb (zgT a.u b) λc=>if Dc (c<0)then some (-1:Int)else Bb (zh8 a.a c) λd=>if Dc (d<0)then some (-1:Int)else Bb (zel a.B d) λe=>if Dc (e<0)then some (-1:Int)else Bb (zel a.J e) λf=>if Dc (f<0)then some (-1:Int)else some f
def zsh {a:Af} {left:Int} {U3 U4:Value} :Cn Pg 4 [.agg #[strV a.C,strV a.j.K,U0,iv a.j.H,iv a.u.G,U1,U2,U3,U4,iv a.A],iv left] [] [(U0,lc a.j.x),(U1,lc a.u.m),(U2,lc a.a),(U3,lc a.B),(U4,lc a.J)] (zh9 a left) (λr (_:Unit)=>iv r) λ_ _=>[]:=Ch Tryz.func4 r λw S Z=>by
 refine Sr<|Fo (Bx r (Ca ⟨Op',Op',Ob Z.1,Op',Op',Ob Z.2.1,Ob Z.2.2.1,Ob Z.2.2.2.1,Ob Z.2.2.2.2.1,Op',⟨⟩⟩)) λh=>Qs 1 r<|Nx<|Dt Z 5 [0,0] r<|Yo (Y.slen ks9 r)<|Qs 2 r<|Nx<|Dw Z 6 [] r<|Wc r (λb=>Dw Z 4 [] r<|Wv<|Rq) λb=>Sn<|Dt Z 5 [0,0] r<|Cc Z [] [100] zqQ r r2 λi k _=>Qs 1 r<|Nx<|Dw Z 6 [] r<|Wc r (λc=>Dw Z 4 [] r<|Wv<|Rq) λc=>Sn<|Dt Z 5 [0,0] r<|Cc Z [] [101] zqT r r2 λl n _=>Qs 1 r<|Nx<|Dw Z 6 [] r<|Wc r (λd=>Dw Z 4 [] r<|Wv<|Rq) λd=>?_
 exact Sn<|Dt Z 5 [0,0] r<|Cc Z [] [102] zsg r r2 λo p _=>Qs 1 r<|Nx<|Dw Z 6 [] r<|Wc r (λe=>Dw Z 4 [] r<|Wv<|Rq) λe=>Sn<|Dt Z 5 [0,0] r<|Cc Z [] [103] zkJ r r2 λq s _=>Qs 1 r<|Nx<|Dw Z 6 [] r<|Wc r (λf=>Dw Z 4 [] r<|Wv<|Rq) λf=>Sn<|Dt Z 5 [0,0] r<|Cc Z [] [104] zkJ r r2 λt v _=>Qs 1 r<|Nx<|Dw Z 6 [] r<|Wc r (λg=>Dw Z 4 [] r<|Wv<|Rq) λg=>Sn<|Dw Z 5 [] r<|Wr<|Rq
def zjo (a:Op) (left:Int):Option Int:=if Dc (I6.wrap (left - (a.g.length:Int))<0)then some (-1:Int)else if Dc (I6.wrap (I6.wrap (left - (a.g.length:Int)) - (a.F.length:Int))<0)then some (-1:Int)else some (I6.wrap (I6.wrap (left - (a.g.length:Int)) - (a.F.length:Int)))
def zvI {a:Op} {left:Int} :Cn Pg 57 [.agg #[strV a.g,.bool a.M,strV a.F],iv left] [] [] (zjo a left) (λr (_:Unit)=>iv r) λ_ _=>[]:=Ch Tryz.func57 r λw S Z=>Sr<|Fo (Bx r (Cp r)) λd=>Qs 1 r<|Nx<|Dt Z 5 [0,0] r<|Yo (Y.slen ks9 r)<|Qs 2 r<|Nx<|Dw Z 6 [] r<|Wc r (λb=>Dw Z 4 [] r<|Wv<|Rq) λb=>Sn<|Dt Z 5 [0,0] r<|Yo (Y.slen ks9 r)<|Qs 2 r<|Nx<|Dw Z 6 [] r<|Wc r (λc=>Dw Z 4 [] r<|Wv<|Rq) λc=>Sn<|Dw Z 5 [] r<|Wr<|Rq
def zj9 (a:List Op) (left:Int):Option Int:=if Dc (I6.wrap (left - (a.length:Int))<0)then some (-1:Int)else bindC (loopO (λ(b:Int × Int)=>if Dc (b.2<(a.length:Int))then Bb (idx a b.2) λd=>Bb (zjo d b.1) λc=>if Dc (c<0)then some (.done (.done (-1:Int)))else some (.go (c,I6.wrap (b.2+1)))else some (.done (.go b.1))) (I6.wrap (left - (a.length:Int)),(0:Int))) (λ(e:Int)=>some e)
def zuM {a:List Op} {left:Int} :Cn Pg 22 [U0,iv left] [] [(U0,lc a)] (zj9 a left) (λr (_:Unit)=>iv r) λ_ _=>[]:=Ch Tryz.func22 r λw S Z=>by
 refine Dw Z 18 [100] r<|Wc r (λb=>Dw Z 4 [] r<|Wv<|Rq) λb=>Sn<|Dw Z 5 [] r<|Ju [] (λT=>[(1,iv T)]) r1 (?_) λf=>?_
 ·exact Wb<|Lu [0] (λT=>[(1,iv T.1),(5,iv T.2)]) r1 λg=>Dw Z 8 [100] r<|Wc r (λc=>Sn<|Dt Z 6 [] r<|Bi λh d=>Vv (Kx Z (Xc d<|Xz)) 3 [100,0,300,0,0] r<|Cc Z [] [] zvI r r2 λi j _=>Qs 1 r<|Nx<|Dw Z 5 [] r<|Wc r (λe=>Dw Z 4 [] r<|Wr<|Bu<|Rq) λe=>Sk<|Bn<|Ne<|Rg<|Qs 3 r<|Nl<|Lq) λc=>We<|Jq
 exact Ne<|Dw Z 5 [] r<|Wr<|Rq
def zi1 (a:As) (left:Int):Option Int:=if Dc (I6.wrap (left - (a.P.length:Int))<0)then some (-1:Int)else if Dc (I6.wrap (I6.wrap (left - (a.P.length:Int)) - (a.g.length:Int))<0)then some (-1:Int)else if Dc (I6.wrap (I6.wrap (I6.wrap (left - (a.P.length:Int)) - (a.g.length:Int)) - (a.R.length:Int))<0)then some (-1:Int)else Bb (zj9 a.O (I6.wrap (I6.wrap (I6.wrap (left - (a.P.length:Int)) - (a.g.length:Int)) - (a.R.length:Int)))) λb=>if Dc (b<0)then some (-1:Int)else some b
def ztS {a:As} {left:Int} :Cn Pg 5 [.agg #[iv a.D,strV a.P,iv a.r,iv a.N,strV a.g,strV a.R,U0],iv left] [] [(U0,lc a.O)] (zi1 a left) (λr (_:Unit)=>iv r) λ_ _=>[]:=Ch Tryz.func5 r λw S Z=>by
 refine Sr<|Fo (Bx r (Ca ⟨Op',Op',Op',Op',Op',Op',Ob Z.1,⟨⟩⟩)) λf=>Qs 1 r<|Nx<|Dt Z 5 [0,0] r<|Yo (Y.slen ks9 r)<|Qs 2 r<|Nx<|Dw Z 6 [] r<|Wc r (λb=>Dw Z 4 [] r<|Wv<|Rq) λb=>Sn<|Dt Z 5 [0,0] r<|Yo (Y.slen ks9 r)<|Qs 2 r<|Nx<|Dw Z 6 [] r<|Wc r (λc=>Dw Z 4 [] r<|Wv<|Rq) λc=>Sn<|Dt Z 5 [0,0] r<|Yo (Y.slen ks9 r)<|Qs 2 r<|Nx<|Dw Z 6 [] r<|Wc r (λd=>Dw Z 4 [] r<|Wv<|Rq) λd=>Sn<|Dt Z 5 [0,0] r<|Cc Z [] [100] zuM r r2 λh i _=>Qs 1 r<|Nx<|Dw Z 6 [] r<|Wc r (λe=>Dw Z 4 [] r<|Wv<|Rq) λe=>?_
 exact Sn<|Dw Z 5 [] r<|Wr<|Rq
def ziL (a:Ao):Option Ao:=some a
def zpV {a:Ao} :Cn Pg 129 [.agg #[iv a.r,strV a.g]] [] [] (ziL a) (λr (_:Unit)=>.agg #[iv r.r,strV r.g]) λ_ _=>[]:=Ch Tryz.func129 r λw S Z=>Sr<|Fo (Bx r (Cp r)) λb=>Fo (Al kz116 r) λc=>Nx<|Sr<|Fo (Al kz116 r) λd=>Nx<|Dt Z 5 [0,2,0] r<|Fu (Sb 0 kk3 r (Cp r) r)<|Nx<|Dt Z 5 [0,2,0] r<|Fu (Sb 0 kk9 r (Cp r) r)<|Nx<|Dt Z 3 [0] r<|Fu (Sb 1 kk116 r (Cp r) r)<|Nx<|Wr<|Rj () [] [1] r
def zfo (a:List Ao):Option (List Ao):=Bb (mkLen 24 (a.length:Int)) λc=>bindC (loopO (λ(b:Int × List Ao)=>if Dc (b.1<(a.length:Int))then Bb (idx a b.1) λd=>Bb (ziL d) λe=>Bb (idx b.2 b.1) λg=>some (.go (I6.wrap (b.1+1),(b.2.set b.1.toNat e)))else some (.done (.go b.2))) ((0:Int),(Ba c ((⟨0,[]⟩:Ao):Ao)))) (λ(f:List Ao)=>some f)
def zo4 {a:List Ao} :Cn Pg 70 [U0] [] [(U0,lc a)] (zfo a) (λ_ (X:Value)=>X) λr X=>[.own X (lc r)]:=Ch Tryz.func70 r λw S Z=>by
 refine Dt Z 8 [100] r<|Bi λh d=>Fo (Mk ((⟨0,[]⟩:Ao):Ao) d ke37 kz116) λb=>Qs 1 r<|Nx<|Dw Z 5 [] r<|Jn Unit [3] [] (λ_ _=>[]) (λT _=>[.own b (lc T)]) r2 r2 (?_) λi j=>?_
 ·exact Wb<|Lp Unit [0,3] [] (λT _=>[(4,iv T.1)]) (λT _=>[.own b (lc T.2)]) () [0] r2 r2 λk l=>Dw Z 8 [100] r<|Wc r (λe=>Sn<|Dt Z 7 [] r<|Bi λm f=>Vv (Kx Z (Xc f<|Xz)) 2 [100,0,300,0,0] r<|Cc Z [] [] zpV r r2 λg n _=>Bi λo c=>Yo (Ix ke37 (Oc 0 r) c r)<|Fu (Se g 0 kk116 c r (Cp r) r)<|Nl<|Bn<|Ne<|Rg<|Qs 3 r<|Nl<|Lg () [0]) λe=>We<|Jg () [0]
 exact Ne<|Dw Z 5 [] r<|Wr<|Re b [0]
def zgV (a:Ar):Option Ar:=Bb (zfo a.x) λb=>some (⟨a.K,b,a.H⟩:Ar)
def zqU {a:Ar} :Cn Pg 27 [.agg #[strV a.K,U0,iv a.H]] [] [(U0,lc a.x)] (zgV a) (λr (X:Value)=>.agg #[strV r.K,X,iv r.H]) λr X=>[.own X (lc r.x)]:=Ch Tryz.func27 r λw S Z=>Sr<|Fo (Bx r (Ca ⟨Op',Ob Z.1,Op',⟨⟩⟩)) λc=>Fo (Al kz39 r) λd=>Nx<|Sr<|Fo (Al kz39 r) λe=>Nx<|Dt Z 5 [0,2,0] r<|Fu (Sb 0 kk9 r (Cp r) r)<|Nx<|Dt Z 4 [0,2] r<|Cc Z [] [100] zo4 r r2 λf g b=>Dv Z 1 [0] r<|Fu (Sb 1 kk37 r (Co 0) r)<|Nx<|Dt Z 5 [0,3,0] r<|Fu (Sb 1 kk3 r (Cp r) r)<|Nx<|Dt Z 3 [1] r<|Fu (Sb 2 kk39 r (Ca ⟨Op',Ow' 0,Op',⟨⟩⟩) r)<|Nx<|Wr<|Rj b [0] [2] r
def zkL (a:Am):Option Am:=some a
def zsk {a:Am} :Cn Pg 130 [.agg #[iv a.r,iv a.Q]] [] [] (zkL a) (λr (_:Unit)=>.agg #[iv r.r,iv r.Q]) λ_ _=>[]:=Ch Tryz.func130 r λw S Z=>Sr<|Fo (Bx r (Cp r)) λb=>Fo (Al kz118 r) λc=>Nx<|Sr<|Fo (Al kz118 r) λd=>Nx<|Dt Z 5 [0,2,0] r<|Fu (Sb 0 kk3 r (Cp r) r)<|Nx<|Dt Z 5 [0,2,0] r<|Fu (Sb 0 kk3 r (Cp r) r)<|Nx<|Dt Z 3 [0] r<|Fu (Sb 1 kk118 r (Cp r) r)<|Nx<|Wr<|Rj () [] [1] r
def zgW (a:List Am):Option (List Am):=Bb (mkLen 16 (a.length:Int)) λc=>bindC (loopO (λ(b:Int × List Am)=>if Dc (b.1<(a.length:Int))then Bb (idx a b.1) λd=>Bb (zkL d) λe=>Bb (idx b.2 b.1) λg=>some (.go (I6.wrap (b.1+1),(b.2.set b.1.toNat e)))else some (.done (.go b.2))) ((0:Int),(Ba c ((⟨0,0⟩:Am):Am)))) (λ(f:List Am)=>some f)
def zqW {a:List Am} :Cn Pg 71 [U0] [] [(U0,lc a)] (zgW a) (λ_ (X:Value)=>X) λr X=>[.own X (lc r)]:=Ch Tryz.func71 r λw S Z=>by
 refine Dt Z 8 [100] r<|Bi λh d=>Fo (Mk ((⟨0,0⟩:Am):Am) d ke40 kz118) λb=>Qs 1 r<|Nx<|Dw Z 5 [] r<|Jn Unit [3] [] (λ_ _=>[]) (λT _=>[.own b (lc T)]) r2 r2 (?_) λi j=>?_
 ·exact Wb<|Lp Unit [0,3] [] (λT _=>[(4,iv T.1)]) (λT _=>[.own b (lc T.2)]) () [0] r2 r2 λk l=>Dw Z 8 [100] r<|Wc r (λe=>Sn<|Dt Z 7 [] r<|Bi λm f=>Vv (Kx Z (Xc f<|Xz)) 2 [100,0,300,0,0] r<|Cc Z [] [] zsk r r2 λg n _=>Bi λo c=>Yo (Ix ke40 (Oc 0 r) c r)<|Fu (Se g 0 kk118 c r (Cp r) r)<|Nl<|Bn<|Ne<|Rg<|Qs 3 r<|Nl<|Lg () [0]) λe=>We<|Jg () [0]
 exact Ne<|Dw Z 5 [] r<|Wr<|Re b [0]
def zgX (a:Ad):Option Ad:=Bb (zgW a.m) λb=>some (⟨a.G,b⟩:Ad)
def zqX {a:Ad} :Cn Pg 28 [.agg #[iv a.G,U0]] [] [(U0,lc a.m)] (zgX a) (λr (X:Value)=>.agg #[iv r.G,X]) λr X=>[.own X (lc r.m)]:=Ch Tryz.func28 r λw S Z=>Sr<|Fo (Bx r (Ca ⟨Op',Ob Z.1,⟨⟩⟩)) λc=>Fo (Al kz42 r) λd=>Nx<|Sr<|Fo (Al kz42 r) λe=>Nx<|Dt Z 5 [0,2,0] r<|Fu (Sb 0 kk3 r (Cp r) r)<|Nx<|Dt Z 4 [0,2] r<|Cc Z [] [100] zqW r r2 λf g b=>Dv Z 1 [0] r<|Fu (Sb 1 kk40 r (Co 0) r)<|Nx<|Dt Z 3 [1] r<|Fu (Sb 2 kk42 r (Ca ⟨Op',Ow' 0,⟨⟩⟩) r)<|Nx<|Wr<|Rj b [0] [2] r
def zmJ (a:Ac):Option Ac:=some a
def zuO {a:Ac} :Cn Pg 245 [.agg #[strV a.g,iv a.b,.bool a.M,strV a.F]] [] [] (zmJ a) (λr (_:Unit)=>.agg #[strV r.g,iv r.b,.bool r.M,strV r.F]) λ_ _=>[]:=Ch Tryz.func245 r λw S Z=>Sr<|Fo (Bx r (Cp r)) λc=>Fo (Al kz166 r) λd=>Nx<|Sr<|Fo (Al kz166 r) λe=>Nx<|Dt Z 5 [0,2,0] r<|Fu (Sb 0 kk9 r (Cp r) r)<|Nx<|Dt Z 5 [0,2,0] r<|Fu (Sb 0 kk3 r (Cp r) r)<|Nx<|Dt Z 5 [0,2,0] r<|Fu (Sb 0 kk4 r (Cp r) r)<|Nx<|Dt Z 5 [0,2,0] r<|Fu (Sb 0 kk9 r (Cp r) r)<|Nx<|Dt Z 3 [0] r<|Fu (Sb 1 kk166 r (Cp r) r)<|Nx<|Wr<|Rj () [] [1] r
def ze4 (a:List Ac):Option (List Ac):=Bb (mkLen 48 (a.length:Int)) λc=>bindC (loopO (λ(b:Int × List Ac)=>if Dc (b.1<(a.length:Int))then Bb (idx a b.1) λd=>Bb (zmJ d) λe=>Bb (idx b.2 b.1) λg=>some (.go (I6.wrap (b.1+1),(b.2.set b.1.toNat e)))else some (.done (.go b.2))) ((0:Int),(Ba c ((⟨[],0,false,[]⟩:Ac):Ac)))) (λ(f:List Ac)=>some f)
def zng {a:List Ac} :Cn Pg 196 [U0] [] [(U0,lc a)] (ze4 a) (λ_ (X:Value)=>X) λr X=>[.own X (lc r)]:=Ch Tryz.func196 r λw S Z=>by
 refine Dt Z 8 [100] r<|Bi λh d=>Fo (Mk ((⟨[],0,false,[]⟩:Ac):Ac) d ke109 kz166) λb=>Qs 1 r<|Nx<|Dw Z 5 [] r<|Jn Unit [3] [] (λ_ _=>[]) (λT _=>[.own b (lc T)]) r2 r2 (?_) λi j=>?_
 ·exact Wb<|Lp Unit [0,3] [] (λT _=>[(4,iv T.1)]) (λT _=>[.own b (lc T.2)]) () [0] r2 r2 λk l=>Dw Z 8 [100] r<|Wc r (λe=>Sn<|Dt Z 7 [] r<|Bi λm f=>Vv (Kx Z (Xc f<|Xz)) 2 [100,0,300,0,0] r<|Cc Z [] [] zuO r r2 λg n _=>Bi λo c=>Yo (Ix ke109 (Oc 0 r) c r)<|Fu (Se g 0 kk166 c r (Cp r) r)<|Nl<|Bn<|Ne<|Rg<|Qs 3 r<|Nl<|Lg () [0]) λe=>We<|Jg () [0]
 exact Ne<|Dw Z 5 [] r<|Wr<|Re b [0]
def zia (a:List (List Ac)):Option (List (List Ac)):=Bb (mkLen 24 (a.length:Int)) λc=>bindC (loopO (λ(b:Int × List (List Ac))=>if Dc (b.1<(a.length:Int))then Bb (idx a b.1) λd=>Bb (ze4 d) λe=>Bb (idx b.2 b.1) λg=>some (.go (I6.wrap (b.1+1),(b.2.set b.1.toNat e)))else some (.done (.go b.2))) ((0:Int),(Ba c ([]:List Ac)))) (λ(f:List (List Ac))=>some f)
def zsi {a:List (List Ac)} :Cn Pg 197 [U0] [] [(U0,lc a)] (zia a) (λ_ (X:Value)=>X) λr X=>[.own X (lc r)]:=Ch Tryz.func197 r λw S Z=>by
 refine Dt Z 8 [100] r<|Bi λj e=>Fo (Ef.makeN (α:=List Ac) (z:=([]:List Ac)) (zs:=[.slice none 0 0]) e ke110 kz109 r r r r r) λc=>Qs 1 r<|Nx<|Dw Z 5 [] r<|Jn Unit [3] [] (λ_ _=>[]) (λT _=>[.own c (lc T)]) r2 r2 (?_) λk l=>?_
 ·refine Wb<|Lp Unit [0,3] [] (λT _=>[(4,iv T.1)]) (λT _=>[.own c (lc T.2)]) () [0] r2 r2 λm n=>Dw Z 8 [100] r<|Wc r (λf=>?_) λf=>?_
  ·refine Sn<|Dt Z 7 [] r<|Bi λo d=>Yo (Ix ke94 (Bc Z.1) d r)<|?_
   have g:=Bj 0 Z.1 d r;exact Yo (Lz kk93 Z.1 d r)<|Cc (Bq g<|Z) [] [100] zng r r2 λh p i=>Bi λq b=>Yo (Ix ke110 (Oc 1 r) b r)<|TO.fact (zbX (Can.own 1 r) b) λs=>Gt (X:=Value) (Ho 1 [1] b r r1) λt=>Fu (Sh 0 [.raw i] kk109 b r (Co 2) r)<|Nl<|Bn<|Ne<|Rg<|Qs 3 r<|Nl<|Ke (Hc [0,1] h b r (Cf Cz))<|Lg () [0]
  exact We<|Jg () [0]
 exact Ne<|Dw Z 5 [] r<|Wr<|Re c [0]
def zi4 (a:List Int):Option (List Int):=Bb (mkLen 8 (a.length:Int)) λc=>bindC (loopO (λ(b:Int × List Int)=>if Dc (b.1<(a.length:Int))then Bb (idx a b.1) λd=>Bb (idx b.2 b.1) λf=>some (.go (I6.wrap (b.1+1),(b.2.set b.1.toNat d)))else some (.done (.go b.2))) ((0:Int),(Ba c 0))) (λ(e:List Int)=>some e)
def ztV {a:List Int} :Cn Pg 198 [U0] [] [(U0,lc a)] (zi4 a) (λ_ (X:Value)=>X) λr X=>[.own X (lc r)]:=Ch Tryz.func198 r λw S Z=>by
 refine Dt Z 8 [100] r<|Bi λh d=>Fo (Mk (0:Int) d ke95 kz3) λb=>Qs 1 r<|Nx<|Dw Z 5 [] r<|Jn Unit [3] [] (λ_ _=>[]) (λT _=>[.own b (lc T)]) r2 r2 (?_) λi j=>?_
 ·exact Wb<|Lp Unit [0,3] [] (λT _=>[(4,iv T.1)]) (λT _=>[.own b (lc T.2)]) () [0] r2 r2 λk l=>Dw Z 8 [100] r<|Wc r (λe=>Sn<|Dt Z 7 [] r<|Bi λf g=>Vv (Kx Z (Xc g<|Xz)) 2 [100,0,300,0,0] r<|Bi λm c=>Yo (Ix ke95 (Oc 0 r) c r)<|Fu (Se f 0 kk3 c r (Cp r) r)<|Nl<|Bn<|Ne<|Rg<|Qs 3 r<|Nl<|Lg () [0]) λe=>We<|Jg () [0]
 exact Ne<|Dw Z 5 [] r<|Wr<|Re b [0]
def zka (a:Aa):Option Aa:=Bb (ze4 a.s) λc=>Bb (zia a.q) λd=>Bb (zi4 a.t) λe=>some (⟨c,d,a.b,e⟩:Aa)
def zuN {a:Aa} :Cn Pg 131 [.agg #[U0,U1,iv a.b,U2]] [] [(U0,lc a.s),(U1,lc a.q),(U2,lc a.t)] (zka a) (λr (X:Value × Value × Value)=>.agg #[X.1,X.2.1,iv r.b,X.2.2]) λr X=>[.own X.1 (lc r.s),.own X.2.1 (lc r.q),.own X.2.2 (lc r.t)]:=Ch Tryz.func131 r λw S Z=>Sr<|Fo (Bx r (Ca ⟨Ob Z.1,Ob Z.2.1,Op',Ob Z.2.2.1,⟨⟩⟩)) λf=>Fo (Al kz112 r) λg=>Nx<|Sr<|Fo (Al kz112 r) λh=>Nx<|Dt Z 4 [0,2] r<|Cc Z [] [100] zng r r2 λi j c=>Dv Z 1 [0] r<|Fu (Sb 1 kk109 r (Co 0) r)<|Nx<|Dt Z 4 [0,3] r<|Cc Z [] [101] zsi r r2 λk l d=>Dv Z 1 [0] r<|Fu (Sb 2 kk110 r (Co 0) r)<|Nx<|Dt Z 5 [0,4,0] r<|Fu (Sb 2 kk3 r (Cp r) r)<|Nx<|Dt Z 4 [0,4] r<|Cc Z [] [102] ztV r r2 λm n e=>Dv Z 1 [0] r<|Fu (Sb 3 kk95 r (Co 0) r)<|Nx<|Dt Z 3 [3] r<|Fu (Sb 4 kk112 r (Ca ⟨Ow' 2,Ow' 1,Op',Ow' 0,⟨⟩⟩) r)<|Nx<|Wr<|Rj (c,d,e) [2,1,0] [4] r
def zgG (a:Ae):Option Ae:=Bb (zka a.c) λb=>some (⟨a.p,a.I,a.E,b⟩:Ae)
def ztW {a:Ae} :Cn Pg 72 [.agg #[iv a.p,iv a.I,iv a.E,U0,U1,iv a.c.b,U2]] [] [(U0,lc a.c.s),(U1,lc a.c.q),(U2,lc a.c.t)] (zgG a) (λr (X:Value × Value × Value)=>.agg #[iv r.p,iv r.I,iv r.E,X.1,X.2.1,iv r.c.b,X.2.2]) λr X=>[.own X.1 (lc r.c.s),.own X.2.1 (lc r.c.q),.own X.2.2 (lc r.c.t)]:=Ch Tryz.func72 r λw S Z=>Sr<|Fo (Bx r (Ca ⟨Op',Op',Op',Ob Z.1,Ob Z.2.1,Op',Ob Z.2.2.1,⟨⟩⟩)) λe=>Fo (Al kz114 r) λf=>Nx<|Sr<|Fo (Al kz114 r) λg=>Nx<|Dt Z 5 [0,2,0] r<|Fu (Sb 0 kk3 r (Cp r) r)<|Nx<|Dt Z 5 [0,2,0] r<|Fu (Sb 0 kk3 r (Cp r) r)<|Nx<|Dt Z 5 [0,2,0] r<|Fu (Sb 0 kk3 r (Cp r) r)<|Nx<|Dt Z 4 [0,2] r<|Cc Z [] [100,101,102] zuN r r2 λh i d=>Dv Z 1 [0] r<|Fu (Sb 3 kk112 r (Ca ⟨Ow' 0,Ow' 1,Op',Ow' 2,⟨⟩⟩) r)<|Nx<|Dt Z 3 [3] r<|Fu (Sb 4 kk114 r (Ca ⟨Op',Op',Op',Ow' 0,Ow' 1,Op',Ow' 2,⟨⟩⟩) r)<|Nx<|Wr<|Rj (d.1,d.2.1,d.2.2) [0,0,0] [4] r
def zib (a:List Ae):Option (List Ae):=Bb (mkLen 104 (a.length:Int)) λc=>bindC (loopO (λ(b:Int × List Ae)=>if Dc (b.1<(a.length:Int))then Bb (idx a b.1) λd=>Bb (zgG d) λe=>Bb (idx b.2 b.1) λg=>some (.go (I6.wrap (b.1+1),(b.2.set b.1.toNat e)))else some (.done (.go b.2))) ((0:Int),(Ba c ((⟨0,0,0,⟨[],[],0,[]⟩⟩:Ae):Ae)))) (λ(f:List Ae)=>some f)
def zsj {a:List Ae} :Cn Pg 29 [U0] [] [(U0,lc a)] (zib a) (λ_ (X:Value)=>X) λr X=>[.own X (lc r)]:=Ch Tryz.func29 r λw S Z=>by
 refine Dt Z 8 [100] r<|Bi λn i=>Fo (Ef.makeN (α:=Ae) (z:=((⟨0,0,0,⟨[],[],0,[]⟩⟩:Ae):Ae)) (zs:=[iv 0,iv 0,iv 0,.slice none 0 0,.slice none 0 0,iv 0,.slice none 0 0]) i ke43 kz114 r r r r r) λg=>Qs 1 r<|Nx<|Dw Z 5 [] r<|Jn Unit [3] [] (λ_ _=>[]) (λT _=>[.own g (lc T)]) r2 r2 (?_) λo q=>?_
 ·refine Wb<|Lp Unit [0,3] [] (λT _=>[(4,iv T.1)]) (λT _=>[.own g (lc T.2)]) () [0] r2 r2 λs t=>Dw Z 8 [100] r<|Wc r (λj=>?_) λj=>?_
  ·refine Sn<|Dt Z 7 [] r<|Bi λu d=>Yo (Ix ke28 (Bc Z.1) d r)<|?_
   have k:=Bj 3 Z.1 d r;have l:=Bj 4 Z.1 d r;have m:=Bj 6 Z.1 d r;exact Yo (Lz kk99 Z.1 d r)<|Cc (Bq k<|Bq l<|Bq m<|Z) [] [100,101,102] ztW r r2 λe v h=>Bi λx f=>Yo (Ix ke43 (Oc 3 r) f r)<|TO.fact (zbX (Can.own 3 r) f) λy=>Gt (X:=Value × Value × Value) (Ho 3 [3] f r r1) λA=>Fu (Sh 0 [ic e.p,ic e.I,ic e.E,.raw h.1,.raw h.2.1,ic e.c.b,.raw h.2.2] kk114 f r (Ca ⟨Op',Op',Op',Ow' 4,Ow' 5,Op',Ow' 6,⟨⟩⟩) r)<|Nl<|Bn<|Ne<|Rg<|Qs 3 r<|Nl<|Ke (Hc [0,3,3,3] e f r (Ck (Ck (Ck (Cf (Cf (Ck (Cf Cz))))))))<|Lg () [0]
  exact We<|Jg () [0]
 exact Ne<|Dw Z 5 [] r<|Wr<|Re g [0]
def zjB (a:Ah):Option Ah:=some a
def zqV {a:Ah} :Cn Pg 73 [.agg #[iv a.r,iv a.A,iv a.b,strV a.L,.bool a.T]] [] [] (zjB a) (λr (_:Unit)=>.agg #[iv r.r,iv r.A,iv r.b,strV r.L,.bool r.T]) λ_ _=>[]:=Ch Tryz.func73 r λw S Z=>Sr<|Fo (Bx r (Cp r)) λc=>Fo (Al kz121 r) λd=>Nx<|Sr<|Fo (Al kz121 r) λe=>Nx<|Dt Z 5 [0,2,0] r<|Fu (Sb 0 kk3 r (Cp r) r)<|Nx<|Dt Z 5 [0,2,0] r<|Fu (Sb 0 kk3 r (Cp r) r)<|Nx<|Dt Z 5 [0,2,0] r<|Fu (Sb 0 kk3 r (Cp r) r)<|Nx<|Dt Z 5 [0,2,0] r<|Fu (Sb 0 kk9 r (Cp r) r)<|Nx<|Dt Z 5 [0,2,0] r<|Fu (Sb 0 kk4 r (Cp r) r)<|Nx<|Dt Z 3 [0] r<|Fu (Sb 1 kk121 r (Cp r) r)<|Nx<|Wr<|Rj () [] [1] r
def zem (a:List Ah):Option (List Ah):=Bb (mkLen 48 (a.length:Int)) λc=>bindC (loopO (λ(b:Int × List Ah)=>if Dc (b.1<(a.length:Int))then Bb (idx a b.1) λd=>Bb (zjB d) λe=>Bb (idx b.2 b.1) λg=>some (.go (I6.wrap (b.1+1),(b.2.set b.1.toNat e)))else some (.done (.go b.2))) ((0:Int),(Ba c ((⟨0,0,0,[],false⟩:Ah):Ah)))) (λ(f:List Ah)=>some f)
def zkK {a:List Ah} :Cn Pg 30 [U0] [] [(U0,lc a)] (zem a) (λ_ (X:Value)=>X) λr X=>[.own X (lc r)]:=Ch Tryz.func30 r λw S Z=>by
 refine Dt Z 8 [100] r<|Bi λh d=>Fo (Mk ((⟨0,0,0,[],false⟩:Ah):Ah) d ke44 kz121) λb=>Qs 1 r<|Nx<|Dw Z 5 [] r<|Jn Unit [3] [] (λ_ _=>[]) (λT _=>[.own b (lc T)]) r2 r2 (?_) λi j=>?_
 ·exact Wb<|Lp Unit [0,3] [] (λT _=>[(4,iv T.1)]) (λT _=>[.own b (lc T.2)]) () [0] r2 r2 λk l=>Dw Z 8 [100] r<|Wc r (λe=>Sn<|Dt Z 7 [] r<|Bi λm f=>Vv (Kx Z (Xc f<|Xz)) 2 [100,0,300,0,0] r<|Cc Z [] [] zqV r r2 λg n _=>Bi λo c=>Yo (Ix ke44 (Oc 0 r) c r)<|Fu (Se g 0 kk121 c r (Cp r) r)<|Nl<|Bn<|Ne<|Rg<|Qs 3 r<|Nl<|Lg () [0]) λe=>We<|Jg () [0]
 exact Ne<|Dw Z 5 [] r<|Wr<|Re b [0]
def zic (a:Af):Option Af:=Bb (zgV a.j) λb=>Bb (zgX a.u) λc=>Bb (zib a.a) λd=>Bb (zem a.B) λe=>Bb (zem a.J) λf=>some (⟨a.C,b,c,d,e,f,a.A⟩:Af)
def zgc {a:Af} {U3 U4:Value} :Cn Pg 7 [.agg #[strV a.C,strV a.j.K,U0,iv a.j.H,iv a.u.G,U1,U2,U3,U4,iv a.A]] [] [(U0,lc a.j.x),(U1,lc a.u.m),(U2,lc a.a),(U3,lc a.B),(U4,lc a.J)] (zic a) (λr (X:Value × Value × Value × Value × Value)=>.agg #[strV r.C,strV r.j.K,X.1,iv r.j.H,iv r.u.G,X.2.1,X.2.2.1,X.2.2.2.1,X.2.2.2.2,iv r.A]) λr X=>[.own X.1 (lc r.j.x),.own X.2.1 (lc r.u.m),.own X.2.2.1 (lc r.a),.own X.2.2.2.1 (lc r.B),.own X.2.2.2.2 (lc r.J)]:=Ch Tryz.func7 r λw S Z=>by
 refine Sr<|Fo (Bx r (Ca ⟨Op',Op',Ob Z.1,Op',Op',Ob Z.2.1,Ob Z.2.2.1,Ob Z.2.2.2.1,Ob Z.2.2.2.2.1,Op',⟨⟩⟩)) λg=>Fo (Al kz46 r) λh=>Nx<|Sr<|Fo (Al kz46 r) λi=>Nx<|Dt Z 5 [0,2,0] r<|Fu (Sb 0 kk9 r (Cp r) r)<|Nx<|Dt Z 4 [0,2] r<|Cc Z [] [100] zqU r r2 λk l b=>Dv Z 1 [0] r<|Fu (Sb 1 kk39 r (Ca ⟨Op',Ow' 0,Op',⟨⟩⟩) r)<|Nx<|Dt Z 4 [0,3] r<|Cc Z [] [101] zqX r r2 λn o c=>Dv Z 1 [0] r<|Fu (Sb 2 kk42 r (Ca ⟨Op',Ow' 0,⟨⟩⟩) r)<|Nx<|Dt Z 4 [0,4] r<|Cc Z [] [102] zsj r r2 λp q d=>?_
 exact Dv Z 1 [0] r<|Fu (Sb 3 kk43 r (Co 0) r)<|Nx<|Dt Z 4 [0,5] r<|Cc Z [] [103] zkK r r2 λs t e=>Dv Z 1 [0] r<|Fu (Sb 4 kk44 r (Co 0) r)<|Nx<|Dt Z 4 [0,6] r<|Cc Z [] [104] zkK r r2 λv y f=>Dv Z 1 [0] r<|Fu (Sb 5 kk44 r (Co 0) r)<|Nx<|Dt Z 5 [0,7,0] r<|Fu (Sb 5 kk3 r (Cp r) r)<|Nx<|Dt Z 3 [5] r<|Fu (Sb 6 kk46 r (Ca ⟨Op',Op',Ow' 4,Op',Op',Ow' 3,Ow' 2,Ow' 1,Ow' 0,Op',⟨⟩⟩) r)<|Nx<|Wr<|Rj (b,c,d,e,f) [4,3,2,1,0] [6] r
def zn7 (a:Op):Option Op:=some a
def zvJ {a:Op} :Cn Pg 74 [.agg #[strV a.g,.bool a.M,strV a.F]] [] [] (zn7 a) (λr (_:Unit)=>.agg #[strV r.g,.bool r.M,strV r.F]) λ_ _=>[]:=Ch Tryz.func74 r λw S Z=>Sr<|Fo (Bx r (Cp r)) λb=>Fo (Al kz132 r) λc=>Nx<|Sr<|Fo (Al kz132 r) λd=>Nx<|Dt Z 5 [0,2,0] r<|Fu (Sb 0 kk9 r (Cp r) r)<|Nx<|Dt Z 5 [0,2,0] r<|Fu (Sb 0 kk4 r (Cp r) r)<|Nx<|Dt Z 5 [0,2,0] r<|Fu (Sb 0 kk9 r (Cp r) r)<|Nx<|Dt Z 3 [0] r<|Fu (Sb 1 kk132 r (Cp r) r)<|Nx<|Wr<|Rj () [] [1] r
def zkb (a:List Op):Option (List Op):=Bb (mkLen 40 (a.length:Int)) λc=>bindC (loopO (λ(b:Int × List Op)=>if Dc (b.1<(a.length:Int))then Bb (idx a b.1) λd=>Bb (zn7 d) λe=>Bb (idx b.2 b.1) λg=>some (.go (I6.wrap (b.1+1),(b.2.set b.1.toNat e)))else some (.done (.go b.2))) ((0:Int),(Ba c ((⟨[],false,[]⟩:Op):Op)))) (λ(f:List Op)=>some f)
def zuP {a:List Op} :Cn Pg 31 [U0] [] [(U0,lc a)] (zkb a) (λ_ (X:Value)=>X) λr X=>[.own X (lc r)]:=Ch Tryz.func31 r λw S Z=>by
 refine Dt Z 8 [100] r<|Bi λh d=>Fo (Mk ((⟨[],false,[]⟩:Op):Op) d ke53 kz132) λb=>Qs 1 r<|Nx<|Dw Z 5 [] r<|Jn Unit [3] [] (λ_ _=>[]) (λT _=>[.own b (lc T)]) r2 r2 (?_) λi j=>?_
 ·exact Wb<|Lp Unit [0,3] [] (λT _=>[(4,iv T.1)]) (λT _=>[.own b (lc T.2)]) () [0] r2 r2 λk l=>Dw Z 8 [100] r<|Wc r (λe=>Sn<|Dt Z 7 [] r<|Bi λm f=>Vv (Kx Z (Xc f<|Xz)) 2 [100,0,300,0,0] r<|Cc Z [] [] zvJ r r2 λg n _=>Bi λo c=>Yo (Ix ke53 (Oc 0 r) c r)<|Fu (Se g 0 kk132 c r (Cp r) r)<|Nl<|Bn<|Ne<|Rg<|Qs 3 r<|Nl<|Lg () [0]) λe=>We<|Jg () [0]
 exact Ne<|Dw Z 5 [] r<|Wr<|Re b [0]
def zi3 (a:As):Option As:=Bb (zkb a.O) λb=>some (⟨a.D,a.P,a.r,a.N,a.g,a.R,b⟩:As)
def zgU {a:As} :Cn Pg 8 [.agg #[iv a.D,strV a.P,iv a.r,iv a.N,strV a.g,strV a.R,U0]] [] [(U0,lc a.O)] (zi3 a) (λr (X:Value)=>.agg #[iv r.D,strV r.P,iv r.r,iv r.N,strV r.g,strV r.R,X]) λr X=>[.own X (lc r.O)]:=Ch Tryz.func8 r λw S Z=>Sr<|Fo (Bx r (Ca ⟨Op',Op',Op',Op',Op',Op',Ob Z.1,⟨⟩⟩)) λc=>Fo (Al kz55 r) λd=>Nx<|Sr<|Fo (Al kz55 r) λe=>Nx<|Dt Z 5 [0,2,0] r<|Fu (Sb 0 kk3 r (Cp r) r)<|Nx<|Dt Z 5 [0,2,0] r<|Fu (Sb 0 kk9 r (Cp r) r)<|Nx<|Dt Z 5 [0,2,0] r<|Fu (Sb 0 kk3 r (Cp r) r)<|Nx<|Dt Z 5 [0,2,0] r<|Fu (Sb 0 kk3 r (Cp r) r)<|Nx<|Dt Z 5 [0,2,0] r<|Fu (Sb 0 kk9 r (Cp r) r)<|Nx<|Dt Z 5 [0,2,0] r<|Fu (Sb 0 kk9 r (Cp r) r)<|Nx<|Dt Z 4 [0,2] r<|Cc Z [] [100] zuP r r2 λf h b=>Dv Z 1 [0] r<|Fu (Sb 1 kk53 r (Co 0) r)<|Nx<|Dt Z 3 [1] r<|Fu (Sb 2 kk55 r (Ca ⟨Op',Op',Op',Op',Op',Op',Ow' 0,⟨⟩⟩) r)<|Nx<|Wr<|Rj b [0] [2] r
def zy (x A h:Int):Option Bool:=Bb (if Dc (x>=A)then some (Dc (x<=h))else some false) (λ(a:Bool)=>some a)
def zw {x A h:Int} :Cn Pg 60 [iv x,iv A,iv h] [] [] (zy x A h) (λr (_:Unit)=>.bool r) λ_ _=>[]:=Ch Tryz.func60 r λw S Z=>Dw Z 5 [] r<|Jv [] (λT=>[(6,.bool T)]) r1 (Rg<|Qs 4 r<|It (λa=>Vv (Kg Z (Gc a<|Gz)) 5 [0,0,0,0] r<|Nl<|Bv) λa=>Vv (Kg Z (Gc a<|Gz)) 5 [0,0,0,0] r<|Nl<|Bv) λb=>Ne<|Wr<|Rq
def zbo (d:Ar):Option Bool:=Bb (if !(Dc ((d.K.length:Int)=32))then some true else if Dc ((d.x.length:Int)>4)then some true else Bb (zy d.H 0 1000000) λc=>some (!c)) (λ(e:Bool)=>if e=true then some false else bindC (loopO (λ(a:Int)=>if Dc (a<(d.x.length:Int))then Bb (idx d.x a) λb=>Bb (Bb (zy b.r 1 99) λf=>if !f then some true else if !(Dc ((b.g.length:Int)=32))then some true else if Dc (a>0)then Bb (idx d.x (I6.wrap (a - 1))) λh=>some (Dc (h.r>=b.r))else some false) (λ(i:Bool)=>if i=true then some (.done (.done false))else some (.go (I6.wrap (a+1))))else some (.done (.go ()))) (0:Int)) (λ(j:Unit)=>some true))
def zfI {d:Ar} :Cn Pg 58 [.agg #[strV d.K,U0,iv d.H]] [] [(U0,lc d.x)] (zbo d) (λr (_:Unit)=>.bool r) λ_ _=>[]:=Ch Tryz.func58 r λw S Z=>by
 refine Sr<|Fo (Bx r (Ca ⟨Op',Ob Z.1,Op',⟨⟩⟩)) λn=>Qs 1 r<|Nx<|Sq<|Sq<|Jv [1] (λT=>[(20,.bool T)]) r1 (?_) λo=>?_
 ·exact Dt Z 3 [0,0] r<|Yo (Y.slen ks9 r)<|Qs 2 r<|It (λf=>Vv (Kg Z (Gc f<|Gz)) 6 [0,0,0,0,0] r<|Of 4 r r r<|Yo (Pt r r)<|Nl<|Bg () [0]) λf=>Vv (Kg Z (Gc f<|Gz)) 6 [0,0,0,0,0,100,0,0] r<|It (λa=>Of 4 (zh a) r r<|Yo (Pt a r)<|Nl<|Bg () [0]) λa=>Vv (Kg Z (Gc a<|Gz)) 2 [0,0,0,0] r<|Bi λp g=>Fg (gdA (zf a)) (Cl [] zw g r r1) λ_=>Vv (Kg Z (Gc a<|Gz)) 2 [0,0] r<|Nl<|Bg () [0]
 refine Ne<|Wc r (λh=>Dw Z 4 [] r<|Wv<|Rq) λh=>Sn<|Dw Z 5 [] r<|Jn Unit [] [] (λ_ _=>[]) (λ_ _=>[]) r2 r2 (?_) λq s=>?_
 ·refine Wb<|Lu [1] (λT=>[(3,iv T)]) r1 λt=>Dw Z 9 [0,0,100] r<|Wc r (λi=>?_) λi=>?_
  ·refine Sn<|Dt Z 7 [0,0] r<|Bi λu j=>Vv (Kx Z (Xc j<|Xz)) 2 [100,0,300,0,0] r<|Fo (Al kz116 r) λv=>Fu (Sb 0 kk116 r (Cp r) r)<|Nx<|Sq<|Jb Unit [1,3] [1] (λT _=>[(58,.bool T)]) (λ_ _=>[]) r2 r2 (?_) λy z=>?_
   ·refine Dz 2 [] [] r hMix<|Aj Z [0,1] [] [0,0] r<|Ai λA k=>A1 2<|Xe r (Cl [] zw k r r1) λ_=>Aq [3,4] r<|Ia (λc=>Ak (Kg Z (Gc c<|Gz)) [5,6,7,8,9,10] [] [0,0,0,0,0] r<|Ax [11,12,13] r r r<|Au [14,15,16,17,18,19,20,21,22,23] r r<|Ax [24] r r r<|Ay 25 r (Pt r r)<|Az<|Bg () [1]) λc=>Ak (Kg Z (Gc c<|Gz)) [5,6] [] [0,0,0,0] r<|Ag 7 0 (gdA (zf c)) r (Y.slen ks9 r)<|Ak (Kg Z (Gc c<|Gz)) [8,9,10] [] [0,0] r<|Ia (λb=>Ax [11,12,13] (zh b) r r<|Au [14,15,16,17,18,19,20,21,22,23] r r<|Ak (Kg Z (Gc b<|Gz)) [24,25] [] [0,0] r<|Az<|Bg () [1]) λb=>?_
    exact Ak (Kg Z (Gc b<|Gz)) [11,12,13] [] [0,0,0] r<|Ia (λe=>Ak (Kg Z (Gc e<|Gz)) [14,15,16,17] [] [0,0,0,1,0,0] r<|Ai λB l=>Ak (Kk Z (Xc l<|Xz) (Gc e<|Gc b<|Gz)) [18,19,20,21,22,23,24,25] [] [0,100,0,0,101,0,0,0,300,0,0,0,0,0,0,0,1,0,1] r<|Az<|Bg () [1]) λe=>Ak (Kg Z (Gc e<|Gc b<|Gz)) [14,15,16,17,18,19,20,21,22,23,24,25] [] [0,0,0,0,0,0,0,0,0,0,1,0,1] r<|Az<|Bg () [1]
   exact Ne<|Wc r (λm=>Dw Z 4 [] r<|Wr<|Bu<|Rq) λm=>Sk<|Bn<|Ne<|Rg<|Qs 3 r<|Nl<|Lg () [0]
  exact We<|Jq
 exact Ne<|Dw Z 4 [] r<|Wr<|Rq
def zfJ (h:Int):Option Int:=Bb (zy h 0 1000) λa=>if !a then some (0:Int)else some (I6.wrap ((2:Int)+(I6.wrap ((2:Int)*(I6.wrap (Int.tdiv (I6.wrap (h+49)) 50))))))
def zvO {h:Int} :Cn Pg 169 [iv h] [] [] (zfJ h) (λr (_:Unit)=>iv r) λ_ _=>[]:=Ch Tryz.func169 r λw S Z=>Dt Z 8 [] r<|Cc Z [] [] zw r r2 λb c _=>Qs 1 r<|Nx<|Wc r (λa=>Dw Z 4 [] r<|Wv<|Rq) λa=>Sn<|Sr<|Qs 2 r<|Yo (Y.quo (by decide) r r)<|Qs 3 r<|Nx<|Wr<|Rq
def zjc (s:Ad):Option Int:=bindC (loopO (λ(a:Int × Int)=>if Dc (a.2<(s.m.length:Int))then Bb (idx s.m a.2) λc=>Bb (zfJ c.Q) λd=>some (.go (I6.wrap (a.1+d),I6.wrap (a.2+1)))else some (.done (.go a.1))) ((0:Int),(0:Int))) (λ(b:Int)=>bindC (if Dc ((s.m.length:Int)>0)then some (.go (I6.wrap (b+4)))else some (.go b)) (λ(e:Int)=>some e))
def zt6 {s:Ad} :Cn Pg 108 [.agg #[iv s.G,U0]] [] [(U0,lc s.m)] (zjc s) (λr (_:Unit)=>iv r) λ_ _=>[]:=Ch Tryz.func108 r λw S Z=>by
 refine Sr<|Fo (Bx r (Ca ⟨Op',Ob Z.1,⟨⟩⟩)) λd=>Qs 1 r<|Nx<|Dw Z 9 [] r<|Ju [1] (λT=>[(3,iv T)]) r1 (?_) λe=>?_
 ·exact Wb<|Lu [1] (λT=>[(3,iv T.1),(4,iv T.2)]) r1 λf=>Dw Z 9 [0,0,100] r<|Wc r (λa=>Sn<|Dt Z 7 [0,0] r<|Bi λg b=>Vv (Kx Z (Xc b<|Xz)) 3 [100,0,101,0,0,300,0,1] r<|Cc Z [] [] zvO r r2 λh i _=>Qs 2 r<|Nl<|Bn<|Ne<|Rg<|Qs 3 r<|Nl<|Lg () [0]) λa=>We<|Jg () [0]
 exact Ne<|Dw Z 8 [0,0,100] r<|Jn Unit [] [] (λT _=>[(3,iv T)]) (λ_ _=>[]) r2 r2 (Wc r (λc=>Rg<|Qs 3 r<|Nl<|Jq) λc=>Sk<|Jq) λj k=>Ne<|Dw Z 5 [] r<|Wr<|Rq
def zbM (s:Ad):Option Bool:=Bb (Bb (zy s.G 0 1000) λc=>if !c then some true else some (Dc ((s.m.length:Int)>4))) (λ(d:Bool)=>if d=true then some false else bindC (loopO (λ(a:Int)=>if Dc (a<(s.m.length:Int))then Bb (idx s.m a) λb=>Bb (Bb (zy b.r 1 99) λe=>if !e then some true else Bb (zy b.Q 0 1000) λf=>if !f then some true else if Dc (a>0)then Bb (idx s.m (I6.wrap (a - 1))) λg=>some (Dc (g.r>=b.r))else some false) (λ(h:Bool)=>if h=true then some (.done (.done false))else some (.go (I6.wrap (a+1))))else some (.done (.go ()))) (0:Int)) (λ(j:Unit)=>Bb (zjc s) λi=>some (Dc (i<=s.G))))
def zfq {s:Ad} :Cn Pg 59 [.agg #[iv s.G,U0]] [] [(U0,lc s.m)] (zbM s) (λr (_:Unit)=>.bool r) λ_ _=>[]:=Ch Tryz.func59 r λw S Z=>by
 refine Sr<|Fo (Bx r (Ca ⟨Op',Ob Z.1,⟨⟩⟩)) λn=>Qs 1 r<|Nx<|Sq<|Sq<|Jv [1] (λT=>[(14,.bool T)]) r1 (Dt Z 3 [0,0] r<|Cc Z [] [] zw r r2 λo p _=>Qs 2 r<|It (λc=>Of 4 (zh c) r r<|Yo (Pt c r)<|Nl<|Bg () [0]) λc=>Vv (Kg Z (Gc c<|Gz)) 5 [0,0,0,0,0,100,0,0] r<|Nl<|Bg () [0]) λq=>Ne<|Wc r (λe=>Dw Z 4 [] r<|Wv<|Rq) λe=>Sn<|Dw Z 5 [] r<|Ju [1] (λ_=>[]) r1 (?_) λt=>?_
 ·refine Wb<|Lu [1] (λT=>[(3,iv T)]) r1 λu=>Dw Z 9 [0,0,100] r<|Wc r (λf=>?_) λf=>?_
  ·refine Sn<|Dt Z 7 [0,0] r<|Bi λv g=>Vv (Kx Z (Xc g<|Xz)) 2 [100,0,300,0,0] r<|Fo (Al kz118 r) λx=>Fu (Sb 0 kk118 r (Cp r) r)<|Nx<|Sq<|Jb Unit [1,3] [1] (λT _=>[(52,.bool T)]) (λ_ _=>[]) r2 r2 (?_) λy z=>?_
   ·refine Dz 2 [] [] r hMix<|Aj Z [0,1] [] [0,0] r<|Ai λA h=>A1 2<|Xe r (Cl [] zw h r r1) λ_=>Aq [3,4] r<|Ia (λb=>Ak (Kg Z (Gc b<|Gz)) [5,6,7,8,9,10] [] [0,0,0,0,0] r<|Ax [11,12,13] r r r<|Au [14,15,16,17,18,19,20,21,22,23] r r<|Ax [24] r r r<|Ay 25 r (Pt r r)<|Az<|Bg () [1]) λb=>Ak (Kg Z (Gc b<|Gz)) [5,6] [] [0,0,0,0] r<|Ai λB i=>A1 7<|Xeg (gdA (zf b)) r (Cl [] zw i r r1) λ_=>Ak (Kg Z (Gc b<|Gz)) [8,9,10] [] [0,0] r<|Ia (λa=>Ax [11,12,13] (zh a) r r<|Au [14,15,16,17,18,19,20,21,22,23] r r<|Ak (Kg Z (Gc a<|Gz)) [24,25] [] [0,0] r<|Az<|Bg () [1]) λa=>?_
    exact Ak (Kg Z (Gc a<|Gz)) [11,12,13] [] [0,0,0] r<|Ia (λd=>Ak (Kg Z (Gc d<|Gz)) [14,15,16,17] [] [0,0,0,1,0,0] r<|Ai λC j=>Ak (Kk Z (Xc j<|Xz) (Gc d<|Gc a<|Gz)) [18,19,20,21,22,23,24,25] [] [0,100,0,0,101,0,0,0,300,0,0,0,0,0,0,0,1,0,1] r<|Az<|Bg () [1]) λd=>Ak (Kg Z (Gc d<|Gc a<|Gz)) [14,15,16,17,18,19,20,21,22,23,24,25] [] [0,0,0,0,0,0,0,0,0,0,1,0,1] r<|Az<|Bg () [1]
   exact Ne<|Wc r (λk=>Dw Z 4 [] r<|Wr<|Bu<|Rq) λk=>Sk<|Bn<|Ne<|Rg<|Qs 3 r<|Nl<|Lg () [0]
  exact We<|Jg () [0]
 exact Ne<|Sq<|Dz 1 [] [] r hMix<|Aj Z [0,2,3] [] [0,0,0] r<|Ai λD l=>A1 1<|Xe r (Cl [] zt6 l r r1 ⟨(Bc Z.1),⟨⟩⟩) λ_=>Aq [4,5] r<|Az<|Ne<|Wr<|Rq
def zfM (o:Op):Option Bool:=Bb (Bb (zy (o.g.length:Int) (1:Int) (10:Int)) λa=>if a=true then if Dc ((o.F.length:Int)<=16)then if !o.M then some true else some (Dc (o.F=([])))else some false else some false) (λ(b:Bool)=>some b)
def zlJ {o:Op} :Cn Pg 236 [.agg #[strV o.g,.bool o.M,strV o.F]] [] [] (zfM o) (λr (_:Unit)=>.bool r) λ_ _=>[]:=Ch Tryz.func236 r λw S Z=>by
 refine Sr<|Fo (Bx r (Cp r)) λd=>Qs 1 r<|Nx<|Sq<|Jb Unit [] [] (λT _=>[(2,.bool T)]) (λ_ _=>[]) r2 r2 (?_) λe f=>?_
 ·refine Dt Z 3 [0,0] r<|Yo (Y.slen ks9 r)<|Cc Z [] [] zw r r2 λh i _=>Qs 1 r<|It (λb=>?_) λb=>?_
  ·exact Vv (Kg Z (Gc b<|Gz)) 2 [0,0,0,0] r<|Yg (gdA (zA b)) (Y.slen ks9 r)<|Vv (Kg Z (Gc b<|Gz)) 3 [0,0] r<|It (λa=>Vv (Kg Z (Gc a<|Gz)) 4 [0,0,0,0,0,0] r<|It (λc=>Vv (Kg Z (Gc c<|Gc a<|Gz)) 6 [0,0,0,1,0,1] r<|Nl<|Bv) λc=>Vv (Kg Z (Gc c<|Gc a<|Gz)) 6 [0,0,0,0,0,1,0,1] r<|Nl<|Bv) λa=>Of 4 (zI a) r r<|Ou 3 r r<|Vv (Kg Z (Gc a<|Gz)) 3 [0,0] r<|Nl<|Bv
  exact Vv (Kg Z (Gc b<|Gz)) 6 [0,0,0,0,0] r<|Of 4 r r r<|Ou 3 r r<|Of 1 r r r<|Yo (Pf r r)<|Qs 1 r<|Nl<|Bv
 exact Ne<|Wr<|Rq
def zkh (e:Ac):Option Bool:=Bb (Bb (zfM (⟨e.g,e.M,e.F⟩:Op)) λa=>if a=true then Bb (zy e.b 0 1000000) λc=>some c else some false) (λ(d:Bool)=>some d)
def zvf {e:Ac} :Cn Pg 170 [.agg #[strV e.g,iv e.b,.bool e.M,strV e.F]] [] [] (zkh e) (λr (_:Unit)=>.bool r) λ_ _=>[]:=Ch Tryz.func170 r λw S Z=>by
 refine Sr<|Fo (Bx r (Cp r)) λd=>Qs 1 r<|Nx<|Sq<|Jb Unit [] [] (λT _=>[(2,.bool T)]) (λ_ _=>[]) r2 r2 (?_) λf h=>?_
 ·exact Dt Z 7 [0,0,0,0,0,0] r<|Yo (Bd kp132 kz132 (Pc r (Cp r)<|Pc r (Cp r)<|Pc r (Cp r)<|Pz) r)<|Cc Z [] [] zlJ r r2 λi j _=>Qs 1 r<|It (λa=>Vv (Kg Z (Gc a<|Gz)) 2 [0,0,0,0] r<|Bi λk c=>Fg (gdA (zA a)) (Cl [] zw c r r1) λ_=>Yo (Pt a r)<|Qs 1 r<|Nl<|Bv) λa=>Vv (Kg Z (Gc a<|Gz)) 5 [0,0,0,0] r<|Nl<|Bv
 exact Ne<|Wr<|Rq
def zdm (a b:Ac):Option Bool:=Bb (if sLt a.g b.g then some true else if Dc (a.g=b.g)then some (Dc (a.b>b.b))else some false) (λ(c:Bool)=>some c)
def zgo {a b:Ac} :Cn Pg 171 [.agg #[strV a.g,iv a.b,.bool a.M,strV a.F],.agg #[strV b.g,iv b.b,.bool b.M,strV b.F]] [] [] (zdm a b) (λr (_:Unit)=>.bool r) λ_ _=>[]:=Ch Tryz.func171 r λw S Z=>by
 refine Sr<|Fo (Bx r (Cp r)) λe=>Fo (Bx r (Cp r)) λf=>Qs 1 r<|Nx<|Sq<|Jb Unit [] [] (λT _=>[(4,.bool T)]) (λ_ _=>[]) r2 r2 (?_) λh i=>?_
 ·exact Dt Z 7 [0,1,0,0] r<|It (λc=>Of 6 (zh c) r r<|Ou 5 r r<|Vv (Kg Z (Gc c<|Gz)) 3 [0,0] r<|Nl<|Bv) λc=>Vv (Kg Z (Gc c<|Gz)) 6 [0,0,0,1,0,0,0,0,0,0] r<|It (λd=>Vv (Kg Z (Gc d<|Gc c<|Gz)) 8 [0,0,0,1,0,0,0,0,0,1,0,1] r<|Nl<|Bv) λd=>Vv (Kg Z (Gc d<|Gc c<|Gz)) 8 [0,0,0,0,0,1,0,1] r<|Nl<|Bv
 exact Ne<|Wr<|Rq
def zc1 (l:List Ac):Option Bool:=bindC (loopO (λ(a:Int)=>if Dc (a<(l.length:Int))then Bb (Bb (idx l a) λb=>Bb (zkh b) λc=>if !c then some true else if Dc (a>0)then Bb (idx l (I6.wrap (a - 1))) λd=>Bb (zdm d b) λe=>some (!e)else some false) (λ(f:Bool)=>if f=true then some (.done (.done false))else some (.go (I6.wrap (a+1))))else some (.done (.go ()))) (0:Int)) (λ(g:Unit)=>some true)
def zg8:Cn Pg 111 [U0] [] [(U0,lc l)] (zc1 l) (λr (_:Unit)=>.bool r) λ_ _=>[]:=Ch Tryz.func111 r λw S Z=>by
 refine Dw Z 9 [] r<|Ju [] (λ_=>[]) r1 (?_) λi=>?_
 ·refine Wb<|Lu [0] (λT=>[(3,iv T)]) r1 λj=>Dw Z 8 [100] r<|Wc r (λd=>?_) λd=>?_
  ·refine Sn<|Sq<|Wb<|Sq<|Jv [0,3] (λT=>[(32,.bool T)]) r1 (?_) λk=>?_
   ·refine Dr [] [] r hMix<|Aq [0,1] r<|Ai λm c=>Ak (Kx Z (Xc c<|Xz)) [2,3] [] [100,0,300,0,0] r<|Ai λn e=>A1 4<|Xe r (Cl [] zvf e r r1) λ_=>Aq [5,6] r<|Ia (λa=>Ax [7,8,9] (zh a) r r<|Au [10,11,12,13,14,15,16,17,18,19,20] r r<|Ak (Kg Z (Gc a<|Gz)) [21,22] [] [0,0] r<|Az<|Bv) λa=>Ak (Kg Z (Gc a<|Gz)) [7,8,9] [] [0,0,0] r<|Ia (λb=>?_) λb=>?_
    ·exact Ak (Kg Z (Gc b<|Gz)) [10,11,12] [] [0,0,0] r<|Ai λo f=>Ak (Kk Z (Xc f<|Xc c<|Xz) (Gc b<|Gz)) [13,14,15,16,17,18] [] [0,100,0,0,300,0,0,0,0,0,100,1,0,300,1,0] r<|Ai λp g=>A1 19<|Xeg (gdA (zA b)) r (Cl [] zgo g r r1) λ_=>Ak (Kg Z (Gc b<|Gc a<|Gz)) [20,21,22] [] [0,1,0,1] r<|Az<|Bv
    exact Ak (Kg Z (Gc b<|Gc a<|Gz)) [10,11,12,13,14,15,16,17,18,19,20,21,22] [] [0,0,0,0,0,0,0,0,0,0,0,1,0,1] r<|Az<|Bv
   exact Ne<|Wc r (λh=>Dw Z 4 [] r<|Wr<|Bu<|Rq) λh=>Sk<|Bn<|Ne<|Rg<|Qs 3 r<|Nl<|Lq
  exact We<|Jq
 exact Ne<|Dw Z 4 [] r<|Wr<|Rq
def zke (l:List Ac):Option Bool:=Bb (if Dc ((l.length:Int)<=60)then Bb (zc1 l) λa=>some a else some false) (λ(b:Bool)=>some b)
def zvc:Cn Pg 109 [U0] [] [(U0,lc l)] (zke l) (λr (_:Unit)=>.bool r) λ_ _=>[]:=Ch Tryz.func109 r λw S Z=>Dw Z 5 [] r<|Jv [] (λT=>[(2,.bool T)]) r1 (Dt Z 5 [100] r<|It (λa=>Qg 1 (zA a) r r<|Bi λc b=>Fg (gdA (zA a)) (Cl [] zg8 b r r1 ⟨(Bc Z.1),⟨⟩⟩) λ_=>Yo (Pt a r)<|Qs 1 r<|Nl<|Bv) λa=>Vv (Kg Z (Gc a<|Gz)) 4 [0,0,0] r<|Nl<|Bv) λd=>Ne<|Wr<|Rq
def zc7 (l:List Ac):Option (Int × Int):=bindC (loopO (λ(a:Int × Int × Int)=>if Dc (a.2.2<(l.length:Int))then Bb (idx l a.2.2) λc=>bindC (if Dc (c.b<a.1)then some (.go c.b)else some (.go a.1)) (λ(e:Int)=>bindC (if Dc (c.b>a.2.1)then some (.go c.b)else some (.go a.2.1)) (λ(f:Int)=>some (.go (e,f,I6.wrap (a.2.2+1)))))else some (.done (.go (a.1,a.2.1)))) ((1000001:Int),(-1:Int),(0:Int))) (λ(d:Int × Int)=>some (d.1,d.2))
def zkX:Cn Pg 110 [U0] [] [(U0,lc l)] (zc7 l) (λr (_:Unit)=>.tuple #[iv r.1,iv r.2]) λ_ _=>[]:=Ch Tryz.func110 r λw S Z=>by
 refine Dw Z 18 [] r<|Ju [] (λT=>[(4,iv T.1),(5,iv T.2)]) r1 (?_) λe=>?_
 ·refine Wb<|Lu [0] (λT=>[(4,iv T.1),(5,iv T.2.1),(6,iv T.2.2)]) r1 λf=>Dw Z 8 [100] r<|Wc r (λb=>?_) λb=>?_
  ·exact Sn<|Dt Z 7 [] r<|Bi λg a=>Vv (Kx Z (Xc a<|Xz)) 5 [100,0,101,0,0,300,0,1] r<|Nx<|Ju [0,5,6] (λT=>[(4,iv T)]) r1 (Wc r (λc=>Vt (Kx Z (Xc a<|Xz)) 7 [100,0,101,0,0,300,0,1] r<|Nl<|Jq) λc=>Sk<|Jq) λh=>Ne<|Vw (Kx Z (Xc a<|Xz)) 10 [100,0,101,0,0,300,0,1] r<|Ju [0,4,6] (λT=>[(5,iv T)]) r1 (Wc r (λd=>Vt (Kx Z (Xc a<|Xz)) 7 [100,0,101,0,0,300,0,1] r<|Nl<|Jq) λd=>Sk<|Jq) λi=>Bn<|Ne<|Rg<|Qs 3 r<|Nl<|Lq
  exact We<|Jq
 exact Ne<|Dw Z 7 [] r<|Wr<|Rq
def zb1 (e:Aa):Option Bool:=Bb (Bb (zke e.s) λi=>if !i then some true else if Dc ((e.q.length:Int)>6)then some true else Bb (zy e.b 0 1000000) λj=>if !j then some true else some (Dc ((e.t.length:Int)>4))) (λ(k:Bool)=>if k=true then some false else Bb (zc7 e.s) λg=>if Dc (g.2>e.b)then some false else bindC (loopO (λ(a:Int × Int × Int)=>if Dc (a.2.2<(e.q.length:Int))then Bb (idx e.q a.2.2) λd=>Bb (zc7 d) λf=>Bb (if Dc ((d.length:Int)=0)then some true else Bb (zc1 d) λl=>if !l then some true else if Dc (f.2>=a.1)then some true else some (Dc (f.2>e.b))) (λ(m:Bool)=>if m=true then some (.done (.done false))else some (.go (f.1,I6.wrap (a.2.1+(d.length:Int)),I6.wrap (a.2.2+1))))else some (.done (.go a.2.1))) (g.1,(e.s.length:Int),(0:Int))) (λ(n:Int)=>bindC (loopO (λ(c:Int)=>if Dc (c<(e.t.length:Int))then Bb (Bb (idx e.t c) λh=>Bb (zy h 0 e.b) λo=>if !o then some true else if Dc (c>0)then Bb (idx e.t (I6.wrap (c - 1))) λp=>some (Dc (p>=h))else some false) (λ(u:Bool)=>if u=true then some (.done (.done false))else some (.go (I6.wrap (c+1))))else some (.done (.go ()))) (0:Int)) (λ(v:Unit)=>some (Dc (n<=400)))))
def zci {e:Aa} :Cn Pg 61 [.agg #[U0,U1,iv e.b,U2]] [] [(U0,lc e.s),(U1,lc e.q),(U2,lc e.t)] (zb1 e) (λr (_:Unit)=>.bool r) λ_ _=>[]:=Ch Tryz.func61 r λw S Z=>by
 refine Sr<|Fo (Bx r (Ca ⟨Ob Z.1,Ob Z.2.1,Op',Ob Z.2.2.1,⟨⟩⟩)) λC=>Qs 1 r<|Nx<|Sq<|Sq<|Jv [1] (λT=>[(32,.bool T)]) r1 (?_) λD=>?_
 ·refine Dt Z 3 [0,0] r<|Cc Z [] [100] zvc r r2 λE F _=>Qs 2 r<|It (λj=>Vv (Kg Z (Gc j<|Gz)) 6 [0,0,0,0,0] r<|Of 4 r r r<|Yo (Pt r r)<|Qs 1 r<|Of 4 r r r<|Yo (Pt r r)<|Nl<|Bg () [0]) λj=>Vv (Kg Z (Gc j<|Gz)) 6 [0,0,0,0,0,101,0,0] r<|It (λc=>Vv (Kg Z (Gc c<|Gz)) 6 [0,0,0,0,0] r<|Of 4 r r r<|Yo (Pt r r)<|Nl<|Bg () [0]) λc=>Vv (Kg Z (Gc c<|Gz)) 2 [0,0,0,0] r<|Bi λG n=>Fg (gdA (zf c)) (Cl [] zw n r r1) λ_=>Vv (Kg Z (Gc c<|Gz)) 3 [0,0] r<|It (λf=>Of 4 (zh f) r r<|Yo (Pt f r)<|Nl<|Bg () [0]) λf=>?_
  exact Vv (Kg Z (Gc f<|Gz)) 5 [0,0,0,0,0,102,0,0] r<|Nl<|Bg () [0]
 refine Ne<|Wc r (λo=>Dw Z 4 [] r<|Wv<|Rq) λo=>Sn<|Dt Z 4 [0,0] r<|Cc Z [] [100] zkX r r2 λH I _=>Qs 5 r<|Nx<|Dw Z 8 [0,0] r<|Wc r (λp=>Dw Z 4 [] r<|Wv<|Rq) λp=>Sn<|Dw Z 12 [0,0,100] r<|Ju [1] (λT=>[(5,iv T)]) r1 (?_) λJ=>?_
 ·refine Wb<|Lu [1] (λT=>[(3,iv T.1),(5,iv T.2.1),(6,iv T.2.2)]) r1 λK=>Dw Z 9 [0,0,101] r<|Wc r (λu=>?_) λu=>?_
  ·refine Sn<|Dt Z 7 [0,0] r<|Bi λL k=>Yo (Ix ke110 (Bc Z.2.1) k r)<|?_
   have g:=Bj 0 Z.2.1 k r;refine Yo (Lz kk109 Z.2.1 k r)<|Qs 1 r<|Nx<|Sr<|Qs 1 r<|Cc (Bq g<|Z) [] [100] zkX r r2 λM N _=>Qs 5 r<|Nx<|Sq<|Sq<|Jv [1,5,6,7,8] (λT=>[(81,.bool T)]) r1 (?_) λO=>?_
   ·exact Dt (Bq g<|Z) 5 [100] r<|It (λd=>Vv (Kg Z (Gc d<|Gz)) 5 [0,0,0,0] r<|Of 3 r r r<|Yo (Pt r r)<|Qs 1 r<|Of 4 r r r<|Yo (Pt r r)<|Nl<|Bg () [0]) λd=>Qg 1 (zf d) r r<|Bi λP v=>Fg (gdA (zf d)) (Cl [] zg8 v r r1 ⟨(Bc g),⟨⟩⟩) λ_=>Vv (Kg Z (Gc d<|Gz)) 3 [0,0] r<|It (λl=>Vv (Kg Z (Gc l<|Gz)) 5 [0,0,0,0] r<|Of 4 r r r<|Yo (Pt r r)<|Nl<|Bg () [0]) λl=>Vv (Kg Z (Gc l<|Gz)) 5 [0,0,0,0] r<|It (λh=>Of 4 (zh h) r r<|Yo (Pt h r)<|Nl<|Bg () [0]) λh=>Vv (Kg Z (Gc h<|Gz)) 5 [0,0,0,0,0,0,0] r<|Nl<|Bg () [0]
   exact Ne<|Wc r (λx=>Dw Z 4 [] r<|Wv<|Bu<|Rq) λx=>Sn<|Dt (Bq g<|Z) 11 [100] r<|Nl<|Bn<|Ne<|Rg<|Qs 3 r<|Nl<|Lg () [0]
  exact We<|Jg () [0]
 refine Ne<|Dw Z 5 [] r<|Jn Unit [5] [] (λ_ _=>[]) (λ_ _=>[]) r2 r2 (?_) λQ R=>?_
 ·refine Wb<|Lu [1,5] (λT=>[(10,iv T)]) r1 λU=>Dw Z 9 [0,0,102] r<|Wc r (λy=>?_) λy=>?_
  ·refine Sn<|Sq<|Wb<|Sq<|Jv [1,5,10] (λT=>[(120,.bool T)]) r1 (?_) λV=>?_
   ·refine Dz 1 [] [] r hMix<|Aj Z [0,1,2] [] [0,0] r<|Ai λW m=>Ak (Kx Z (Xc m<|Xz)) [3,4,5,6] [] [102,0,302,0,0,0,0] r<|Ai λX z=>A1 7<|Xe r (Cl [] zw z r r1) λ_=>Aq [8,9] r<|Ia (λa=>Ax [10,11,12] (zh a) r r<|Au [13,14,15,16,17,18,19,20,21,22,23,24] r r<|Ak (Kg Z (Gc a<|Gz)) [25,26] [] [0,0] r<|Az<|Bg () [0]) λa=>Ak (Kg Z (Gc a<|Gz)) [10,11,12] [] [0,0,0] r<|Ia (λi=>Ak (Kg Z (Gc i<|Gz)) [13,14,15,16] [] [0,0,0,0,0,0] r<|Ai λY A=>Ak (Kk Z (Xc A<|Xc m<|Xz) (Gc i<|Gc a<|Gz)) [17,18,19,20,21,22,23,24,25,26] [] [0,102,0,0,302,0,0,0,0,0,0,0,0,102,1,0,302,1,0,0,1,0,1] r<|Az<|Bg () [0]) λi=>?_
    exact Ak (Kg Z (Gc i<|Gc a<|Gz)) [13,14,15,16,17,18,19,20,21,22,23,24,25,26] [] [0,0,0,0,0,0,0,0,0,0,0,0,1,0,1] r<|Az<|Bg () [0]
   exact Ne<|Wc r (λB=>Dw Z 4 [] r<|Wr<|Bu<|Rq) λB=>Sk<|Bn<|Ne<|Rg<|Qs 3 r<|Nl<|Lg () [0]
  exact We<|Jq
 exact Ne<|Dw Z 6 [] r<|Wr<|Rq
def zdO (d:Ar) (tenant:Int):Option (List UInt8):=bindC (loopO (λ(a:Int)=>Bb (if Dc (a<(d.x.length:Int))then Bb (zbo d) λc=>some c else some false) (λ(e:Bool)=>if e=true then Bb (idx d.x a) λb=>if Dc (b.r=tenant)then some (.done (.done b.g))else some (.go (I6.wrap (a+1)))else some (.done (.go ())))) (0:Int)) (λ(f:Unit)=>some ([]))
def zim {d:Ar} {tenant:Int} :Cn Pg 112 [.agg #[strV d.K,U0,iv d.H],iv tenant] [] [(U0,lc d.x)] (zdO d tenant) (λr (_:Unit)=>strV r) λ_ _=>[]:=Ch Tryz.func112 r λw S Z=>by
 refine Sr<|Fo (Bx r (Ca ⟨Op',Ob Z.1,Op',⟨⟩⟩)) λg=>Qs 1 r<|Nx<|Dw Z 5 [] r<|Jn Unit [] [] (λ_ _=>[]) (λ_ _=>[]) r2 r2 (?_) λh i=>?_
 ·refine Wb<|Lu [1,2] (λT=>[(5,iv T)]) r1 λj=>Sq<|Sq<|Jv [1,2,5] (λT=>[(14,.bool T)]) r1 (Dt Z 7 [0,0,100] r<|It (λa=>Vv (Kg Z (Gc a<|Gz)) 1 [0,0] r<|Bi λk c=>Fg (gdA (zA a)) (Cl [] zfI c r r1 ⟨(Bc Z.1),⟨⟩⟩) λ_=>Yo (Pt a r)<|Nl<|Bg () [0]) λa=>Of 2 (zI a) r r<|Yo (Pf a r)<|Nl<|Bg () [0]) λl=>Ne<|Wc r (λe=>Sn<|Dt Z 7 [0,0] r<|Bi λm b=>Vv (Kx Z (Xc b<|Xz)) 5 [100,0,101,0,0,300,0,0] r<|Nx<|Wc r (λf=>Vw (Kx Z (Xc b<|Xz)) 10 [0,0,100,0,101,0,0,300,0,1] r<|Wr<|Bu<|Rq) λf=>Sk<|Bn<|Ne<|Rg<|Qs 3 r<|Nl<|Lg () [0]) λe=>?_
  exact We<|Jq
 exact Ne<|Dw Z 4 [] r<|Wr<|Rq
def zjt (boot seq:Int):Option Bool:=Bb (Bb (zy boot 0 1000) λa=>if a=true then Bb (zy seq 0 999999) λb=>some b else some false) (λ(c:Bool)=>some c)
def zpk {boot seq:Int} :Cn Pg 172 [iv boot,iv seq] [] [] (zjt boot seq) (λr (_:Unit)=>.bool r) λ_ _=>[]:=Ch Tryz.func172 r λw S Z=>Dw Z 5 [] r<|Jv [] (λT=>[(4,.bool T)]) r1 (Rg<|Qs 1 r<|Cc Z [] [] zw r r2 λc d _=>Qs 1 r<|It (λa=>Qg 1 (zA a) r r<|Bi λe b=>Fg (gdA (zA a)) (Cl [] zw b r r1) λ_=>Yo (Pt a r)<|Qs 1 r<|Nl<|Bv) λa=>Vv (Kg Z (Gc a<|Gz)) 4 [0,0,0] r<|Nl<|Bv) λf=>Ne<|Wr<|Rq
def zkd (n h:Int):Option (List UInt8):=Bb (Bb (zy h 1 7) λc=>if !c then some true else some (Dc (n<0))) (λ(d:Bool)=>if d=true then some ([])else bindC (loopO (λ(a:Int × List UInt8 × Int)=>if Dc (a.2.2<h)then Bb (cat ([toU8 (Int.tmod a.1 256)]) a.2.1) λe=>some (.go (I6.wrap (Int.tdiv a.1 256),e,I6.wrap (a.2.2+1)))else some (.done (.go (a.1,a.2.1)))) (n,[],(0:Int))) (λ(b:Int × List UInt8)=>if Dc (b.1>0)then some ([])else some b.2))
def zvb {n A:Int} :Cn Pg 239 [iv n,iv A] [] [] (zkd n A) (λr (_:Unit)=>strV r) λ_ _=>[]:=Ch Tryz.func239 r λw S Z=>by
 refine Dw Z 6 [] r<|Jv [0,1] (λT=>[(13,.bool T)]) r1 (Rg<|Qs 1 r<|Cc Z [] [] zw r r2 λg h _=>Qs 2 r<|It (λa=>Of 2 (zh a) r r<|Yo (Pt a r)<|Nl<|Bv) λa=>Qg 2 (zf a) r r<|Yo (Pf a r)<|Nl<|Bv) λi=>Ne<|Wc r (λb=>Dw Z 4 [] r<|Wv<|Rq) λb=>Sn<|Dw Z 9 [] r<|Ju [] (λT=>[(0,iv T.1),(5,strV T.2)]) r1 (?_) λj=>?_
 ·refine Wb<|Lu [1] (λT=>[(0,iv T.1),(5,strV T.2.1),(6,iv T.2.2)]) r1 λc=>Dw Z 7 [] r<|Wc r (λd=>?_) λd=>?_
  ·exact Sn<|Dt Z 5 [] r<|Yo (Y.rem (by decide) r r)<|Yo (Y.conv8 ki3 ki5 r)<|Fo (Bs [toU8 (Int.tmod c.1 256)] ke205 kz5) λk=>Yo (Y.toStr ke205 ki5 ks9 (Oc 0 r) r)<|Qs 1 r<|Bi λl e=>Yo (Y.cat e r r)<|Qs 1 r<|Nx<|Rg<|Qs 1 r<|Yo (Y.quo (by decide) r r)<|Qs 1 r<|Nl<|Bn<|Ne<|Rg<|Qs 3 r<|Nl<|Lq
  exact We<|Jq
 exact Ne<|Dw Z 6 [] r<|Wc r (λf=>Dw Z 4 [] r<|Wv<|Rq) λf=>Sn<|Dw Z 5 [] r<|Wr<|Rq
def zeq (kind n:Int):Option (List UInt8):=Bb (Bb (zy kind 0 255) λa=>if !a then some true else Bb (zy n 0 562949953421311) λb=>some (!b)) (λ(c:Bool)=>if c=true then some ([])else Bb (zkd n 7) λd=>Bb (cat ([toU8 kind,(0:UInt8),(0:UInt8),(0:UInt8),(0:UInt8)]) d) λe=>some e)
def ziQ {kind n:Int} :Cn Pg 175 [iv kind,iv n] [] [] (zeq kind n) (λr (_:Unit)=>strV r) λ_ _=>[]:=Ch Tryz.func175 r λw S Z=>by
 refine Dw Z 6 [] r<|Jv [0,1] (λT=>[(12,.bool T)]) r1 (Rg<|Qs 1 r<|Cc Z [] [] zw r r2 λf g _=>Qs 2 r<|It (λa=>Of 3 (zh a) r r<|Yo (Pt a r)<|Nl<|Bv) λa=>Qg 1 (zf a) r r<|Bi λh b=>Fg (gdA (zf a)) (Cl [] zw b r r1) λ_=>Vv (Kg Z (Gc a<|Gz)) 2 [0,0] r<|Nl<|Bv) λi=>Ne<|Wc r (λc=>Dw Z 4 [] r<|Wv<|Rq) λc=>Sn<|Sq<|Wi λj d=>Wi λk e=>Dr [] [] r hMix<|Aq [0] r<|Ay 1 r (Y.conv8 ki3 ki5 r)<|Aq [4] r<|Ts (Sc 5 r (λ_ _ A=>Cl [] zvb d r r1) Sz) r<|Me 2 r (λ_ _ A=>Bs [toU8 kind,(0:UInt8),(0:UInt8),(0:UInt8),(0:UInt8)] ke205 kz5) λl=>?_
 exact Mi 3 r (λ_ _ A=>Y.toStr ke205 ki5 ks9 (Oc 0 r) r)<|Mc λ_=>Mo<|Ay 6 r (Y.cat e r r)<|Aq [7] r<|Az<|Ne<|Wr<|Rq
def zP (s:List UInt8) (at_:Int):Option Int:=Bb (sidx s at_) λa=>Bb (sidx s (I6.wrap (at_+1))) λb=>Bb (sidx s (I6.wrap (at_+2))) λc=>Bb (sidx s (I6.wrap (at_+3))) λd=>some (ior .i64 (ior .i64 (ior .i64 (I6.wrap (a.toNat:Int)) (ishl .i64 (I6.wrap (b.toNat:Int)) 8)) (ishl .i64 (I6.wrap (c.toNat:Int)) 16)) (ishl .i64 (I6.wrap (d.toNat:Int)) 24))
def zfs {s:List UInt8} {at_:Int} :Cn Pg 285 [strV s,iv at_] [] [] (zP s at_) (λr (_:Unit)=>iv r) λ_ _=>[]:=Ch Tryz.func285 r λw S Z=>Dw Z 5 [] r<|Dr [] [] r hMix<|Aq [0,1] r<|Ai λe a=>Ay 2 r (Y.sidx a ks9 r r)<|Ay 3 r (Y.conv ki5 ki3 r)<|Aq [4,5,6] r<|Ai λf b=>Ay 7 r (Y.sidx b ks9 r r)<|Ay 8 r (Y.conv ki5 ki3 r)<|Ay 9 r (Y.shl (by decide) r r)<|Aq [10,11,12,13] r<|Ai λg c=>Ay 14 r (Y.sidx c ks9 r r)<|Ay 15 r (Y.conv ki5 ki3 r)<|Ay 16 r (Y.shl (by decide) r r)<|Aq [17,18,19,20] r<|Ai λh d=>Ay 21 r (Y.sidx d ks9 r r)<|Ay 22 r (Y.conv ki5 ki3 r)<|Ay 23 r (Y.shl (by decide) r r)<|Aq [24,25] r<|Az<|Ne<|Wr<|Rq
def zbZ (x:Int):Option Int:=some (iand .i64 x 4294967295)
def zdx {x:Int} :Cn Pg 287 [iv x] [] [] (zbZ x) (λr (_:Unit)=>iv r) λ_ _=>[]:=Ch Tryz.func287 r λw S Z=>Dw Z 10 [] r<|Wr<|Rq
def zc0 (x n:Int):Option Int:=Bb (nn n) λb=>Bb (zbZ (ior .i64 (ishl .i64 x n) (ishr .i64 x (IntKind.u64.wrap ((32:Int) - n))))) λa=>some a
def zg6 {x n:Int} :Cn Pg 319 [iv x,.int .u64 n] [] [] (zc0 x n) (λr (_:Unit)=>iv r) λ_ _=>[]:=Ch Tryz.func319 r λw S Z=>Dt Z 8 [] r<|Bi λb a=>Yo (Y.shl (nn_ge a) r r)<|Qs 3 r<|Yo (Y.shr (zha r _) r r)<|Qs 1 r<|Cc Z [] [] zdx r r2 λc d _=>Qs 1 r<|Nx<|Wr<|Rq
def zn (s:List Int) (a b c d:Int):Option (List Int):=Bb (idx s a) λl=>Bb (idx s b) λm=>Bb (zbZ (I6.wrap (l+m))) λe=>Bb (idx (s.set a.toNat e) d) λn=>Bb (zc0 (ixor .i64 n e) (16:Int)) λf=>Bb (idx ((s.set a.toNat e).set d.toNat f) c) λo=>Bb (zbZ (I6.wrap (o+f))) λg=>Bb (idx (((s.set a.toNat e).set d.toNat f).set c.toNat g) b) λp=>Bb (zc0 (ixor .i64 p g) (12:Int)) λh=>Bb (idx ((((s.set a.toNat e).set d.toNat f).set c.toNat g).set b.toNat h) a) λq=>Bb (zbZ (I6.wrap (q+h))) λi=>Bb (idx (((((s.set a.toNat e).set d.toNat f).set c.toNat g).set b.toNat h).set a.toNat i) d) λt=>Bb (zc0 (ixor .i64 t i) (8:Int)) λj=>Bb (idx ((((((s.set a.toNat e).set d.toNat f).set c.toNat g).set b.toNat h).set a.toNat i).set d.toNat j) c) λu=>Bb (zbZ (I6.wrap (u+j))) λk=>Bb (idx (((((((s.set a.toNat e).set d.toNat f).set c.toNat g).set b.toNat h).set a.toNat i).set d.toNat j).set c.toNat k) b) λv=>Bb (zc0 (ixor .i64 v k) (7:Int)) λw=>some ((((((((s.set a.toNat e).set d.toNat f).set c.toNat g).set b.toNat h).set a.toNat i).set d.toNat j).set c.toNat k).set b.toNat w)
def zbI {s:List Int} {a b c d:Int} :Cn Pg 286 [U0,iv a,iv b,iv c,iv d] [.own U0 (lc s)] [] (zn s a b c d) (λ_ (X:Value)=>X) λr X=>[.own X (lc r)]:=Ch Tryz.func286 r λw S Z=>by
 refine Dw Z 5 [] r<|Dr [0] [13] r hMix<|Aq [0,1,2,3] r<|Ai λG e=>Ak (Kx Z (Xc e<|Xz)) [4,5,6,7] [15392,15360] [0,0,200,0,0] r<|Ai λH m=>Ak (Kx Z (Xc m<|Xz)) [8,9,10] [15872,15360] [0,0,200,0,0] r<|Ai λn o=>A1 11<|Xe r (Cl [] zdx o r r1) λ_=>Ab 12 8192 r (Ix ke95 (Oc 0 r) e r)<|A1 13<|Xu r (Se n 0 kk3 e r (Cp r) r)<|Az<|Ne<|Sq<|Dr [0] [13] r hMix<|Aq [0,1,2,3] r<|Ai λI f=>Ak (Kx Z (Xc f<|Xz)) [4,5,6,7] [15392,15360] [0,0,200,0,0] r<|Ab 8 15872 r (Ix ke95 (Oc 0 r) (zk e) r)<|Ab 9 15360 r (Le kk3 (Oc 0 r) (zk e) r)<|Aq [10] r<|Ai λp q=>?_
 refine A1 11<|Xe r (Cl [] zg6 q r r1) λ_=>Ab 12 8192 r (Ix ke95 (Oc 0 r) f r)<|A1 13<|Xu r (Se p 0 kk3 f r (Cp r) r)<|Az<|Ne<|Sq<|Dr [0] [13] r hMix<|Aq [0,1,2,3] r<|Ai λJ g=>Ak (Kx Z (Xc g<|Xz)) [4,5,6,7] [15392,15360] [0,0,200,0,0] r<|Ab 8 15872 r (Ix ke95 (Oc 0 r) (zk f) r)<|Ab 9 15360 r (Le kk3 (Oc 0 r) (zk f) r)<|Aq [10] r<|Ai λt u=>A1 11<|Xe r (Cl [] zdx u r r1) λ_=>Ab 12 8192 r (Ix ke95 (Oc 0 r) g r)<|A1 13<|Xu r (Se t 0 kk3 g r (Cp r) r)<|Az<|Ne<|Sq<|Dr [0] [13] r hMix<|Aq [0,1,2,3] r<|Ai λK h=>?_
 refine Ak (Kx Z (Xc h<|Xz)) [4,5,6,7] [15392,15360] [0,0,200,0,0] r<|Ab 8 15872 r (Ix ke95 (Oc 0 r) (zk g) r)<|Ab 9 15360 r (Le kk3 (Oc 0 r) (zk g) r)<|Aq [10] r<|Ai λv x=>A1 11<|Xe r (Cl [] zg6 x r r1) λ_=>Ab 12 8192 r (Ix ke95 (Oc 0 r) h r)<|A1 13<|Xu r (Se v 0 kk3 h r (Cp r) r)<|Az<|Ne<|Sq<|Dr [0] [13] r hMix<|Aq [0,1,2,3] r<|Ai λL i=>Ak (Kx Z (Xc i<|Xz)) [4,5,6,7] [15392,15360] [0,0,200,0,0] r<|Ab 8 15872 r (Ix ke95 (Oc 0 r) (zk h) r)<|Ab 9 15360 r (Le kk3 (Oc 0 r) (zk h) r)<|Aq [10] r<|Ai λy z=>?_
 refine A1 11<|Xe r (Cl [] zdx z r r1) λ_=>Ab 12 8192 r (Ix ke95 (Oc 0 r) i r)<|A1 13<|Xu r (Se y 0 kk3 i r (Cp r) r)<|Az<|Ne<|Sq<|Dr [0] [13] r hMix<|Aq [0,1,2,3] r<|Ai λM j=>Ak (Kx Z (Xc j<|Xz)) [4,5,6,7] [15392,15360] [0,0,200,0,0] r<|Ab 8 15872 r (Ix ke95 (Oc 0 r) (zk i) r)<|Ab 9 15360 r (Le kk3 (Oc 0 r) (zk i) r)<|Aq [10] r<|Ai λA B=>A1 11<|Xe r (Cl [] zg6 B r r1) λ_=>Ab 12 8192 r (Ix ke95 (Oc 0 r) j r)<|A1 13<|Xu r (Se A 0 kk3 j r (Cp r) r)<|Az<|Ne<|Sq<|Dr [0] [13] r hMix<|Aq [0,1,2,3] r<|Ai λN k=>?_
 refine Ak (Kx Z (Xc k<|Xz)) [4,5,6,7] [15392,15360] [0,0,200,0,0] r<|Ab 8 15872 r (Ix ke95 (Oc 0 r) (zk j) r)<|Ab 9 15360 r (Le kk3 (Oc 0 r) (zk j) r)<|Aq [10] r<|Ai λC D=>A1 11<|Xe r (Cl [] zdx D r r1) λ_=>Ab 12 8192 r (Ix ke95 (Oc 0 r) k r)<|A1 13<|Xu r (Se C 0 kk3 k r (Cp r) r)<|Az<|Ne<|Sq<|Dr [0] [13] r hMix<|Aq [0,1,2,3] r<|Ai λO l=>Ak (Kx Z (Xc l<|Xz)) [4,5,6,7] [15392,15360] [0,0,200,0,0] r<|Ab 8 15872 r (Ix ke95 (Oc 0 r) (zk k) r)<|Ab 9 15360 r (Le kk3 (Oc 0 r) (zk k) r)<|Aq [10] r<|Ai λE F=>?_
 exact A1 11<|Xe r (Cl [] zg6 F r r1) λ_=>Ab 12 8192 r (Ix ke95 (Oc 0 r) l r)<|A1 13<|Xu r (Se E 0 kk3 l r (Cp r) r)<|Az<|Ne<|Dw Z 5 [] r<|Wr<|Re U0 [0]
end Go.Proofs.YtdpainahgcdflaaGreat
end
end
section
open Option renaming bind->Bb
open Decidable renaming decide->Dc
open Int renaming tmod->An
noncomputable section
open Go.Proofs.Tryz renaming prog->Pg
open Go.IntKind renaming i64->I6
namespace Go.Proofs.YtdpainahgcdflaaGreat
open Go Sl
variable {U0 U1 U2 U3 U4:Value} {s key nonce:List UInt8} {tenant counter at_:Int} {l:List Op}
def zkZ (key:List UInt8) (counter:Int) (nonce:List UInt8):Option (List UInt8):=bindC (loopO (λ(b:Int × List Int)=>if Dc (b.1<8)then Bb (zP key (I6.wrap ((4:Int)*b.1))) λf=>Bb (app 8 b.2 ([f])) λg=>some (.go (I6.wrap (b.1+1),g))else some (.done (.go b.2))) ((0:Int),([(1634760805:Int),(857760878:Int),(2036477234:Int),(1797285236:Int)]))) (λ(h:List Int)=>Bb (zP nonce 0) λi=>Bb (zP nonce 4) λj=>Bb (zP nonce 8) λk=>Bb (app 8 h ([counter,i,j,k])) λe=>Bb (app 8 ([]:List Int) e) λl=>bindC (loopO (λ(c:Int × List Int)=>if Dc (c.1<10)then Bb (zn c.2 0 4 (8:Int) (12:Int)) λm=>Bb (zn m 1 5 (9:Int) (13:Int)) λn=>Bb (zn n 2 6 (10:Int) (14:Int)) λo=>Bb (zn o 3 7 (11:Int) (15:Int)) λp=>Bb (zn p 0 5 (10:Int) (15:Int)) λq=>Bb (zn q 1 6 (11:Int) (12:Int)) λs=>Bb (zn s 2 7 (8:Int) (13:Int)) λt=>Bb (zn t 3 4 (9:Int) (14:Int)) λu=>some (.go (I6.wrap (c.1+1),u))else some (.done (.go c.2))) ((0:Int),l)) (λ(v:List Int)=>bindC (loopO (λ(a:Int × List UInt8)=>if Dc (a.1<16)then Bb (idx v a.1) λw=>Bb (idx e a.1) λx=>Bb (zbZ (I6.wrap (w+x))) λd=>Bb (app 1 a.2 ([toU8 (iand .i64 d 255),toU8 (iand .i64 (ishr .i64 d 8) 255),toU8 (iand .i64 (ishr .i64 d 16) 255),toU8 (ishr .i64 d 24)])) λy=>some (.go (I6.wrap (a.1+1),y))else some (.done (.go a.2))) ((0:Int),([]:List UInt8))) (λ(z:List UInt8)=>some z)))
def zsD:Cn Pg 240 [strV key,iv counter,strV nonce] [] [] (zkZ key counter nonce) (λr (_:Unit)=>strV r) λ_ _=>[]:=Ch Tryz.func240 r λw S Z=>by
 refine Dt Z 6 [] r<|Fo (Bs [(1634760805:Int),(857760878:Int),(2036477234:Int),(1797285236:Int)] ke95 kz3) λb=>Qs 1 r<|Nx<|Dw Z 5 [] r<|Jn Value [1,2] [] (λ_ X=>[(7,X)]) (λT X=>[.own X (lc T)]) r2 r2 (?_) λA B=>?_
 ·exact Wb<|Lp Value [0,1,2] [] (λT X=>[(7,X),(8,iv T.1)]) (λT X=>[.own X (lc T.2)]) (.slice (some ⟨b,0,none⟩) 4 4) [0] r2 r2 λC c=>Dw Z 6 [] r<|Wc r (λd=>Sn<|Dt Z 7 [] r<|Cc Z [] [] zfs r r2 λe D _=>Fo (Bs [e] ke95 kz3) λE=>Bi λF f=>Fo (Ap [1] f ke95 kz3 r (Oc 0 r)) λg=>Qs 1 r<|Nl<|Bn<|Ne<|Rg<|Qs 3 r<|Nl<|Lg g [0]) λd=>We<|Jg c [0]
 refine Ne<|Sr<|Qs 3 r<|Cc Z [] [] zfs r r2 λh G _=>Qs 1 r<|Cc Z [] [] zfs r r2 λi H _=>Qs 1 r<|Cc Z [] [] zfs r r2 λj I _=>Fo (Bs [counter,h,i,j] ke95 kz3) λJ=>Bi λK k=>Fo (Ap [1] k ke95 kz3 r (Oc 0 r)) λL=>Qs 1 r<|Nx<|Sr<|Fo (Bs ([]:List Int) ke95 kz3) λM=>Qs 1 r<|Bi λN l=>Fo (Ap [0] l ke95 kz3 r (Oc 1 r)) λm=>Qs 1 r<|Nx<|Dw Z 5 [] r<|Jn Value [7] [1] (λ_ X=>[(9,X)]) (λT X=>[.own X (lc T)]) r2 r2 (?_) λO P=>?_
 ·refine Wb<|Lp Value [7] [1] (λT X=>[(9,X),(10,iv T.1)]) (λT X=>[.own X (lc T.2)]) m [1,0] r2 r2 λQ n=>Dw Z 6 [] r<|Wc r (λo=>?_) λo=>?_
  ·refine Sn<|Dt Z 5 [] r<|Cc Z [1] [] zbI r r2 λR U V=>Qs 1 r<|Nx<|Sr<|Qs 1 r<|Cc Z [0] [] zbI r r2 λW aa ab=>Qs 1 r<|Nx<|Sr<|Qs 1 r<|Cc Z [0] [] zbI r r2 λac ad ae=>Qs 1 r<|Nx<|Sr<|Qs 1 r<|Cc Z [0] [] zbI r r2 λaf ag ah=>Qs 1 r<|Nx<|Sr<|Qs 1 r<|Cc Z [0] [] zbI r r2 λai aj ak=>Qs 1 r<|Nx<|Sr<|Qs 1 r<|Cc Z [0] [] zbI r r2 λal am an=>Qs 1 r<|Nx<|Sr<|Qs 1 r<|Cc Z [0] [] zbI r r2 λao ap aq=>?_
   exact Qs 1 r<|Nx<|Rg<|Qs 1 r<|Cc Z [0] [] zbI r r2 λar au p=>Qs 1 r<|Nl<|Bn<|Ne<|Rg<|Qs 3 r<|Nl<|Lg p [1,0]
  exact We<|Jg n [0,0]
 refine Ne<|Sr<|Fo (Bs ([]:List UInt8) ke205 kz5) λq=>Qs 1 r<|Nx<|Dw Z 5 [] r<|Jn Value [] [] (λ_ X=>[(11,X)]) (λT X=>[.own X (lc T)]) r2 r2 (?_) λav aw=>?_
 ·refine Wb<|Lp Value [7,9] [1,1] (λT X=>[(11,X),(12,iv T.1)]) (λT X=>[.own X (lc T.2)]) (.slice (some ⟨q,0,none⟩) 0 0) [1,1,0] r2 r2 λax s=>Dw Z 6 [] r<|Wc r (λt=>?_) λt=>?_
  ·refine Sn<|Sq<|Wb<|Sq<|Dz 3 [] [] r hMix<|Aq [0,1] r<|Ai λay u=>Ak (Kx Z (Xc u<|Xz)) [2,3,4,5] [] [1,0,201,0,0] r<|Ai λaz v=>Ak (Kx Z (Xc v<|Xz)) [6,7,8] [] [0,0,200,0,0] r<|Ai λa x=>A1 9<|Xe r (Cl [] zdx x r r1) λ_=>Aq [10] r<|Az<|Ne<|Rg<|Qs 3 r<|Yo (Y.conv8 ki3 ki5 r)<|Qs 1 r<|Yo (Y.shr (by decide) r r)<|Qs 1 r<|Yo (Y.conv8 ki3 ki5 r)<|Qs 1 r<|Yo (Y.shr (by decide) r r)<|Qs 1 r<|Yo (Y.conv8 ki3 ki5 r)<|Qs 1 r<|Yo (Y.shr (by decide) r r)<|Yo (Y.conv8 ki3 ki5 r)<|Fo (Bs [toU8 (iand .i64 a 255),toU8 (iand .i64 (ishr .i64 a 8) 255),toU8 (iand .i64 (ishr .i64 a 16) 255),toU8 (ishr .i64 a 24)] ke205 kz5) λaA=>?_
   exact Bi λaB y=>Fo (Ap [3] y ke205 kz5 r (Oc 0 r)) λz=>Qs 1 r<|Nl<|Bn<|Ne<|Rg<|Qs 3 r<|Nl<|Lg z [2,2,0]
  exact We<|Jg s [2]
 exact Ne<|Sr<|Qs 1 r<|Yo (Y.toStr ke205 ki5 ks9 (Oc 0 r) r)<|Qs 1 r<|Nx<|Wr<|Rq
def zcQ (key:List UInt8) (counter:Int) (nonce:List UInt8):Option (List UInt8):=Bb (if !(Dc ((key.length:Int)=32))then some true else if !(Dc ((nonce.length:Int)=12))then some true else Bb (zy counter 0 4294967295) λa=>some (!a)) (λ(b:Bool)=>if b=true then some ([])else Bb (zkZ key counter nonce) λc=>some c)
def zij:Cn Pg 184 [strV key,iv counter,strV nonce] [] [] (zcQ key counter nonce) (λr (_:Unit)=>strV r) λ_ _=>[]:=Ch Tryz.func184 r λw S Z=>by
 refine Dw Z 6 [] r<|Jv [0,1,2] (λT=>[(19,.bool T)]) r1 (?_) λe=>?_
 ·exact Rg<|Qs 1 r<|Yo (Y.slen ks9 r)<|Qs 2 r<|It (λb=>Vv (Kg Z (Gc b<|Gz)) 5 [0,0,0,0] r<|Of 3 r r r<|Yo (Pt r r)<|Nl<|Bv) λb=>Qg 1 (zf b) r r<|Yg (gdA (zf b)) (Y.slen ks9 r)<|Vv (Kg Z (Gc b<|Gz)) 3 [0,0] r<|It (λa=>Of 3 (zh a) r r<|Yo (Pt a r)<|Nl<|Bv) λa=>Qg 1 (zf a) r r<|Bi λf c=>Fg (gdA (zf a)) (Cl [] zw c r r1) λ_=>Vv (Kg Z (Gc a<|Gz)) 2 [0,0] r<|Nl<|Bv
 exact Ne<|Wc r (λd=>Dw Z 4 [] r<|Wv<|Rq) λd=>Sn<|Sr<|Qs 3 r<|Cc Z [] [] zsD r r2 λg h _=>Qs 1 r<|Nx<|Wr<|Rq
def zeo (key:List UInt8) (counter:Int) (nonce text:List UInt8):Option (List UInt8):=Bb (zcQ key counter nonce) λd=>if Dc (d=([]))then some ([])else bindC (loopO (λ(a:Int × List UInt8)=>if Dc (a.1<(text.length:Int))then Bb (zcQ key (I6.wrap (counter+(I6.wrap (Int.tdiv a.1 64)))) nonce) λc=>if Dc (c=([]))then some (.done (.done ([])))else bindC (loopO (λ(b:Int × List UInt8)=>Bb (if Dc (b.1<(text.length:Int))then some (Dc (b.1<I6.wrap (a.1+64)))else some false) (λ(e:Bool)=>if e=true then Bb (sidx text b.1) λf=>Bb (sidx c (I6.wrap (b.1 - a.1))) λg=>Bb (app 1 b.2 ([(f ^^^ g)])) λh=>some (.go (I6.wrap (b.1+1),h))else some (.done (.go b.2)))) (a.1,a.2)) (λ(i:List UInt8)=>some (.go (I6.wrap (a.1+64),i)))else some (.done (.go a.2))) ((0:Int),([]:List UInt8))) (λ(j:List UInt8)=>some j)
def zkS {text:List UInt8} :Cn Pg 174 [strV key,iv counter,strV nonce,strV text] [] [] (zeo key counter nonce text) (λr (_:Unit)=>strV r) λ_ _=>[]:=Ch Tryz.func174 r λw S Z=>by
 refine Dt Z 6 [] r<|Fo (Bs ([]:List UInt8) ke205 kz5) λc=>Qs 1 r<|Nx<|Dt Z 6 [] r<|Cc Z [] [] zij r r2 λp q _=>Qs 1 r<|Nx<|Wc r (λd=>Dw Z 4 [] r<|Wv<|Rq) λd=>Sn<|Dw Z 5 [] r<|Jn Value [] [] (λ_ X=>[(9,X)]) (λT X=>[.own X (lc T)]) r2 r2 (?_) λs t=>?_
 ·refine Wb<|Lp Value [0,1,2,3] [] (λT X=>[(9,X),(10,iv T.1)]) (λT X=>[.own X (lc T.2)]) (.slice (some ⟨c,0,none⟩) 0 0) [0] r2 r2 λu b=>Dt Z 5 [] r<|Yo (Y.slen ks9 r)<|Qs 1 r<|Nx<|Wc r (λe=>?_) λe=>?_
  ·refine Sn<|Dt Z 7 [] r<|Yo (Y.quo (by decide) r r)<|Qs 2 r<|Cc Z [] [] zij r r2 λv x _=>Qs 1 r<|Nx<|Dw Z 6 [] r<|Wc r (λf=>Dw Z 4 [] r<|Wv<|Bu<|Rq) λf=>Sn<|Dw Z 5 [] r<|Jn Value [0,1,2,3,10] [] (λ_ X=>[(9,X)]) (λT X=>[.own X (lc T)]) r2 r2 (?_) λy g=>?_
   ·refine Wb<|Lp Value [0,1,2,3,10,11] [] (λT X=>[(9,X),(12,iv T.1)]) (λT X=>[.own X (lc T.2)]) b [0] r2 r2 λz h=>Sq<|Sq<|Jv [0,1,2,3,9,10,11,12] (λT=>[(44,.bool T)]) r1 (Rg<|Qs 2 r<|Yo (Y.slen ks9 r)<|Qs 2 r<|It (λa=>Qg 4 (zA a) r r<|Yo (Pt a r)<|Nl<|Bg () [0]) λa=>Of 4 (zI a) r r<|Yo (Pf a r)<|Nl<|Bg () [0]) λA=>Ne<|Wc r (λi=>?_) λi=>?_
    ·exact Sn<|Sq<|Wb<|Dr [0] [11] r hMix<|Aq [0,1,2] r<|Ai λj k=>Ay 3 r (Y.sidx k ks9 r r)<|Aq [4,5,6,7] r<|Ai λl m=>Ay 8 r (Y.sidx m ks9 r r)<|Ay 9 r (Y.xor8 r r)<|A1 10<|Xe r (Bs [(j ^^^ l)] ke205 kz5) λB=>Ai λC n=>A1 11<|Xe r (Ap [1] n ke205 kz5 r (Oc 0 r)) λo=>Aq [12] r<|Az<|Bn<|Ne<|Rg<|Qs 3 r<|Nl<|Lg o [0]
    exact We<|Jg h [0]
   exact Bn<|Ne<|Rg<|Qs 3 r<|Nl<|Lg g [0]
  exact We<|Jg b [0]
 exact Ne<|Sr<|Qs 1 r<|Yo (Y.toStr ke205 ki5 ks9 (Oc 0 r) r)<|Qs 1 r<|Nx<|Wr<|Rq
def zeN (n:Int):Option (List UInt8):=Bb (zy n 0 562949953421311) λc=>if !c then some ([])else bindC (loopO (λ(a:Int × List UInt8)=>if Dc (a.1>=128)then Bb (app 1 a.2 ([toU8 (I6.wrap ((128:Int)+(An a.1 128)))])) λd=>some (.go (I6.wrap (Int.tdiv a.1 128),d))else some (.done (.go (a.1,a.2)))) (n,([]:List UInt8))) (λ(b:Int × List UInt8)=>Bb (app 1 b.2 ([toU8 b.1])) λe=>some e)
def ziu {n:Int} :Cn Pg 183 [iv n] [] [] (zeN n) (λr (_:Unit)=>strV r) λ_ _=>[]:=Ch Tryz.func183 r λw S Z=>by
 refine Dt Z 8 [] r<|Cc Z [] [] zw r r2 λj k _=>Qs 1 r<|Nx<|Wc r (λa=>Dw Z 4 [] r<|Wv<|Rq) λa=>Sn<|Sr<|Fo (Bs ([]:List UInt8) ke205 kz5) λb=>Qs 1 r<|Nx<|Sq<|Jn Value [] [] (λT X=>[(0,iv T.1),(3,X)]) (λT X=>[.own X (lc T.2)]) r2 r2 (?_) λc l=>?_
 ·refine Wb<|Lp Value [] [] (λT X=>[(0,iv T.1),(3,X)]) (λT X=>[.own X (lc T.2)]) (.slice (some ⟨b,0,none⟩) 0 0) [0] r2 r2 λd e=>Dw Z 6 [] r<|Wc r (λf=>?_) λf=>?_
  ·exact Sn<|Dt Z 5 [] r<|Yo (Y.rem (by decide) r r)<|Qs 1 r<|Yo (Y.conv8 ki3 ki5 r)<|Fo (Bs [toU8 (I6.wrap ((128:Int)+(An d.1 128)))] ke205 kz5) λm=>Bi λo g=>Fo (Ap [1] g ke205 kz5 r (Oc 0 r)) λh=>Qs 1 r<|Nx<|Rg<|Qs 1 r<|Yo (Y.quo (by decide) r r)<|Qs 1 r<|Nl<|Bn<|Lg h [0]
  exact We<|Jg e [0]
 exact Ne<|Sr<|Qs 2 r<|Yo (Y.conv8 ki3 ki5 r)<|Fo (Bs [toU8 c.1] ke205 kz5) λp=>Bi λq i=>Fo (Ap [1] i ke205 kz5 r (Oc 0 r)) λs=>Yo (Y.toStr ke205 ki5 ks9 (Oc 0 r) r)<|Qs 1 r<|Nx<|Wr<|Rq
def zfK (s:List UInt8):Option (Int × Int):=bindC (loopO (λ(a:Int)=>Bb (if Dc (a<=7)then some (Dc (a<=(s.length:Int)))else some false) (λ(d:Bool)=>if d=true then bindC (loopO (λ(b:Int × Int)=>if Dc (b.2>=0)then Bb (sidx s b.2) λe=>some (.go (I6.wrap (I6.wrap (b.1*128)+(An (I6.wrap (e.toNat:Int)) 128)),I6.wrap (b.2 - 1)))else some (.done (.go b.1))) ((0:Int),I6.wrap (a - 1))) (λ(c:Int)=>Bb (ssub s 0 a) λf=>Bb (zeN c) λg=>if Dc (g=f)then some (.done (.done (c,a)))else some (.go (I6.wrap (a+1))))else some (.done (.go ())))) (1:Int)) (λ(h:Unit)=>some ((0:Int),(0:Int)))
def zsv:Cn Pg 187 [strV s] [] [] (zfK s) (λr (_:Unit)=>.tuple #[iv r.1,iv r.2]) λ_ _=>[]:=Ch Tryz.func187 r λw S Z=>by
 refine Dw Z 10 [] r<|Ju [] (λ_=>[]) r1 (?_) λh=>?_
 ·refine Wb<|Lu [0] (λT=>[(4,iv T)]) r1 λi=>Sq<|Sq<|Jv [0,4] (λT=>[(14,.bool T)]) r1 (Rg<|Qs 3 r<|It (λa=>Qg 2 (zA a) r r<|Yg (gdA (zA a)) (Y.slen ks9 r)<|Vv (Kg Z (Gc a<|Gz)) 2 [0,0] r<|Nl<|Bv) λa=>Of 4 (zI a) r r<|Yo (Pf a r)<|Nl<|Bv) λj=>Ne<|Wc r (λb=>?_) λb=>?_
  ·refine Sn<|Dw Z 13 [] r<|Ju [0,4] (λT=>[(5,iv T)]) r1 (?_) λk=>?_
   ·exact Wb<|Lu [0,4] (λT=>[(5,iv T.1),(6,iv T.2)]) r1 λl=>Dw Z 6 [] r<|Wc r (λc=>Sn<|Dt Z 7 [] r<|Bi λm d=>Yo (Y.sidx d ks9 r r)<|Yo (Y.conv ki5 ki3 r)<|Yo (Y.rem (by decide) r r)<|Qs 2 r<|Nl<|Bn<|Ne<|Rg<|Qs 3 r<|Nl<|Lq) λc=>We<|Jq
   exact Ne<|Sq<|Dr [] [] r hMix<|Aq [0,2,3] r<|Ai λn e=>Ay 4 r (Y.ssub_to e ks9 r r)<|Ai λo f=>A1 1<|Xe r (Cl [] ziu f r r1) λ_=>Aq [5] r<|Az<|Ne<|Wc r (λg=>Dw Z 7 [] r<|Wr<|Bu<|Rq) λg=>Sk<|Bn<|Ne<|Rg<|Qs 3 r<|Nl<|Lq
  exact We<|Jq
 exact Ne<|Dw Z 5 [] r<|Wr<|Rq
def zbN (s:List UInt8) (at_ n:Int):Option (List Int × Int):=bindC (loopO (λ(a:Int × Int × List Int)=>if Dc (a.2.1<n)then Bb (if Dc (a.1<0)then some true else some (Dc (a.1>(s.length:Int)))) (λ(d:Bool)=>if d=true then some (.done (.done (a.2.2,(-1:Int))))else Bb (ssub s a.1 (s.length:Int)) λe=>Bb (zfK e) λb=>if Dc (b.2=0)then some (.done (.done (a.2.2,(-1:Int))))else Bb (app 8 a.2.2 ([b.1])) λf=>some (.go (I6.wrap (a.1+b.2),I6.wrap (a.2.1+1),f)))else some (.done (.go (a.1,a.2.2)))) (at_,(0:Int),([]:List Int))) (λ(c:Int × List Int)=>some (c.2,c.1))
def zjF {n:Int} :Cn Pg 121 [strV s,iv at_,iv n] [] [] (zbN s at_ n) (λr (X:Value)=>.tuple #[X,iv r.2]) λr X=>[.own X (lc r.1)]:=Ch Tryz.func121 r λw S Z=>by
 refine Dt Z 7 [] r<|Fo (Bs ([]:List Int) ke95 kz3) λc=>Qs 1 r<|Nx<|Dw Z 5 [] r<|Jn Value [] [] (λT X=>[(1,iv T.1),(8,X)]) (λT X=>[.own X (lc T.2)]) r2 r2 (?_) λl d=>?_
 ·refine Wb<|Lp Value [0,2] [] (λT X=>[(1,iv T.1),(8,X),(9,iv T.2.1)]) (λT X=>[.own X (lc T.2.2)]) (.slice (some ⟨c,0,none⟩) 0 0) [0] r2 r2 λm b=>Dw Z 7 [] r<|Wc r (λe=>?_) λe=>?_
  ·refine Sn<|Dw Z 4 [] r<|Jv [0,1,2,8,9] (λT=>[(25,.bool T)]) r1 (Rg<|Qs 3 r<|It (λa=>Of 4 (zh a) r r<|Yo (Pt a r)<|Nl<|Bg () [0]) λa=>Qg 2 (zf a) r r<|Yg (gdA (zf a)) (Y.slen ks9 r)<|Vv (Kg Z (Gc a<|Gz)) 2 [0,0] r<|Nl<|Bg () [0]) λo=>Ne<|Wc r (λf=>Dw Z 6 [] r<|Wv<|Bu<|Re b [0]) λf=>Sn<|Sr<|Qs 2 r<|Bi λp g=>Yo (Y.ssub_from g ks9 r r)<|Cc Z [] [] zsv r r2 λh q _=>Qs 5 r<|Nx<|Dw Z 6 [] r<|Wc r (λi=>Dw Z 6 [] r<|Wv<|Bu<|Re b [0]) λi=>?_
   exact Sn<|Sr<|Qs 2 r<|Fo (Bs [h.1] ke95 kz3) λt=>Bi λu j=>Fo (Ap [1] j ke95 kz3 r (Oc 0 r)) λk=>Qs 1 r<|Nx<|Rg<|Qs 4 r<|Nl<|Bn<|Ne<|Rg<|Qs 3 r<|Nl<|Lg k [0]
  exact We<|Jg b [0]
 exact Ne<|Dw Z 7 [] r<|Wr<|Re d [0]
def zdW (s:List UInt8) (at_:Int):Option (List UInt8 × Int):=Bb (zbN s at_ (1:Int)) λa=>Bb (if Dc (a.2<0)then some true else Bb (idx a.1 0) λc=>some (Dc (c>I6.wrap ((s.length:Int) - a.2)))) (λ(d:Bool)=>if d=true then some ([],(-1:Int))else Bb (idx a.1 0) λb=>Bb (ssub s a.2 (I6.wrap (a.2+b))) λe=>some (e,I6.wrap (a.2+b)))
def znl:Cn Pg 237 [strV s,iv at_] [] [] (zdW s at_) (λr (_:Unit)=>.tuple #[strV r.1,iv r.2]) λ_ _=>[]:=Ch Tryz.func237 r λw S Z=>by
 refine Dt Z 9 [] r<|Cc Z [] [] zjF r r2 λf g h=>Qs 5 r<|Nx<|Sq<|Sq<|Jv [0,6,7] (λT=>[(25,.bool T)]) r1 (Rg<|Qs 3 r<|It (λa=>Of 8 (zh a) r r<|Yo (Pt a r)<|Nl<|Bg () [0]) λa=>Qg 1 (zf a) r r<|Bi λi c=>Vv (Kk Z (Xc c<|Xz) (Gc a<|Gz)) 3 [0,0,0,0,200,0,0,0] r<|Yg (gdA (zf a)) (Y.slen ks9 r)<|Qg 3 (zf a) r r<|Yo (Pf a r)<|Nl<|Bg () [0]) λj=>Ne<|Wc r (λd=>Dw Z 5 [] r<|Wv<|Rq) λd=>Sn<|Sq<|Dz 1 [] [] r hMix<|Aq [0,1,2,3] r<|Ai λk b=>Ak (Kx Z (Xc b<|Xz)) [4,5,6] [] [0,0,200,0,0] r<|Ai λl e=>?_
 exact Ay 7 r (Y.ssub_both e ks9 r r r)<|Ak (Kx Z (Xc b<|Xz)) [8,9,10,11,12,13,14] [] [0,0,200,0,0] r<|Az<|Ne<|Wr<|Rq
def zdk (l:List Op):Option Bool:=Bb (zy (l.length:Int) (1:Int) (6:Int)) λb=>if !b then some false else bindC (loopO (λ(a:Int)=>if Dc (a<(l.length:Int))then Bb (idx l a) λc=>Bb (zfM c) λd=>if !d then some (.done (.done false))else some (.go (I6.wrap (a+1)))else some (.done (.go ()))) (0:Int)) (λ(e:Unit)=>some true)
def zgf:Cn Pg 176 [U0] [] [(U0,lc l)] (zdk l) (λr (_:Unit)=>.bool r) λ_ _=>[]:=Ch Tryz.func176 r λw S Z=>by
 refine Dt Z 9 [100] r<|Cc Z [] [] zw r r2 λe f _=>Qs 1 r<|Nx<|Wc r (λa=>Dw Z 4 [] r<|Wv<|Rq) λa=>Sn<|Dw Z 5 [] r<|Ju [] (λ_=>[]) r1 (?_) λg=>?_
 ·exact Wb<|Lu [0] (λT=>[(3,iv T)]) r1 λh=>Dw Z 8 [100] r<|Wc r (λb=>Sn<|Dt Z 6 [] r<|Bi λi c=>Vv (Kx Z (Xc c<|Xz)) 2 [100,0,300,0,0] r<|Cc Z [] [] zlJ r r2 λj k _=>Qs 1 r<|Nx<|Wc r (λd=>Dw Z 4 [] r<|Wr<|Bu<|Rq) λd=>Sk<|Bn<|Ne<|Rg<|Qs 3 r<|Nl<|Lq) λb=>We<|Jq
 exact Ne<|Dw Z 4 [] r<|Wr<|Rq
def zeu (s:List UInt8):Option (List UInt8):=Bb (zeN (s.length:Int)) λa=>Bb (cat a s) λb=>some b
def ziT:Cn Pg 284 [strV s] [] [] (zeu s) (λr (_:Unit)=>strV r) λ_ _=>[]:=Ch Tryz.func284 r λw S Z=>Dt Z 7 [] r<|Yo (Y.slen ks9 r)<|Cc Z [] [] ziu r r2 λb c _=>Qs 1 r<|Bi λd a=>Yo (Y.cat a r r)<|Qs 1 r<|Nx<|Wr<|Rq
def zes (l:List Op):Option (List UInt8):=Bb (zdk l) λc=>if !c then some ([])else Bb (zeN (l.length:Int)) λd=>bindC (loopO (λ(a:List UInt8 × Int)=>if Dc (a.2<(l.length:Int))then Bb (idx l a.2) λb=>bindC (if b.M=true then Bb (cat a.1 ([1])) λe=>Bb (zeu b.g) λf=>Bb (cat e f) λh=>some (.go h)else Bb (cat a.1 ([0])) λi=>Bb (zeu b.g) λj=>Bb (cat i j) λk=>Bb (zeu b.F) λm=>Bb (cat k m) λn=>some (.go n)) (λ(o:List UInt8)=>some (.go (o,I6.wrap (a.2+1))))else some (.done (.go a.1))) (d,(0:Int))) (λ(p:List UInt8)=>some p)
def zkW:Cn Pg 238 [U0] [] [(U0,lc l)] (zes l) (λr (_:Unit)=>strV r) λ_ _=>[]:=Ch Tryz.func238 r λw S Z=>by
 refine Dt Z 8 [] r<|Cc Z [] [100] zgf r r2 λm n _=>Qs 1 r<|Nx<|Wc r (λb=>Dw Z 4 [] r<|Wv<|Rq) λb=>Sn<|Dt Z 4 [100] r<|Cc Z [] [] ziu r r2 λo p _=>Qs 1 r<|Nx<|Dw Z 5 [] r<|Ju [] (λT=>[(3,strV T)]) r1 (?_) λq=>?_
 ·refine Wb<|Lu [0] (λT=>[(3,strV T.1),(4,iv T.2)]) r1 λs=>Dw Z 8 [100] r<|Wc r (λc=>?_) λc=>?_
  ·refine Sn<|Dt Z 6 [] r<|Bi λt a=>Vv (Kx Z (Xc a<|Xz)) 3 [100,0,101,0,0,300,0,1] r<|Nx<|Ju [0,4] (λT=>[(3,strV T)]) r1 (?_) λu=>?_
   ·refine Wc r (λd=>Rg<|Qs 1 r<|Bi λv e=>Yo (Y.cat e r r)<|Vv (Kx Z (Xc a<|Xz)) 5 [100,0,101,0,0,300,0,0] r<|Cc Z [] [] ziT r r2 λx y _=>Bi λz f=>Yo (Y.cat f r r)<|Qs 1 r<|Nl<|Jq) λd=>Dr [] [] r hMix<|Aq [0] r<|Ai λA g=>Ay 1 r (Y.cat g r r)<|Ak (Kx Z (Xc a<|Xz)) [2,3,4,5,6,9,10,11,12,13] [] [100,0,101,0,0,300,0,0,100,0,101,0,0,300,0,2] r<|Ai λB h=>A1 7<|Xe r (Cl [] ziT h r r1) λ_=>Ai λC i=>Ay 8 r (Y.cat i r r)<|Ai λD j=>A1 14<|Xe r (Cl [] ziT j r r1) λ_=>?_
    exact Ai λE k=>Ay 15 r (Y.cat k r r)<|Aq [16] r<|Az<|Jq
   exact Bn<|Ne<|Rg<|Qs 3 r<|Nl<|Lq
  exact We<|Jq
 exact Ne<|Dw Z 5 [] r<|Wr<|Rq
def zcB (s:List UInt8):Option (List Op × Bool):=Bb (zbN s 0 1) λb=>Bb (if Dc (b.2<0)then some true else Bb (idx b.1 0) λh=>some (Dc (h>6))) (λ(i:Bool)=>if i=true then some (([]:List Op),false)else bindC (loopO (λ(a:Int × Int × List Op)=>Bb (idx b.1 0) λj=>if Dc (a.2.1<j)then if Dc (a.1>=(s.length:Int))then some (.done (.done (([]:List Op),false)))else Bb (sidx s a.1) λf=>Bb (zdW s (I6.wrap (a.1+1))) λc=>bindC (if !(Dc ((f.toNat:Int)=1))then Bb (zdW s c.2) λg=>some (.go (g.2,g.1))else some (.go (c.2,[]))) (λ(d:Int × List UInt8)=>if Dc (d.1<0)then some (.done (.done (([]:List Op),false)))else Bb (app 40 a.2.2 ([(⟨c.1,Dc ((f.toNat:Int)=1),d.2⟩:Op)])) λk=>some (.go (d.1,I6.wrap (a.2.1+1),k)))else some (.done (.go a.2.2))) (b.2,(0:Int),([]:List Op))) (λ(e:List Op)=>Bb (if Dc ((e.length:Int)=0)then some true else Bb (zes e) λl=>some (!(Dc (l=s)))) (λ(m:Bool)=>if m=true then some (([]:List Op),false)else some (e,true))))
def zqa:Cn Pg 173 [strV s] [] [] (zcB s) (λr (X:Value)=>.tuple #[X,.bool r.2]) λr X=>[.own X (lc r.1)]:=Ch Tryz.func173 r λw S Z=>by
 refine Dt Z 7 [] r<|Fo (Bs ([]:List Op) ke53 kz132) λc=>Qs 1 r<|Nx<|Sr<|Qs 1 r<|Cc Z [] [] zjF r r2 λA B C=>Qs 5 r<|Nx<|Sq<|Sq<|Jv [0,4,5,6] (λT=>[(25,.bool T)]) r1 (Rg<|Qs 3 r<|It (λb=>Of 4 (zh b) r r<|Yo (Pt b r)<|Nl<|Bg () [0,0]) λb=>Qg 1 (zf b) r r<|Bi λD d=>Vv (Kk Z (Xc d<|Xz) (Gc b<|Gz)) 4 [0,0,0,0,200,0,0,0,0] r<|Nl<|Bg () [0,0]) λE=>Ne<|Wc r (λe=>Dw Z 6 [] r<|Wv<|Re (.slice (some ⟨c,0,none⟩) 0 0) [1]) λe=>Sn<|Dw Z 5 [] r<|Jn Value [0] [] (λ_ X=>[(4,X)]) (λT X=>[.own X (lc T)]) r2 r2 (?_) λF f=>?_
 ·refine Wb<|Lp Value [0,5] [0] (λT X=>[(4,X),(6,iv T.1),(7,iv T.2.1)]) (λT X=>[.own X (lc T.2.2)]) (.slice (some ⟨c,0,none⟩) 0 0) [0,0] r2 r2 λG g=>Dt Z 5 [] r<|Bi λH h=>Vv (Kx Z (Xc h<|Xz)) 3 [0,0,200,0,0] r<|Nx<|Wc r (λi=>?_) λi=>?_
  ·refine Sn<|Dt Z 7 [] r<|Yo (Y.slen ks9 r)<|Qs 1 r<|Nx<|Wc r (λj=>Sr<|Fo (Bs ([]:List Op) ke53 kz132) λk=>Qs 2 r<|Nx<|Wv<|Bu<|Re (.slice (some ⟨k,0,none⟩) 0 0) [0]) λj=>Sn<|Sr<|Qs 2 r<|Bi λl m=>Yo (Y.sidx m ks9 r r)<|Qs 2 r<|Nx<|Sr<|Qs 3 r<|Cc Z [] [] znl r r2 λn I _=>Qs 5 r<|Nx<|Dw Z 10 [] r<|Ju [0,4,5,7,8,9] (λT=>[(10,iv T.1),(11,strV T.2)]) r1 (Wc r (λo=>Rg<|Qs 2 r<|Cc Z [] [] znl r r2 λJ K _=>Qs 5 r<|Nl<|Jg () [0,0]) λo=>Sk<|Jg () [0,0]) λp=>?_
   exact Ne<|Dw Z 6 [] r<|Wc r (λq=>Sr<|Fo (Bs ([]:List Op) ke53 kz132) λt=>Qs 2 r<|Nx<|Wv<|Bu<|Re (.slice (some ⟨t,0,none⟩) 0 0) [0]) λq=>Sn<|Sr<|Qs 4 r<|Yo (Bd kp132 kz132 (Pc r (Cp r)<|Pc r (Cp r)<|Pc r (Cp r)<|Pz) r)<|Fo (Bs [(⟨n.1,Dc ((l.toNat:Int)=1),p.2⟩:Op)] ke53 kz132) λL=>Bi λM u=>Fo (Ap [2] u ke53 kz132 r (Oc 0 r)) λv=>Qs 1 r<|Nx<|Rg<|Qs 2 r<|Nl<|Bn<|Ne<|Rg<|Qs 3 r<|Nl<|Lg v [2,0]
  exact We<|Jg g [1]
 exact Ne<|Sq<|Sq<|Jv [4] (λT=>[(77,.bool T)]) r1 (Dt Z 5 [0] r<|It (λa=>Of 4 (zh a) r r<|Yo (Pt a r)<|Nl<|Bg () [0]) λa=>Qg 1 (zf a) r r<|Bi λN x=>Fg (gdA (zf a)) (Cl [] zkW x r r1 ⟨(Oc 0 r),⟨⟩⟩) λ_=>Vv (Kg Z (Gc a<|Gz)) 3 [0,0,0] r<|Nl<|Bg () [0]) λO=>Ne<|Wc r (λy=>Sr<|Fo (Bs ([]:List Op) ke53 kz132) λz=>Qs 2 r<|Nx<|Wv<|Re (.slice (some ⟨z,0,none⟩) 0 0) [0]) λy=>Sn<|Dw Z 6 [] r<|Wr<|Re f [0]
def zcA (key:List UInt8) (boot seq:Int) (s:List UInt8):Option (List Op × Bool):=Bb (if !(Dc ((key.length:Int)=32))then some true else Bb (zjt boot seq) λb=>some (!b)) (λ(c:Bool)=>if c=true then some (([]:List Op),false)else Bb (zeq 3 (I6.wrap (I6.wrap (boot*1000000)+seq))) λd=>Bb (zeo key 0 d s) λe=>Bb (zcB e) λa=>some (a.1,a.2))
def zkU {boot seq:Int} :Cn Pg 113 [strV key,iv boot,iv seq,strV s] [] [] (zcA key boot seq s) (λr (X:Value)=>.tuple #[X,.bool r.2]) λr X=>[.own X (lc r.1)]:=Ch Tryz.func113 r λw S Z=>by
 refine Dw Z 7 [] r<|Jv [0,1,2,3] (λT=>[(20,.bool T)]) r1 (Rg<|Qs 1 r<|Yo (Y.slen ks9 r)<|Qs 2 r<|It (λa=>Of 4 (zh a) r r<|Yo (Pt a r)<|Nl<|Bv) λa=>Qg 2 (zf a) r r<|Bi λf b=>Fg (gdA (zf a)) (Cl [] zpk b r r1) λ_=>Vv (Kg Z (Gc a<|Gz)) 2 [0,0] r<|Nl<|Bv) λg=>Ne<|Wc r (λc=>Sr<|Fo (Bs ([]:List Op) ke53 kz132) λd=>Qs 2 r<|Nx<|Wv<|Re (.slice (some ⟨d,0,none⟩) 0 0) [0]) λc=>Sn<|Sr<|Qs 5 r<|Cc Z [] [] ziQ r r2 λh i _=>Qs 1 r<|Cc Z [] [] zkS r r2 λj k _=>?_
 exact Cc Z [] [] zqa r r2 λl m e=>Qs 5 r<|Nx<|Dw Z 7 [] r<|Wr<|Re e [0]
def zbY (e:Aa):Option Aa:=Bb (app 48 ([]:List Ac) e.s) λc=>Bb (app 8 ([]:List Int) e.t) λd=>bindC (loopO (λ(a:Int × List (List Ac))=>if Dc (a.1<(e.q.length:Int))then Bb (idx e.q a.1) λf=>Bb (app 48 ([]:List Ac) f) λg=>Bb (app 24 a.2 ([g])) λh=>some (.go (I6.wrap (a.1+1),h))else some (.done (.go a.2))) ((0:Int),([]:List (List Ac)))) (λ(i:List (List Ac))=>some (⟨c,i,e.b,d⟩:Aa))
def zb8 {e:Aa} :Cn Pg 69 [.agg #[U0,U1,iv e.b,U2]] [] [(U0,lc e.s),(U1,lc e.q),(U2,lc e.t)] (zbY e) (λr (X:Value × Value × Value)=>.agg #[X.1,X.2.1,iv r.b,X.2.2]) λr X=>[.own X.1 (lc r.s),.own X.2.1 (lc r.q),.own X.2.2 (lc r.t)]:=Ch Tryz.func69 r λw S Z=>by
 refine Sr<|Fo (Bx r (Ca ⟨Ob Z.1,Ob Z.2.1,Op',Ob Z.2.2.1,⟨⟩⟩)) λv=>Fo (Al kz112 r) λx=>Nx<|Sq<|Wi λy g=>Wi λz h=>Dz 2 [] [] r hMix<|Aj Z [1,2,4,5,7,8] [] [0,1,0,1,0,1] r<|Ts (Sc 6 r (λ_ _ I=>Bs ([]:List Int) ke95 kz3) (Sc 11 r (λ_ _ I=>Al kz112 r) Sz)) r<|Me 0 r (λ_ _ I=>Bs ([]:List Ac) ke109 kz166) λA=>Me 3 r (λ_ _ I=>Ap [0] g ke109 kz166 r (Bc (I Z.1))) λa=>Mc λB=>Me 9 r (λ_ _ I=>Ap [0] h ke95 kz3 r (Bc (I Z.2.2.1))) λc=>Mi 10 r (λ_ _ I=>Bd kp112 kz112 (Pc r (Co 1)<|Pc r (Cp r)<|Pc r (Co 0)<|Pz) r)<|Mc λf=>?_
 refine Mo<|A1 12<|Xu r (Sb 0 kk112 r (Ca ⟨Ow' 2,Op',Op',Ow' 1,⟨⟩⟩) r)<|Az<|Ne<|Dw Z 5 [] r<|Jn Value [2,3] [3,2,1] (λ_ _=>[]) (λT X=>[.box f 112 [a,X,iv e.b,c],.own X (lc T)]) r2 r2 (?_) λC i=>?_
 ·refine Wb<|Nw 1<|Lp Value [1,2,3] [5,4,3,2] (λT _=>[(4,iv T.1)]) (λT X=>[.box f 112 [a,X,iv e.b,c],.own X (lc T.2)]) (.slice none 0 0) [5,4,3,2,1,0] r2 r2 λD j=>Dw Z 9 [0,0,101] r<|Wc r (λk=>?_) λk=>?_
  ·refine Sn<|Sq<|Wb<|Dz 6 [5,4] [10,12] r hMix<|Aj Z [0,1,3,4,5] [0,7168] [0,1,0,0] r<|Ai λE d=>Ay 6 r (Ix ke110 (Bc Z.2.1) d r)<|?_
   have l:=Bj 0 Z.2.1 d r;exact Ay 7 r (Lz kk109 Z.2.1 d r)<|A1 2<|Xe r (Bs ([]:List Ac) ke109 kz166) λF=>Ai λm n=>A1 8<|Xe r (Ap [0] n ke109 kz166 r (Bc l)) λo=>A1 9<|Xe r (Bk [.raw o] ke110 kz109 r (Qc (Co 0)<|Qz)) λG=>Ka (Ha [0,0] ([m]:List (List Ac)) r (Cf Cz))<|Ai λH p=>A1 10<|Xe r (Aw [1,0] p ke110 kz109 r) λu=>Aj Z [11] [] [0] r<|A1 12<|Xu r (Sb 1 kk110 r (Co 0) r)<|Az<|Bn<|Ne<|Rg<|Qs 3 r<|Nl<|Lg u [2,2,2,2,1,0]
  exact We<|Jg j [1,1,1,1,1]
 exact Ne<|Dt Z 3 [3] r<|Fu (Sb 0 kk112 r (Ca ⟨Ow' 1,Ow' 4,Op',Ow' 2,⟨⟩⟩) r)<|Nx<|Wr<|Rj (a,i,c) [1,3,1] [0] r
def zdR (l:List Ac) (e:Ac):Option (List Ac):=bindC (loopO (λ(a:Bool × Int × List Ac)=>if Dc (a.2.1<(l.length:Int))then Bb (if !a.1 then Bb (idx l a.2.1) λd=>Bb (zdm e d) λf=>some f else some false) (λ(g:Bool)=>bindC (if g=true then Bb (app 48 a.2.2 ([e])) λh=>some (.go (true,h))else some (.go (a.1,a.2.2))) (λ(c:Bool × List Ac)=>Bb (idx l a.2.1) λi=>Bb (app 48 c.2 ([i])) λj=>some (.go (c.1,I6.wrap (a.2.1+1),j))))else some (.done (.go (a.1,a.2.2)))) (false,(0:Int),([]:List Ac))) (λ(b:Bool × List Ac)=>bindC (if !b.1 then Bb (app 48 b.2 ([e])) λk=>some (.go k)else some (.go b.2)) (λ(m:List Ac)=>some m))
def zvi {l:List Ac} {e:Ac} :Cn Pg 177 [U0,.agg #[strV e.g,iv e.b,.bool e.M,strV e.F]] [] [(U0,lc l)] (zdR l e) (λ_ (X:Value)=>X) λr X=>[.own X (lc r)]:=Ch Tryz.func177 r λw S Z=>by
 refine Sr<|Fo (Bx r (Cp r)) λy=>Qs 1 r<|Nx<|Sr<|Fo (Bs ([]:List Ac) ke109 kz166) λd=>Qs 1 r<|Nx<|Dw Z 9 [] r<|Jn Value [3] [1] (λT X=>[(5,X),(6,.bool T.1)]) (λT X=>[.own X (lc T.2)]) r2 r2 (?_) λz f=>?_
 ·refine Wb<|Lp Value [0,3] [1] (λT X=>[(5,X),(6,.bool T.1),(7,iv T.2.1)]) (λT X=>[.own X (lc T.2.2)]) (.slice (some ⟨d,0,none⟩) 0 0) [1,0] r2 r2 λA c=>Dw Z 8 [100] r<|Wc r (λh=>?_) λh=>?_
  ·refine Sn<|Dw Z 4 [] r<|Jv [0,3,5,6,7] (λT=>[(24,.bool T)]) r1 (?_) λB=>?_
   ·exact Dz 2 [] [] r hMix<|Aq [0,1,2] r<|Ia (λa=>Ak (Kg Z (Gc a<|Gz)) [3,4,5] [] [0,0,0,0] r<|Ai λC i=>Ak (Kk Z (Xc i<|Xz) (Gc a<|Gz)) [6,7] [] [0,100,0,0,300,0,0] r<|Ai λD j=>A1 8<|Xeg (gdA (zA a)) r (Cl [] zgo j r r1) λ_=>Ay 9 r (Pt a r)<|Az<|Bg () [0,0]) λa=>Ax [3,4,5,6,7,8] (zI a) r r<|Ay 9 r (Pf a r)<|Az<|Bg () [0,0]
   exact Ne<|Jn Value [0,3,7] [0] (λT X=>[(5,X),(6,.bool T.1)]) (λT X=>[.own X (lc T.2)]) r2 r2 (Wc r (λk=>Dt Z 4 [0] r<|Fo (Bs [e] ke109 kz166) λE=>Bi λG m=>Fo (Ap [2] m ke109 kz166 r (Oc 0 r)) λn=>Qs 1 r<|Nx<|Rg<|Qs 1 r<|Nl<|Jg n [2,0]) λk=>Sk<|Jg c [0,0]) λH I=>Ne<|Rg<|Qs 3 r<|Bi λo p=>Vv (Kx Z (Xc p<|Xz)) 2 [100,0,300,0,0] r<|Fo (Bs [o] ke109 kz166) λJ=>Bi λK q=>Fo (Ap [2] q ke109 kz166 r (Oc 0 r)) λs=>Qs 1 r<|Nl<|Bn<|Ne<|Rg<|Qs 3 r<|Nl<|Lg s [2,0]
  exact We<|Jg c [0,0]
 exact Ne<|Dw Z 6 [] r<|Jn Value [] [] (λ_ X=>[(5,X)]) (λT X=>[.own X (lc T)]) r2 r2 (Wc r (λt=>Dt Z 3 [0] r<|Fo (Bs [e] ke109 kz166) λL=>Bi λN u=>Fo (Ap [2] u ke109 kz166 r (Oc 0 r)) λv=>Qs 1 r<|Nl<|Jg v [0]) λt=>Sk<|Jg f [1]) λO x=>Ne<|Dw Z 5 [] r<|Wr<|Re x [0]
def zcc (e:Aa) (l:List Op):Option (Aa × Bool):=Bb (zb1 e) λi=>if !i then some ((⟨[],[],0,[]⟩:Aa),false)else Bb (zbY e) λa=>Bb (zdk l) λj=>if !j then some (a,false)else bindC (loopO (λ(c:Int × List Ac)=>if Dc (c.1<(l.length:Int))then bindC (loopO (λ(d:Bool × Int)=>if Dc (d.2<(l.length:Int))then Bb (if d.1=true then Bb (idx l d.2) λk=>Bb (idx l c.1) λm=>some (!(Dc (k.g=m.g)))else some false) (λ(n:Bool)=>some (.go (n,I6.wrap (d.2+1))))else some (.done (.go d.1))) (true,I6.wrap (c.1+1))) (λ(o:Bool)=>bindC (if o=true then Bb (idx l c.1) λf=>Bb (zdR c.2 (⟨f.g,I6.wrap (a.b+1),f.M,f.F⟩:Ac)) λp=>some (.go p)else some (.go c.2)) (λ(u:List Ac)=>some (.go (I6.wrap (c.1+1),u))))else some (.done (.go c.2))) ((0:Int),a.s)) (λ(h:List Ac)=>Bb (zb1 (⟨h,a.q,I6.wrap (a.b+1),a.t⟩:Aa)) λv=>if !v then some (a,false)else some ((⟨h,a.q,I6.wrap (a.b+1),a.t⟩:Aa),true))
def zg0 {e:Aa} :Cn Pg 114 [.agg #[U0,U1,iv e.b,U2],U3] [] [(U0,lc e.s),(U1,lc e.q),(U2,lc e.t),(U3,lc l)] (zcc e l) (λr (X:Value × Value × Value)=>.tuple #[.agg #[X.1,X.2.1,iv r.1.b,X.2.2],.bool r.2]) λr X=>[.own X.1 (lc r.1.s),.own X.2.1 (lc r.1.q),.own X.2.2 (lc r.1.t)]:=Ch Tryz.func114 r λw S Z=>by
 refine Sr<|Fo (Bx r (Ca ⟨Ob Z.1,Ob Z.2.1,Op',Ob Z.2.2.1,⟨⟩⟩)) λC=>Fo (Al kz112 r) λD=>Qs 1 r<|Nx<|Dt Z 4 [1] r<|Cc Z [] [100,101,102] zci r r2 λE F _=>Qs 1 r<|Nx<|Wc r (λi=>Sr<|Yo (Bd kp112 kz112 (Pz) r)<|Fu (Sb 0 kk112 r (Cp r) r)<|Qs 1 r<|Nx<|Wv<|Ni 4<|Ni 1<|Ni 1<|Rj ((.slice none 0 0),(.slice none 0 0),(.slice none 0 0)) [2,1,0] [3] r) λi=>Sn<|Dt Z 3 [1] r<|Cc Z [] [100,101,102] zb8 r r2 λd j a=>Fo (Al kz112 r) λf=>Fu (Sb 0 kk112 r (Ca ⟨Ow' 1,Ow' 2,Op',Ow' 3,⟨⟩⟩) r)<|Nx<|Dt Z 4 [] r<|Cc Z [] [103] zgf r r2 λG H _=>?_
 refine Qs 1 r<|Nx<|Wc r (λk=>Dt Z 3 [0] r<|Fu (Sb 4 kk112 r (Ca ⟨Ow' 1,Ow' 2,Op',Ow' 3,⟨⟩⟩) r)<|Qs 1 r<|Nx<|Wv<|Rj (a.1,a.2.1,a.2.2) [1,1,1] [4] r) λk=>Sn<|Dt Z 6 [0,0,0] r<|Fu (Sb 0 kk3 r (Cp r) r)<|Nx<|Dw Z 5 [] r<|Jn Value [2,4,6] [5,4,2,2] (λ_ _=>[]) (λT X=>[.box f 112 [X,a.2.1,iv (I6.wrap (d.b+1)),a.2.2],.own X (lc T)]) r2 r2 (?_) λI m=>?_
 ·refine Wb<|Lp Value [1,2,4,6] [5,4,2,2] (λT _=>[(7,iv T.1)]) (λT X=>[.box f 112 [X,a.2.1,iv (I6.wrap (d.b+1)),a.2.2],.own X (lc T.2)]) a.1 [5,4,2,2,0,0] r2 r2 λJ h=>Dw Z 8 [103] r<|Wc r (λn=>?_) λn=>?_
  ·refine Sn<|Dw Z 13 [] r<|Ju [1,2,4,6,7] (λT=>[(8,.bool T)]) r1 (?_) λK=>?_
   ·refine Wb<|Lu [1,2,4,6,7] (λT=>[(8,.bool T.1),(9,iv T.2)]) r1 λL=>Dw Z 8 [103] r<|Wc r (λo=>?_) λo=>?_
    ·refine Sn<|Sq<|Wb<|Jv [1,2,4,6,7,9] (λT=>[(8,.bool T)]) r1 (?_) λM=>?_
     ·refine Dz 6 [] [] r hMix<|Aq [0,1] r<|Ia (λc=>?_) λc=>?_
      ·exact Ak (Kg Z (Gc c<|Gz)) [2,3] [] [0,0] r<|Ai λN p=>Ak (Kk Z (Xc p<|Xz) (Gc c<|Gz)) [4,5,6,7,8] [] [0,103,0,0,104,0,0,0,303,0,0,0,0] r<|Ai λO u=>Ak (Kk Z (Xc u<|Xz) (Gc c<|Gz)) [9,10,11,12,13,14] [] [0,103,0,0,104,0,0,0,303,0,0,0,0] r<|Az<|Bg () [0,0,0,0,0,0]
      exact Ax [2,3,4,5,6,7,8,9,10,11,12] (zI c) r r<|Ay 13 r (Pf c r)<|Aq [14] r<|Az<|Bg () [0,0,0,0,0,0]
     exact Bn<|Ne<|Rg<|Qs 3 r<|Nl<|Lg () [0,0,0,0,0,0]
    exact We<|Jg () [0,0,0,0,0,0]
   refine Ne<|Dw Z 4 [] r<|Jn Value [1,2,4,6,7] [0,0,0,0] (λ_ _=>[]) (λT X=>[.box f 112 [X,a.2.1,iv (I6.wrap (d.b+1)),a.2.2],.own X (lc T)]) r2 r2 (?_) λP v=>?_
   ·refine Wc r (λx=>?_) λx=>?_
    ·exact Dz 6 [4] [22] r hMix<|Aj Z [0,1,2,3] [0,7340032] [0,0] r<|Ai λQ y=>Ak (Kx Z (Xc y<|Xz)) [4,5,6,7,8,9,10,11,12,13,14,15,16,17,18] [0,0,0,0,7864320] [103,0,104,0,0,303,0,0,0,0,103,0,104,0,0,303,0,1,103,0,104,0,0,303,0,2] r<|Ay 19 r (Bd kp166 kz166 (Pc r (Cp r)<|Pc r (Cp r)<|Pc r (Cp r)<|Pc r (Cp r)<|Pz) r)<|Ai λR z=>A1 20<|Xe r (Cl [] zvi z r r1 ⟨(Oc 5 r),⟨⟩⟩) λA=>Aj Z [21] [] [0] r<|A1 22<|Xu r (Sb 1 kk109 r (Co 0) r)<|Az<|Jg A [2,2,2,2,1,0]
    exact Sk<|Jg h [0,0,0,0,0,0]
   exact Bn<|Ne<|Rg<|Qs 3 r<|Nl<|Lg v [0,0,0,0,0,0]
  exact We<|Jg h [0,0,0,0,0,0]
 exact Ne<|Dt Z 4 [4] r<|Cc Z [] [5,2,3] zci r r2 λU V _=>Qs 1 r<|Nx<|Wc r (λB=>Dt Z 3 [0] r<|Fo (Cl [] zb8 j r r1 ⟨(Bc Z.1),(Bc Z.2.1),(Bc Z.2.2.1),⟨⟩⟩) λg=>Fu (Sb 4 kk112 r (Ca ⟨Ow' 0,Ow' 1,Op',Ow' 2,⟨⟩⟩) r)<|Qs 1 r<|Nx<|Wv<|Rj (g.1,g.2.1,g.2.2) [0,0,0] [4] r) λB=>Sn<|Dt Z 3 [4] r<|Fu (Sb 1 kk112 r (Ca ⟨Ow' 5,Ow' 2,Op',Ow' 3,⟨⟩⟩) r)<|Qs 1 r<|Nx<|Wr<|Rj (m,a.2.1,a.2.2) [5,2,2] [1] r
def ziy (s:Af) (t:Ae):Option Bool:=Bb (zdO s.j t.p) λo=>bindC (loopO (λ(a:Int × Int × Int × List Ac × List (List Ac) × List Int)=>if Dc (a.2.2.1<(s.B.length:Int))then bindC (Bb (idx s.B a.2.2.1) λe=>if !(Dc (e.r=t.p))then some (.go (a.1,a.2.1,a.2.2.2.1,a.2.2.2.2.1,a.2.2.2.2.2))else Bb (zcA o e.A e.b e.L) λm=>Bb (zcc (⟨a.2.2.2.1,a.2.2.2.2.1,a.2.1,a.2.2.2.2.2⟩:Aa) m.1) λf=>Bb (if !m.2 then some (true,a.2.2.2.2.1)else if !f.2 then some (true,a.2.2.2.2.1)else some (!(Dc (e.b=I6.wrap (t.E+(I6.wrap (a.1+1))))),a.2.2.2.2.1)) (λ(u:Bool × List (List Ac))=>if u.1=true then some (.done (.done (.done false)))else some (.go (I6.wrap (a.1+1),f.1.b,f.1.s,f.1.q,f.1.t)))) (λ(h:Int × Int × List Ac × List (List Ac) × List Int)=>some (.go (h.1,h.2.1,I6.wrap (a.2.2.1+1),h.2.2.1,h.2.2.2.1,h.2.2.2.2)))else some (.done (.go (a.1,a.2.1,a.2.2.2.1,a.2.2.2.2.1,a.2.2.2.2.2)))) ((0:Int),t.E,(0:Int),([]:List Ac),t.c.q,([]:List Int))) (λ(d:Int × Int × List Ac × List (List Ac) × List Int)=>Bb (if !(Dc ((d.2.2.1.length:Int)=(t.c.s.length:Int)))then some (true,d.2.2.2.1)else some (Dc ((t.c.q.length:Int)>1),d.2.2.2.1)) (λ(n:Bool × List (List Ac))=>if n.1=true then some false else bindC (loopO (λ(i:Int × List (List Ac))=>if Dc (i.1<(d.2.2.1.length:Int))then Bb (idx d.2.2.1 i.1) λk=>Bb (idx t.c.s i.1) λl=>if !(Dc (k.g=l.g)&&(Dc (k.b=l.b)&&(Dc (k.M=l.M)&&(Dc (k.F=l.F)&&true))))then some (.done (.done false))else some (.go (I6.wrap (i.1+1),i.2))else some (.done (.go ()))) ((0:Int),n.2)) (λ(w:Unit)=>Bb (if Dc (d.1<=6)then some (Dc (I6.wrap (t.E+d.1)=t.c.b))else some false) (λ(v:Bool)=>some v))))
def zsB {s:Af} {t:Ae} {U5 U6 o:Value} :Cn Pg 62 [.agg #[strV s.C,strV s.j.K,U0,iv s.j.H,iv s.u.G,U1,U2,U3,U4,iv s.A],.agg #[iv t.p,iv t.I,iv t.E,U5,U6,iv t.c.b,o]] [] [(U0,lc s.j.x),(U1,lc s.u.m),(U2,lc s.a),(U3,lc s.B),(U4,lc s.J),(U5,lc t.c.s),(U6,lc t.c.q),(o,lc t.c.t)] (ziy s t) (λr (_:Unit)=>.bool r) λ_ _=>[]:=Ch Tryz.func62 r λw S Z=>by
 refine Sr<|Fo (Bx r (Ca ⟨Op',Op',Ob Z.1,Op',Op',Ob Z.2.1,Ob Z.2.2.1,Ob Z.2.2.2.1,Ob Z.2.2.2.2.1,Op',⟨⟩⟩)) λF=>Fo (Bx r (Ca ⟨Op',Op',Op',Ob Z.2.2.2.2.2.1,Ob Z.2.2.2.2.2.2.1,Op',Ob Z.2.2.2.2.2.2.2.1,⟨⟩⟩)) λL=>Qs 1 r<|Nx<|Dt Z 10 [0,1,0,0] r<|Cc Z [] [100] zim r r2 λR3 H4 _=>Qs 1 r<|Nx<|Dt Z 7 [0,0,0,0,0] r<|Yo (Bd kp112 kz112 (Pc r (Cb Z.2.2.2.2.2.2.1)<|Pc r (Cp r)<|Pz) r)<|Fo (Al kz112 r) λf=>Fu (Sb 0 kk112 r (Ca ⟨Op',Ob Z.2.2.2.2.2.2.1,Op',Op',⟨⟩⟩) r)<|Nx<|Dw Z 5 [] r<|Jn (Value × Value × Value) [3,7] [1] (λT _=>[(5,iv T.1)]) (λT X=>[.box f 112 [X.1,X.2.1,iv T.2.1,X.2.2],.own X.1 (lc T.2.2.1),.alt X.2.1 (lc T.2.2.2.1) U6 (lc t.c.q),.own X.2.2 (lc T.2.2.2.2)]) r2 r2 (?_) λD g=>?_
 ·refine Wb<|Nw 4<|TW.conv (St.alt_new U6 (lc t.c.q))<|Nw 1<|Lp (Value × Value × Value) [2,3,6,7] [5,4] (λT _=>[(5,iv T.1),(8,iv T.2.2.1)]) (λT X=>[.box f 112 [X.1,X.2.1,iv T.2.1,X.2.2],.own X.1 (lc T.2.2.2.1),.alt X.2.1 (lc T.2.2.2.2.1) U6 (lc t.c.q),.own X.2.2 (lc T.2.2.2.2.2)]) (.slice none 0 0,U6,.slice none 0 0) [5,4,3,2,1,0] r2 r2 λv d=>Dw Z 9 [0,0,103] r<|Wc r (λM=>?_) λM=>?_
  ·refine Sn<|Sq<|Jn (Value × Value × Value) [2,3,6,7,8] [0,0] (λT _=>[(5,iv T.1)]) (λT X=>[.box f 112 [X.1,X.2.1,iv T.2.1,X.2.2],.own X.1 (lc T.2.2.1),.alt X.2.1 (lc T.2.2.2.1) U6 (lc t.c.q),.own X.2.2 (lc T.2.2.2.2)]) r2 r2 (?_) λag y=>?_
   ·refine Dt Z 6 [0,0] r<|Bi λah N=>Vv (Kx Z (Xc N<|Xz)) 2 [103,0,303,0,0] r<|Fo (Al kz121 r) λai=>Fu (Sb 0 kk121 r (Cp r) r)<|Nx<|Dw Z 9 [0,0,0,2] r<|Wc r (λO=>Wx<|Tx<|Be<|Jg (d.1,d.2.1,d.2.2) [1,1,1,1,1,1]) λO=>Sn<|Dt Z 15 [0,0,0,0,0,0] r<|Cc Z [] [] zkU r r2 λaj ak al=>Qs 5 r<|Nx<|Dt Z 4 [4] r<|Bi λh P=>Fo (Cl [] zg0 P r r1 ⟨(Oc 5 r),(Can.altb 6 rfl Z.2.2.2.2.2.2.1),(Oc 7 r),(Oc 0 r),⟨⟩⟩) λe=>Qs 3 r<|Fo (Al kz112 r) λQ=>Fu (Sb 0 kk112 r (Ca ⟨Ow' 1,Ow' 2,Op',Ow' 3,⟨⟩⟩) r)<|Qs 1 r<|Nx<|Sq<|Sq<|Jb Value [2,3,5,6,7,8,12] [6,6,0,6,7,0,0,0] (λT _=>[(76,.bool T.1)]) (λT X=>[.box f 112 [d.1,X,iv v.2.1,d.2.2],.alt X (lc T.2) U6 (lc t.c.q)]) r2 r2 (?_) λR U=>?_
    ·exact Rg<|Qs 3 r<|It (λz=>Vv (Kg Z (Gc z<|Gz)) 4 [0,0,0] r<|Of 7 r r r<|Yo (Pt r r)<|Nl<|Bg d.2.1 [6,6,0,6,7,0,0,0,2,2]) λz=>Vv (Kg Z (Gc z<|Gz)) 4 [0,0,0] r<|It (λk=>Of 7 (zh k) r r<|Yo (Pt k r)<|Nl<|Bg d.2.1 [6,6,0,6,7,0,0,0,2,2]) λk=>Vv (Kg Z (Gc k<|Gz)) 8 [0,0,0,5,0,0,0,7,0,0,0,0] r<|Nl<|Bg d.2.1 [6,6,0,6,7,0,0,0,2,2]
    exact Ne<|Wc r (λV=>Dw Z 4 [] r<|Wv<|Br<|Jd<|Tr<|Er<|Br<|Jd<|Tr<|Rq) λV=>Sn<|Dt Z 2 [2] r<|Fu (Sb 8 kk112 r (Ca ⟨Ow' 5,Ow' 6,Op',Ow' 7,⟨⟩⟩) r)<|Nl<|Bn<|TE.conv (is':=[.box F 46 [strV s.C,strV s.j.K,U0,iv s.j.H,iv s.u.G,U1,U2,U3,U4,iv s.A],.box L 114 [iv t.p,iv t.I,iv t.E,U5,U6,iv t.c.b,o],.box Q 112 [e.1,e.2.1,iv h.1.b,e.2.2],.own d.1 (lc v.2.2.2.1),.own d.2.2 (lc v.2.2.2.2.2),.own e.1 (lc h.1.s),.alt e.2.1 (lc h.1.q) U6 (lc t.c.q),.own e.2.2 (lc h.1.t),.box f 112 [e.1,e.2.1,iv h.1.b,e.2.2],.alt U (lc R.2) U6 (lc t.c.q)]) (St.alt_own (i:=6) U6 (lc t.c.q) r r)<|Jg (e.1,e.2.1,e.2.2) [0,0,6,3,3,3]
   exact Ne<|Rg<|Qs 3 r<|Nl<|Lg (y.1,y.2.1,y.2.2) [0,0,0,0,0,0]
  exact We<|Jg (d.1,d.2.1,d.2.2) [1,1,1,1,1]
 refine Ne<|Sq<|Sq<|Jb Value [3,5,7] [0,1,2] (λT _=>[(92,.bool T.1)]) (λT X=>[.box f 112 [g.1,X,iv D.2.1,g.2.2],.alt X (lc T.2) U6 (lc t.c.q)]) r2 r2 (Dt Z 10 [0,1,2,0,0,0,105] r<|It (λl=>Of 5 (zh l) r r<|Yo (Pt l r)<|Nl<|Bg g.2.1 [0,1,2,0,0]) λl=>Vv (Kg Z (Gc l<|Gz)) 6 [0,0,0,0,0,0,0,106,0,0] r<|Nl<|Bg g.2.1 [0,1,2,0,0]) λam W=>Ne<|Wc r (λaa=>Dw Z 4 [] r<|Wv<|Rq) λaa=>Sn<|Dw Z 5 [] r<|Jn Unit [3,5] [0] (λ_ _=>[]) (λ_ _=>[]) r2 r2 (?_) λan ao=>?_
 ·refine Wb<|Lp Value [3,5,7] [0,0,0] (λT _=>[(14,iv T.1)]) (λT X=>[.box f 112 [g.1,X,iv D.2.1,g.2.2],.alt X (lc T.2) U6 (lc t.c.q)]) W [0,0,0,0,0] r2 r2 λap ab=>Dw Z 9 [0,3,1] r<|Wc r (λac=>?_) λac=>?_
  ·exact Sn<|Sq<|Wb<|Sq<|Dz 5 [] [] r hMix<|Aj Z [0,1,2] [] [0,3] r<|Ai λaq ad=>Ak (Kx Z (Xc ad<|Xz)) [3,4,5,6,7,8] [] [1,0,201,0,0,0,0,0] r<|Ai λar ae=>Ak (Kx Z (Xc ae<|Xz)) [9,10] [] [105,0,305,0,0] r<|Ay 11 r (Y.neqA keq166 (EqA.str (EqA.int (EqA.bool (EqA.str EqA.nil)))) r r)<|Az<|Ne<|Wc r (λaf=>Dw Z 4 [] r<|Wr<|Bu<|Rq) λaf=>Sk<|Bn<|Ne<|Rg<|Qs 3 r<|Nl<|Lg ab [0,0,0,0,0]
  exact We<|Jg () [0]
 exact Ne<|Sq<|Jb Unit [] [] (λT _=>[(4,.bool T)]) (λ_ _=>[]) r2 r2 (Rg<|Qs 3 r<|It (λn=>Vv (Kg Z (Gc n<|Gz)) 10 [0,0,0,0,0,0,0,0,0,0,0,0,0,0] r<|Nl<|Bv) λn=>Of 8 (zI n) r r<|Yo (Pf n r)<|Qs 1 r<|Nl<|Bv) λau av=>Ne<|Wr<|Rq
def zcY (l:List Ae) (id:Int):Option Int:=bindC (loopO (λ(a:Int)=>if Dc (a<(l.length:Int))then Bb (idx l a) λb=>if Dc (b.p=id)then some (.done (.done a))else some (.go (I6.wrap (a+1)))else some (.done (.go ()))) (0:Int)) (λ(c:Unit)=>some (-1:Int))
def zix {l:List Ae} {id:Int} :Cn Pg 63 [U0,iv id] [] [(U0,lc l)] (zcY l id) (λr (_:Unit)=>iv r) λ_ _=>[]:=Ch Tryz.func63 r λw S Z=>by
 refine Dw Z 9 [] r<|Ju [] (λ_=>[]) r1 (?_) λd=>?_
 ·exact Wb<|Lu [0,1] (λT=>[(5,iv T)]) r1 λe=>Dw Z 8 [100] r<|Wc r (λa=>Sn<|Dt Z 6 [] r<|Bi λf b=>Vv (Kx Z (Xc b<|Xz)) 5 [100,0,101,0,0,300,0,0] r<|Nx<|Wc r (λc=>Dw Z 5 [] r<|Wr<|Bu<|Rq) λc=>Sk<|Bn<|Ne<|Rg<|Qs 3 r<|Nl<|Lq) λa=>We<|Jq
 exact Ne<|Dw Z 4 [] r<|Wr<|Rq
def zit (s:Af):Option Bool:=Bb (if !(Dc ((s.C.length:Int)=32))then some true else Bb (zbo s.j) λf=>if !f then some true else Bb (zbM s.u) λg=>if !g then some true else if !(Dc ((s.a.length:Int)=(s.j.x.length:Int)))then some true else if !(Dc ((s.a.length:Int)=(s.u.m.length:Int)))then some true else Bb (zy s.A 0 1000) λh=>if !h then some true else some (Dc ((s.J.length:Int)>120))) (λ(i:Bool)=>if i=true then some false else bindC (loopO (λ(d:Int)=>if Dc (d<(s.a.length:Int))then Bb (idx s.a d) λb=>Bb (Bb (idx s.j.x d) λk=>if !(Dc (b.p=k.r))then some true else Bb (idx s.u.m d) λl=>if !(Dc (b.p=l.r))then some true else Bb (zy b.I 0 1000000) λn=>if !n then some true else Bb (zy b.E 0 1000000) λo=>if !o then some true else Bb (zb1 b.c) λq=>if !q then some true else if Dc ((b.c.t.length:Int)>2)then some true else Bb (ziy s b) λv=>some (!v)) (λ(w:Bool)=>if w=true then some (.done (.done false))else some (.go (I6.wrap (d+1))))else some (.done (.go ()))) (0:Int)) (λ(D:Unit)=>bindC (loopO (λ(e:Int)=>if Dc (e<(s.B.length:Int))then Bb (idx s.B e) λy=>Bb (zcY s.a y.r) λz=>if Dc (z<0)then some (.done (.done false))else some (.go (I6.wrap (e+1)))else some (.done (.go ()))) (0:Int)) (λ(F:Unit)=>some true)))
def zsz {s:Af} :Cn Pg 23 [.agg #[strV s.C,strV s.j.K,U0,iv s.j.H,iv s.u.G,U1,U2,U3,U4,iv s.A]] [] [(U0,lc s.j.x),(U1,lc s.u.m),(U2,lc s.a),(U3,lc s.B),(U4,lc s.J)] (zit s) (λr (_:Unit)=>.bool r) λ_ _=>[]:=Ch Tryz.func23 r λw S Z=>by
 refine Sr<|Fo (Bx r (Ca ⟨Op',Op',Ob Z.1,Op',Op',Ob Z.2.1,Ob Z.2.2.1,Ob Z.2.2.2.1,Ob Z.2.2.2.2.1,Op',⟨⟩⟩)) λX=>Qs 1 r<|Nx<|Sq<|Sq<|Jv [1] (λT=>[(53,.bool T)]) r1 (?_) λT2=>?_
 ·refine Dt Z 3 [0,0] r<|Yo (Y.slen ks9 r)<|Qs 2 r<|It (λc=>Vv (Kg Z (Gc c<|Gz)) 6 [0,0,0,0,0] r<|Of 4 r r r<|Yo (Pt r r)<|Qs 1 r<|Of 8 r r r<|Yo (Pt r r)<|Qs 1 r<|Of 8 r r r<|Yo (Pt r r)<|Qs 1 r<|Of 4 r r r<|Yo (Pt r r)<|Qs 1 r<|Of 4 r r r<|Yo (Pt r r)<|Nl<|Bg () [0]) λc=>Vv (Kg Z (Gc c<|Gz)) 2 [0,0,0,0] r<|Bi λR5 y=>Fg (gdA (zf c)) (Cl [] zfI y r r1 ⟨(Bc Z.1),⟨⟩⟩) λ_=>Vv (Kg Z (Gc c<|Gz)) 3 [0,0] r<|It (λd=>Vv (Kg Z (Gc d<|Gz)) 6 [0,0,0,0,0] r<|Of 8 r r r<|Yo (Pt r r)<|Qs 1 r<|Of 8 r r r<|Yo (Pt r r)<|Qs 1 r<|Of 4 r r r<|Yo (Pt r r)<|Qs 1 r<|Of 4 r r r<|Yo (Pt r r)<|Nl<|Bg () [0]) λd=>?_
  refine Vv (Kg Z (Gc d<|Gz)) 2 [0,0,0,0] r<|Bi λR9 z=>Fg (gdA (zf d)) (Cl [] zfq z r r1 ⟨(Bc Z.2.1),⟨⟩⟩) λ_=>Vv (Kg Z (Gc d<|Gz)) 3 [0,0] r<|It (λl=>Of 8 (zh l) r r<|Yo (Pt l r)<|Qs 1 r<|Of 8 r r r<|Yo (Pt r r)<|Qs 1 r<|Of 4 r r r<|Yo (Pt r r)<|Qs 1 r<|Of 4 r r r<|Yo (Pt r r)<|Nl<|Bg () [0]) λl=>Vv (Kg Z (Gc l<|Gz)) 10 [0,0,0,0,0,102,0,0,0,0,0,0,0,100,0,0] r<|It (λn=>Of 8 (zh n) r r<|Yo (Pt n r)<|Qs 1 r<|Of 4 r r r<|Yo (Pt r r)<|Qs 1 r<|Of 4 r r r<|Yo (Pt r r)<|Nl<|Bg () [0]) λn=>?_
  exact Vv (Kg Z (Gc n<|Gz)) 10 [0,0,0,0,0,102,0,0,0,0,0,0,0,101,0,0] r<|It (λe=>Vv (Kg Z (Gc e<|Gz)) 6 [0,0,0,0,0] r<|Of 4 r r r<|Yo (Pt r r)<|Nl<|Bg () [0]) λe=>Vv (Kg Z (Gc e<|Gz)) 2 [0,0,0,0] r<|Bi λaa D=>Fg (gdA (zf e)) (Cl [] zw D r r1) λ_=>Vv (Kg Z (Gc e<|Gz)) 3 [0,0] r<|It (λo=>Of 4 (zh o) r r<|Yo (Pt o r)<|Nl<|Bg () [0]) λo=>Vv (Kg Z (Gc o<|Gz)) 5 [0,0,0,0,0,104,0,0] r<|Nl<|Bg () [0]
 refine Ne<|Wc r (λE=>Dw Z 4 [] r<|Wv<|Rq) λE=>Sn<|Dw Z 5 [] r<|Ju [1] (λ_=>[]) r1 (?_) λab=>?_
 ·refine Wb<|Lu [1] (λT=>[(3,iv T)]) r1 λac=>Dw Z 9 [0,0,102] r<|Wc r (λF=>?_) λF=>?_
  ·refine Sn<|Dt Z 7 [0,0] r<|Bi λad f=>Yo (Ix ke43 (Bc Z.2.2.1) f r)<|?_
   have q:=Bj 3 Z.2.2.1 f r;have t:=Bj 4 Z.2.2.1 f r;have p:=Bj 6 Z.2.2.1 f r;refine Yo (Lz kk114 Z.2.2.1 f r)<|Fo (Al kz114 r) λae=>Fu (Sb 0 kk114 r (Ca ⟨Op',Op',Op',Ob q,Ob t,Op',Ob p,⟨⟩⟩) r)<|Nx<|Sq<|Jb Unit [1,3] [1] (λT _=>[(118,.bool T)]) (λ_ _=>[]) r2 r2 (?_) λaf ag=>?_
   ·refine Dz 2 [] [] r hMix<|Aj Z [0,1,2,3,4,5] [] [0,0,0,0,1] r<|Ai λah I=>Ak (Kx Z (Xc I<|Xz)) [6,7,8,9,10] [] [100,0,101,0,0,300,0,0] r<|Ia (λg=>?_) λg=>?_
    ·exact Ax [11,12,13,14,15,16,17,18,19,20] (zh g) r r<|Ay 21 r (Pt g r)<|Aq [22] r<|Ax [23,24,25,26] r r r<|Ay 27 r (Pt r r)<|Aq [28] r<|Ax [29,30,31,32] r r r<|Ay 33 r (Pt r r)<|Aq [34] r<|Ax [35,36,37,38] r r r<|Ay 39 r (Pt r r)<|Aq [40] r<|Ax [41,42,43,44,45] r r r<|Ay 46 r (Pt r r)<|Aq [47] r<|Ax [48,49,50,51] r r r<|Ay 52 r (Pt r r)<|Az<|Bg () [1]
    refine Ak (Kg Z (Gc g<|Gz)) [11,12,13,14,15,16] [] [0,0,0,0,0,0,0,0,0,1,0] r<|Ai λai L=>Ak (Kk Z (Xc L<|Xz) (Gc g<|Gz)) [17,18,19,20,21,22] [] [0,101,0,0,102,0,0,0,301,0,0,0,0] r<|Ia (λh=>?_) λh=>?_
    ·exact Ak (Kg Z (Gc h<|Gz)) [23,24,25,26,27,28] [] [0,0,0,0,0] r<|Ax [29,30,31,32] r r r<|Ay 33 r (Pt r r)<|Aq [34] r<|Ax [35,36,37,38] r r r<|Ay 39 r (Pt r r)<|Aq [40] r<|Ax [41,42,43,44,45] r r r<|Ay 46 r (Pt r r)<|Aq [47] r<|Ax [48,49,50,51] r r r<|Ay 52 r (Pt r r)<|Az<|Bg () [1]
    refine Ak (Kg Z (Gc h<|Gz)) [23,24] [] [0,0,0,0] r<|Ai λaj M=>A1 25<|Xeg (gdA (zf h)) r (Cl [] zw M r r1) λ_=>Ak (Kg Z (Gc h<|Gz)) [26,27,28] [] [0,0] r<|Ia (λi=>Ak (Kg Z (Gc i<|Gz)) [29,30,31,32,33,34] [] [0,0,0,0,0] r<|Ax [35,36,37,38] r r r<|Ay 39 r (Pt r r)<|Aq [40] r<|Ax [41,42,43,44,45] r r r<|Ay 46 r (Pt r r)<|Aq [47] r<|Ax [48,49,50,51] r r r<|Ay 52 r (Pt r r)<|Az<|Bg () [1]) λi=>Ak (Kg Z (Gc i<|Gz)) [29,30] [] [0,0,0,0] r<|Ai λak N=>A1 31<|Xeg (gdA (zf i)) r (Cl [] zw N r r1) λ_=>?_
    refine Ak (Kg Z (Gc i<|Gz)) [32,33,34] [] [0,0] r<|Ia (λk=>Ak (Kg Z (Gc k<|Gz)) [35,36,37,38,39,40] [] [0,0,0,0,0] r<|Ax [41,42,43,44,45] r r r<|Ay 46 r (Pt r r)<|Aq [47] r<|Ax [48,49,50,51] r r r<|Ay 52 r (Pt r r)<|Az<|Bg () [1]) λk=>Ak (Kg Z (Gc k<|Gz)) [35,36] [] [0,0,0,0] r<|Ai λal O=>A1 37<|Xeg (gdA (zf k)) r (Cl [] zci O r r1 ⟨(Bc q),(Bc t),(Bc p),⟨⟩⟩) λ_=>Ak (Kg Z (Gc k<|Gz)) [38,39,40] [] [0,0] r<|Ia (λv=>Ak (Kg Z (Gc v<|Gz)) [41,42,43,44,45,46,47] [] [0,0,0,0,0,0] r<|Ax [48,49,50,51] r r r<|Ay 52 r (Pt r r)<|Az<|Bg () [1]) λv=>?_
    exact Ak (Kg (Bq p<|Z) (Gc v<|Gz)) [41,42,43,44,45,46,47] [] [0,0,0,0,0,0,0,100,0,0] r<|Ia (λb=>Ax [48,49,50,51] (zh b) r r<|Ay 52 r (Pt b r)<|Az<|Bg () [1]) λb=>Ak (Kg Z (Gc b<|Gz)) [48,49] [] [0,1,0,0] r<|Ai λam P=>A1 50<|Xeg (gdA (zf b)) r (Cl [] zsB P r r1 ⟨(Bc Z.1),(Bc Z.2.1),(Bc Z.2.2.1),(Bc Z.2.2.2.1),(Bc Z.2.2.2.2.1),(Bc q),(Bc t),(Bc p),⟨⟩⟩) λ_=>Ak (Kg Z (Gc b<|Gz)) [51,52] [] [0,0] r<|Az<|Bg () [1]
   exact Ne<|Wc r (λQ=>Dw Z 4 [] r<|Wr<|Bu<|Rq) λQ=>Sk<|Bn<|Ne<|Rg<|Qs 3 r<|Nl<|Lg () [0]
  exact We<|Jg () [0]
 refine Ne<|Dw Z 5 [] r<|Jn Unit [] [] (λ_ _=>[]) (λ_ _=>[]) r2 r2 (?_) λan ao=>?_
 ·refine Wb<|Lu [1] (λT=>[(5,iv T)]) r1 λap=>Dw Z 9 [0,0,103] r<|Wc r (λR=>?_) λR=>?_
  ·exact Sn<|Sq<|Wb<|Sq<|Dz 1 [] [] r hMix<|Aj Z [0,1,2,3,4] [] [0,0,0,0] r<|Ai λaq U=>Ak (Kx Z (Xc U<|Xz)) [5,6,7] [] [103,0,104,0,0,303,0,0] r<|Ai λar V=>A1 8<|Xe r (Cl [] zix V r r1 ⟨(Bc Z.2.2.1),⟨⟩⟩) λ_=>Aq [9] r<|Az<|Ne<|Wc r (λW=>Dw Z 4 [] r<|Wr<|Bu<|Rq) λW=>Sk<|Bn<|Ne<|Rg<|Qs 3 r<|Nl<|Lg () [0]
  exact We<|Jq
 exact Ne<|Dw Z 4 [] r<|Wr<|Rq
def zG (code:Int):Option At:=some (⟨code,0,[],[]⟩:At)
def zB {code:Int} :Cn Pg 24 [iv code] [] [] (zG code) (λr (X:Value)=>.agg #[iv r.S,iv r.N,strV r.L,X]) λr X=>[.own X (lc r.m)]:=Ch Tryz.func24 r λw S Z=>Sr<|Fo (Al kz49 r) λa=>Nx<|Sr<|Qs 1 r<|Yo (Bd kp49 kz49 (Pc r (Cp r)<|Pz) r)<|Fu (Sb 0 kk49 r (Cp r) r)<|Nx<|Wr<|Ni 2<|Rj (.slice none 0 0) [0] [1] r
def ze7 (d:Ar):Option Ar:=Bb (app 24 ([]:List Ao) d.x) λa=>some (⟨d.K,a,d.H⟩:Ar)
def zg7 {d:Ar} :Cn Pg 67 [.agg #[strV d.K,U0,iv d.H]] [] [(U0,lc d.x)] (ze7 d) (λr (X:Value)=>.agg #[strV r.K,X,iv r.H]) λr X=>[.own X (lc r.x)]:=Ch Tryz.func67 r λw S Z=>Sr<|Fo (Bx r (Ca ⟨Op',Ob Z.1,Op',⟨⟩⟩)) λc=>Fo (Al kz39 r) λe=>Nx<|Sr<|Fo (Bs ([]:List Ao) ke37 kz116) λf=>Dv Z 2 [0,2] r<|Bi λg a=>Fo (Ap [0] a ke37 kz116 r (Bc Z.1)) λb=>Dv Z 1 [0] r<|Fu (Sb 2 kk37 r (Co 0) r)<|Nx<|Dt Z 3 [2] r<|Fu (Sb 1 kk39 r (Ca ⟨Op',Ow' 0,Op',⟨⟩⟩) r)<|Nx<|Wr<|Rj b [0] [1] r
def zet (s:Ad):Option Ad:=Bb (app 16 ([]:List Am) s.m) λa=>some (⟨s.G,a⟩:Ad)
def ziR {s:Ad} :Cn Pg 68 [.agg #[iv s.G,U0]] [] [(U0,lc s.m)] (zet s) (λr (X:Value)=>.agg #[iv r.G,X]) λr X=>[.own X (lc r.m)]:=Ch Tryz.func68 r λw S Z=>Sr<|Fo (Bx r (Ca ⟨Op',Ob Z.1,⟨⟩⟩)) λc=>Fo (Al kz42 r) λd=>Nx<|Sq<|Dz 2 [] [7] r hMix<|Aj Z [0,1,3,4] [] [0,0,0,0] r<|A1 2<|Xe r (Bs ([]:List Am) ke40 kz118) λe=>Ai λf a=>A1 5<|Xe r (Ap [0] a ke40 kz118 r (Bc Z.1)) λb=>A1 6<|Xy r (Bd kp42 kz42 (Pc r (Cp r)<|Pc r (Co 0)<|Pz) r)<|A1 7<|Xu r (Sb 1 kk42 r (Ca ⟨Op',Ow' 0,⟨⟩⟩) r)<|Az<|Ne<|Wr<|Rj b [0] [1] r
def zdl (s:Af):Option Af:=Bb (ze7 s.j) λe=>Bb (zet s.u) λf=>Bb (app 48 ([]:List Ah) s.B) λg=>Bb (app 48 ([]:List Ah) s.J) λh=>bindC (loopO (λ(b:Int × List Ae)=>if Dc (b.1<(s.a.length:Int))then Bb (idx s.a b.1) λd=>Bb (zbY d.c) λi=>Bb (app 104 b.2 ([(⟨d.p,d.I,d.E,i⟩:Ae)])) λk=>some (.go (I6.wrap (b.1+1),k))else some (.done (.go b.2))) ((0:Int),([]:List Ae))) (λ(l:List Ae)=>some (⟨s.C,e,f,l,g,h,s.A⟩:Af))
def ziS {s:Af} :Cn Pg 26 [.agg #[strV s.C,strV s.j.K,U0,iv s.j.H,iv s.u.G,U1,U2,U3,U4,iv s.A]] [] [(U0,lc s.j.x),(U1,lc s.u.m),(U2,lc s.a),(U3,lc s.B),(U4,lc s.J)] (zdl s) (λr (X:Value × Value × Value × Value × Value)=>.agg #[strV r.C,strV r.j.K,X.1,iv r.j.H,iv r.u.G,X.2.1,X.2.2.1,X.2.2.2.1,X.2.2.2.2,iv r.A]) λr X=>[.own X.1 (lc r.j.x),.own X.2.1 (lc r.u.m),.own X.2.2.1 (lc r.a),.own X.2.2.2.1 (lc r.B),.own X.2.2.2.2 (lc r.J)]:=Ch Tryz.func26 r λw S Z=>by
 refine Sr<|Fo (Bx r (Ca ⟨Op',Op',Ob Z.1,Op',Op',Ob Z.2.1,Ob Z.2.2.1,Ob Z.2.2.2.1,Ob Z.2.2.2.2.1,Op',⟨⟩⟩)) λQ=>Fo (Al kz46 r) λR=>Nx<|Sq<|Wi λe y=>Wi λl z=>Wi λU D=>Wi λV F=>Dz 2 [] [] r hMix<|Aj Z [0,1,2,3,5,6,9,10,13,14,16,17] [] [0,1,0,1,0,1,0,1,0,1,0,1] r<|Ts (Sc 8 r (λ_ _ z_=>Bs ([]:List Ah) ke44 kz121) (Sc 12 r (λ_ _ z_=>Bs ([]:List Ah) ke44 kz121) (Sc 19 r (λ_ _ z_=>Al kz46 r) Sz))) r<|Me 4 r (λ_ _ z_=>Cl [] zg7 y r r1 ⟨(Bc (z_ Z.1)),⟨⟩⟩) λf=>?_
 refine Me 7 r (λ_ _ z_=>Cl [] ziR z r r1 ⟨(Bc (z_ Z.2.1)),⟨⟩⟩) λg=>Mc λW=>Me 11 r (λ_ _ z_=>Ap [0] D ke44 kz121 r (Bc (z_ Z.2.2.2.1))) λh=>Mc λY=>Me 15 r (λ_ _ z_=>Ap [0] F ke44 kz121 r (Bc (z_ Z.2.2.2.2.1))) λi=>Mi 18 r (λ_ _ z_=>Bd kp46 kz46 (Pc r (Cp r)<|Pc r (Ca ⟨Op',Ow' 3,Op',⟨⟩⟩)<|Pc r (Ca ⟨Op',Ow' 2,⟨⟩⟩)<|Pc r (Co 1)<|Pc r (Co 0)<|Pc r (Cp r)<|Pz) r)<|Mc λn=>Mo<|A1 20<|Xu r (Sb 0 kk46 r (Ca ⟨Op',Op',Ow' 4,Op',Op',Ow' 3,Op',Ow' 2,Ow' 1,Op',⟨⟩⟩) r)<|Az<|Ne<|Dw Z 5 [] r<|Jn Value [2,3] [5,4,3,2,1] (λ_ _=>[]) (λT X=>[.box n 46 [strV s.C,strV e.K,f,iv e.H,iv l.G,g,X,h,i,iv s.A],.own X (lc T)]) r2 r2 (?_) λaa L=>?_
 ·refine Wb<|Nw 7<|Lp Value [1,2,3] [7,6,5,4,3,2] (λT _=>[(4,iv T.1)]) (λT X=>[.box n 46 [strV s.C,strV e.K,f,iv e.H,iv l.G,g,X,h,i,iv s.A],.own X (lc T.2)]) (.slice none 0 0) [7,6,5,4,3,2,1,0] r2 r2 λab M=>Dw Z 9 [0,0,102] r<|Wc r (λN=>?_) λN=>?_
  ·refine Sn<|Dt Z 7 [0,0] r<|Bi λc d=>Yo (Ix ke43 (Bc Z.2.2.1) d r)<|?_
   have o:=Bj 3 Z.2.2.1 d r;have q:=Bj 4 Z.2.2.1 d r;have t:=Bj 6 Z.2.2.1 d r;refine Yo (Lz kk114 Z.2.2.1 d r)<|Fo (Al kz114 r) λac=>Fu (Sb 0 kk114 r (Ca ⟨Op',Op',Op',Ob o,Ob q,Op',Ob t,⟨⟩⟩) r)<|Nx<|Dt Z 4 [0,0] r<|Cc (Bq o<|Bq q<|Bq t<|Z) [] [100,101,102] zb8 r r2 λv ad k=>Dv Z 1 [0] r<|Fu (Sb 3 kk112 r (Ca ⟨Ow' 0,Ow' 1,Op',Ow' 2,⟨⟩⟩) r)<|Nx<|Dt Z 4 [0,10,3] r<|Fo (Bk [ic c.p,ic c.I,ic c.E,.raw k.1,.raw k.2.1,ic v.b,.raw k.2.2] ke43 kz114 r (Qc (Ca ⟨Op',Op',Op',Ow' 0,Ow' 1,Op',Ow' 2,⟨⟩⟩)<|Qz)) λae=>Kt (Ha [0,0,0,0] ([(⟨c.p,c.I,c.E,v⟩:Ae)]:List Ae) r (Ck (Ck (Ck (Cf (Cf (Ck (Cf Cz))))))))<|Bi λaf O=>?_
   exact Fo (Aw [9,0] O ke43 kz114 r) λP=>Dv Z 1 [0] r<|Fu (Sb 8 kk43 r (Co 0) r)<|Nl<|Bn<|Ne<|Rg<|Qs 3 r<|Nl<|Lg P [2,2,2,2,2,2,2,0]
  exact We<|Jg M [1,1,1,1,1,1,1]
 exact Ne<|Dt Z 3 [5] r<|Fu (Sb 0 kk46 r (Ca ⟨Op',Op',Ow' 1,Op',Op',Ow' 2,Ow' 6,Ow' 3,Ow' 4,Op',⟨⟩⟩) r)<|Nx<|Wr<|Rj (f,g,L,h,i) [1,1,4,1,1] [0] r
def zbL (s:Ad) (tenant A:Int):Option (Ad × Bool):=Bb (zbM s) λf=>if !f then some ((⟨0,[]⟩:Ad),false)else bindC (loopO (λ(a:Bool × Int × List Am)=>if Dc (a.2.1<(s.m.length:Int))then Bb (if !a.1 then Bb (idx s.m a.2.1) λg=>some (Dc (g.r>=tenant))else some false) (λ(h:Bool)=>bindC (if h=true then Bb (app 16 a.2.2 ([(⟨tenant,A⟩:Am)])) λi=>some (.go (true,i))else some (.go (a.1,a.2.2))) (λ(b:Bool × List Am)=>Bb (idx s.m a.2.1) λd=>bindC (if !(Dc (d.r=tenant))then Bb (app 16 b.2 ([d])) λj=>some (.go j)else some (.go b.2)) (λ(k:List Am)=>some (.go (b.1,I6.wrap (a.2.1+1),k)))))else some (.done (.go (a.1,a.2.2)))) (false,(0:Int),([]:List Am))) (λ(c:Bool × List Am)=>bindC (if !c.1 then Bb (app 16 c.2 ([(⟨tenant,A⟩:Am)])) λl=>some (.go l)else some (.go c.2)) (λ(e:List Am)=>Bb (zbM (⟨s.G,e⟩:Ad)) λn=>if !n then Bb (zet s) λo=>some (o,false)else some ((⟨s.G,e⟩:Ad),true)))
def zlv {s:Ad} {quota:Int} :Cn Pg 117 [.agg #[iv s.G,U0],iv tenant,iv quota] [] [(U0,lc s.m)] (zbL s tenant quota) (λr (X:Value)=>.tuple #[.agg #[iv r.1.G,X],.bool r.2]) λr X=>[.own X (lc r.1.m)]:=Ch Tryz.func117 r λw S Z=>by
 refine Sr<|Fo (Bx r (Ca ⟨Op',Ob Z.1,⟨⟩⟩)) λB=>Fo (Al kz42 r) λC=>Qs 1 r<|Nx<|Dt Z 4 [1] r<|Cc Z [] [100] zfq r r2 λD E _=>Qs 1 r<|Nx<|Wc r (λe=>Sr<|Yo (Bd kp42 kz42 (Pz) r)<|Fu (Sb 0 kk42 r (Cp r) r)<|Qs 1 r<|Nx<|Wv<|Ni 2<|Rj (.slice none 0 0) [0] [1] r) λe=>Sn<|Dt Z 4 [0,1] r<|Yo (Bd kp42 kz42 (Pc r (Cp r)<|Pz) r)<|Fo (Al kz42 r) λa=>Fu (Sb 0 kk42 r (Cp r) r)<|Nx<|Dw Z 9 [] r<|Jn Value [1,2,3,6,8] [2,1] (λT _=>[(9,.bool T.1)]) (λT X=>[.box a 42 [iv s.G,X],.own X (lc T.2)]) r2 r2 (?_) λF f=>?_
 ·refine Wb<|Nw 2<|Lp Value [1,2,3,6,8] [3,2] (λT _=>[(9,.bool T.1),(10,iv T.2.1)]) (λT X=>[.box a 42 [iv s.G,X],.own X (lc T.2.2)]) (.slice none 0 0) [3,2,1,0] r2 r2 λH c=>Dw Z 9 [0,0,100] r<|Wc r (λg=>?_) λg=>?_
  ·refine Sn<|Dw Z 4 [] r<|Jv [1,2,3,6,8,9,10] (λT=>[(36,.bool T)]) r1 (Rg<|Qs 3 r<|It (λb=>Vv (Kg Z (Gc b<|Gz)) 3 [0,0,0,0,0] r<|Bi λI h=>Vv (Kk Z (Xc h<|Xz) (Gc b<|Gz)) 6 [0,100,0,0,101,0,0,0,300,0,0,0,0,0] r<|Nl<|Bg () [0,0,0,0]) λb=>Of 8 (zI b) r r<|Yo (Pf b r)<|Nl<|Bg () [0,0,0,0]) λJ=>Ne<|Jn Value [1,2,3,6,8,10] [0,0] (λT _=>[(9,.bool T.1)]) (λT X=>[.box a 42 [iv s.G,X],.own X (lc T.2)]) r2 r2 (?_) λK i=>?_
   ·refine Wc r (λj=>?_) λj=>?_
    ·exact Dt Z 6 [0,2] r<|Yo (Bd kp118 kz118 (Pc r (Cp r)<|Pc r (Cp r)<|Pz) r)<|Fo (Bs [(⟨tenant,quota⟩:Am)] ke40 kz118) λL=>Bi λM k=>Fo (Ap [4] k ke40 kz118 r (Oc 0 r)) λl=>Dv Z 1 [0] r<|Fu (Sb 4 kk40 r (Co 0) r)<|Nx<|Rg<|Qs 1 r<|Nl<|Jg l [2,2,2,0]
    exact Sk<|Jg c [0,0,0,0]
   refine Ne<|Dt Z 5 [0,0] r<|Bi λn d=>Vv (Kx Z (Xc d<|Xz)) 5 [100,0,101,0,0,300,0,0] r<|Nx<|Jn Value [1,2,3,6,8,9,10] [0,0] (λ_ _=>[]) (λT X=>[.box a 42 [iv s.G,X],.own X (lc T)]) r2 r2 (?_) λN o=>?_
   ·refine Wc r (λp=>?_) λp=>?_
    ·exact Dz 4 [3,2] [8,10] r hMix<|Ak (Kx Z (Xc d<|Xz)) [0,1,2,3,4,5,6] [0,1792] [0,1,0,0,100,0,300,0,0] r<|A1 7<|Xe r (Bs [n] ke40 kz118) λO=>Ai λP q=>A1 8<|Xe r (Ap [1] q ke40 kz118 r (Oc 0 r)) λt=>Aj Z [9] [] [0] r<|A1 10<|Xu r (Sb 2 kk40 r (Co 0) r)<|Az<|Jg t [3,3,2,0]
    exact Sk<|Jg i [0,0,0,0]
   exact Bn<|Ne<|Rg<|Qs 3 r<|Nl<|Lg o [0,0,0,0]
  exact We<|Jg c [0,0,0,0]
 refine Ne<|Dw Z 6 [] r<|Jn Value [3,6,8] [0,0] (λ_ _=>[]) (λT X=>[.box a 42 [iv s.G,X],.own X (lc T)]) r2 r2 (?_) λQ u=>?_
 ·refine Wc r (λv=>?_) λv=>?_
  ·exact Dt Z 5 [0,2] r<|Yo (Bd kp118 kz118 (Pc r (Cp r)<|Pc r (Cp r)<|Pz) r)<|Fo (Bs [(⟨tenant,quota⟩:Am)] ke40 kz118) λR=>Bi λU x=>Fo (Ap [4] x ke40 kz118 r (Oc 0 r)) λy=>Dv Z 1 [0] r<|Fu (Sb 4 kk40 r (Co 0) r)<|Nl<|Jg y [2,2,2,0]
  exact Sk<|Jg f [0,0,0,0]
 exact Ne<|Dt Z 4 [2] r<|Cc Z [] [3] zfq r r2 λV W _=>Qs 1 r<|Nx<|Wc r (λz=>Dt Z 3 [0] r<|Cc Z [] [100] ziR r r2 λY aa A=>Fu (Sb 2 kk42 r (Ca ⟨Op',Ow' 0,⟨⟩⟩) r)<|Qs 1 r<|Nx<|Wv<|Rj A [0] [2] r) λz=>Sn<|Dt Z 3 [2] r<|Fu (Sb 1 kk42 r (Ca ⟨Op',Ow' 3,⟨⟩⟩) r)<|Qs 1 r<|Nx<|Wr<|Rj u [3] [1] r
def zi9 (d:Ar) (tenant:Int) (key:List UInt8):Option (Ar × Bool):=Bb (zbo d) λg=>if !g then some ((⟨[],[],0⟩:Ar),false)else Bb (ze7 d) λb=>bindC (loopO (λ(a:Bool × Int × List Ao)=>if Dc (a.2.1<(d.x.length:Int))then Bb (if !a.1 then Bb (idx d.x a.2.1) λh=>some (Dc (h.r>=tenant))else some false) (λ(i:Bool)=>bindC (if i=true then Bb (app 24 a.2.2 ([(⟨tenant,key⟩:Ao)])) λj=>some (.go (true,j))else some (.go (a.1,a.2.2))) (λ(e:Bool × List Ao)=>Bb (idx d.x a.2.1) λk=>Bb (app 24 e.2 ([k])) λl=>some (.go (e.1,I6.wrap (a.2.1+1),l))))else some (.done (.go (a.1,a.2.2)))) (false,(0:Int),([]:List Ao))) (λ(c:Bool × List Ao)=>bindC (if !c.1 then Bb (app 24 c.2 ([(⟨tenant,key⟩:Ao)])) λm=>some (.go m)else some (.go c.2)) (λ(f:List Ao)=>Bb (zbo (⟨b.K,f,b.H⟩:Ar)) λn=>if !n then some (b,false)else some ((⟨b.K,f,b.H⟩:Ar),true)))
def zt3 {d:Ar} :Cn Pg 178 [.agg #[strV d.K,U0,iv d.H],iv tenant,strV key] [] [(U0,lc d.x)] (zi9 d tenant key) (λr (X:Value)=>.tuple #[.agg #[strV r.1.K,X,iv r.1.H],.bool r.2]) λr X=>[.own X (lc r.1.x)]:=Ch Tryz.func178 r λw S Z=>by
 refine Sr<|Fo (Bx r (Ca ⟨Op',Ob Z.1,Op',⟨⟩⟩)) λz=>Fo (Al kz39 r) λA=>Qs 1 r<|Nx<|Dt Z 4 [1] r<|Cc Z [] [100] zfI r r2 λB C _=>Qs 1 r<|Nx<|Wc r (λc=>Sr<|Yo (Bd kp39 kz39 (Pz) r)<|Fu (Sb 0 kk39 r (Cp r) r)<|Qs 1 r<|Nx<|Wv<|Ni 2<|Rj (.slice none 0 0) [0] [1] r) λc=>Sn<|Dt Z 3 [1] r<|Cc Z [] [100] zg7 r r2 λD e E=>Fo (Al kz39 r) λF=>Fu (Sb 0 kk39 r (Ca ⟨Op',Ow' 1,Op',⟨⟩⟩) r)<|Nx<|Sr<|Fo (Bs ([]:List Ao) ke37 kz116) λf=>Qs 1 r<|Nx<|Dw Z 9 [] r<|Jn Value [1,2,3,6,8] [4,3,1,1] (λT X=>[(9,X),(10,.bool T.1)]) (λT X=>[.own X (lc T.2)]) r2 r2 (?_) λG g=>?_
 ·refine Wb<|Lp Value [1,2,3,6,8] [4,3,1,1] (λT X=>[(9,X),(10,.bool T.1),(11,iv T.2.1)]) (λT X=>[.own X (lc T.2.2)]) (.slice (some ⟨f,0,none⟩) 0 0) [4,3,1,1,0] r2 r2 λI b=>Dw Z 9 [0,0,100] r<|Wc r (λh=>?_) λh=>?_
  ·refine Sn<|Dw Z 4 [] r<|Jv [1,2,3,6,8,9,10,11] (λT=>[(37,.bool T)]) r1 (Rg<|Qs 3 r<|It (λa=>Vv (Kg Z (Gc a<|Gz)) 3 [0,0,0,0,0] r<|Bi λJ i=>Vv (Kk Z (Xc i<|Xz) (Gc a<|Gz)) 6 [0,100,0,0,101,0,0,0,300,0,0,0,0,0] r<|Nl<|Bg () [0,0,0,0,0]) λa=>Of 8 (zI a) r r<|Yo (Pf a r)<|Nl<|Bg () [0,0,0,0,0]) λL=>Ne<|Jn Value [1,2,3,6,8,11] [0,0,0,0] (λT X=>[(9,X),(10,.bool T.1)]) (λT X=>[.own X (lc T.2)]) r2 r2 (?_) λM N=>?_
   ·exact Wc r (λj=>Sr<|Qs 3 r<|Yo (Bd kp116 kz116 (Pc r (Cp r)<|Pc r (Cp r)<|Pz) r)<|Fo (Bs [(⟨tenant,key⟩:Ao)] ke37 kz116) λO=>Bi λP k=>Fo (Ap [5] k ke37 kz116 r (Oc 0 r)) λl=>Qs 1 r<|Nx<|Rg<|Qs 1 r<|Nl<|Jg l [2,2,2,2,0]) λj=>Sk<|Jg b [0,0,0,0,0]
   exact Ne<|Dt Z 5 [0,0] r<|Bi λm n=>Vv (Kx Z (Xc n<|Xz)) 2 [100,0,300,0,0] r<|Fo (Bs [m] ke37 kz116) λQ=>Bi λR o=>Fo (Ap [5] o ke37 kz116 r (Oc 0 r)) λp=>Qs 1 r<|Nl<|Bn<|Ne<|Rg<|Qs 3 r<|Nl<|Lg p [2,2,2,2,0]
  exact We<|Jg b [0,0,0,0,0]
 refine Ne<|Dw Z 6 [] r<|Jn Value [3,6,8] [0,0,0,0] (λ_ X=>[(9,X)]) (λT X=>[.own X (lc T)]) r2 r2 (?_) λU q=>?_
 ·exact Wc r (λs=>Rg<|Qs 3 r<|Yo (Bd kp116 kz116 (Pc r (Cp r)<|Pc r (Cp r)<|Pz) r)<|Fo (Bs [(⟨tenant,key⟩:Ao)] ke37 kz116) λV=>Bi λW t=>Fo (Ap [5] t ke37 kz116 r (Oc 0 r)) λu=>Qs 1 r<|Nl<|Jg u [2,2,2,2,0]) λs=>Sk<|Jg g [0,0,0,0,0]
 exact Ne<|Dt Z 4 [0] r<|Fu (Sb 2 kk37 r (Co 4) r)<|Nx<|Dt Z 4 [2] r<|Cc Z [] [4] zfI r r2 λY aa _=>Qs 1 r<|Nx<|Wc r (λv=>Dt Z 3 [0] r<|Fo (Cl [] zg7 e r r1 ⟨(Bc Z.1),⟨⟩⟩) λy=>Fu (Sb 2 kk39 r (Ca ⟨Op',Ow' 0,Op',⟨⟩⟩) r)<|Qs 1 r<|Nx<|Wv<|Rj y [0] [2] r) λv=>Sn<|Dt Z 3 [2] r<|Fu (Sb 1 kk39 r (Ca ⟨Op',Ow' 4,Op',⟨⟩⟩) r)<|Qs 1 r<|Nx<|Wr<|Rj q [4] [1] r
def zjd (l:List Ae) (t:Ae):Option (List Ae):=bindC (loopO (λ(a:Bool × Int × List (Option Ae) × Option (List Ac) × Option (List (List Ac)) × Option (List Int) × List Ae)=>if Dc (a.2.1<(a.2.2.1.length:Int))then Bb (if !a.1 then Bb (idx a.2.2.1 a.2.1) λg=>Bb (g) λh=>some (Dc (h.p>t.p),a.2.2.2.1,a.2.2.2.2.1,a.2.2.2.2.2.1)else some (false,a.2.2.2.1,a.2.2.2.2.1,a.2.2.2.2.2.1)) (λ(d:Bool × Option (List Ac) × Option (List (List Ac)) × Option (List Int))=>bindC (if d.1=true then Bb (d.2.1) λi=>Bb (d.2.2.1) λj=>Bb (d.2.2.2) λk=>Bb (app 104 a.2.2.2.2.2.2 ([(⟨t.p,t.I,t.E,⟨i,j,t.c.b,k⟩⟩:Ae)])) λm=>some (.go (true,none,none,none,m))else some (.go (a.1,d.2.1,d.2.2.1,d.2.2.2,a.2.2.2.2.2.2))) (λ(f:Bool × Option (List Ac) × Option (List (List Ac)) × Option (List Int) × List Ae)=>Bb (idx a.2.2.1 a.2.1) λn=>Bb (n) λo=>Bb (app 104 f.2.2.2.2 ([o])) λu=>some (.go (f.1,I6.wrap (a.2.1+1),(a.2.2.1.set a.2.1.toNat none),f.2.1,f.2.2.1,f.2.2.2.1,u))))else some (.done (.go (a.1,a.2.2.2.1,a.2.2.2.2.1,a.2.2.2.2.2.1,a.2.2.2.2.2.2)))) (false,(0:Int),(l.map some),(some t.c.s),(some t.c.q),(some t.c.t),([]:List Ae))) (λ(e:Bool × Option (List Ac) × Option (List (List Ac)) × Option (List Int) × List Ae)=>bindC (if !e.1 then Bb (e.2.1) λv=>Bb (e.2.2.1) λw=>Bb (e.2.2.2.1) λx=>Bb (app 104 e.2.2.2.2 ([(⟨t.p,t.I,t.E,⟨v,w,t.c.b,x⟩⟩:Ae)])) λy=>some (.go y)else some (.go e.2.2.2.2)) (λ(z:List Ae)=>some z))
def zt8 {l:List Ae} {t:Ae} :Cn Pg 179 [U0,.agg #[iv t.p,iv t.I,iv t.E,U1,U2,iv t.c.b,U3]] [.own U0 (lc l),.own U1 (lc t.c.s),.own U2 (lc t.c.q),.own U3 (lc t.c.t)] [] (zjd l t) (λ_ (X:Value)=>X) λr X=>[.own X (lc r)]:=Ch Tryz.func179 r λw S Z=>by
 refine Sr<|Fo (Bx r (Ca ⟨Op',Op',Op',Ow' 1,Ow' 2,Op',Ow' 3,⟨⟩⟩)) λh=>Qs 1 r<|Nx<|Sr<|Fo (Bk [] ke43 kz114 r (Qz)) λo=>Kt (Ha [0] ([]:List Ae) r Cz)<|Qs 1 r<|Nx<|Dw Z 9 [] r<|Jn (Value × Value × Value × Value) [3] [] (λT X=>[(5,X.2.2.2),(6,.bool T.1)]) (λT X=>[.box h 114 [iv t.p,iv t.I,iv t.E,X.1,X.2.1,iv t.c.b,X.2.2.1],mayI X.1 T.2.1,mayI X.2.1 T.2.2.1,mayI X.2.2.1 T.2.2.2.1,.own X.2.2.2 (lc T.2.2.2.2)]) r2 r2 (?_) λW i=>?_
 ·refine Wb<|Kw (Hm [2] r)<|Lp (Value × Value × Value × Value) [0,3] [] (λT X=>[(5,X.2.2.2),(6,.bool T.1),(7,iv T.2.1)]) (λT X=>[.box h 114 [iv t.p,iv t.I,iv t.E,X.1,X.2.1,iv t.c.b,X.2.2.1],.own U0 (lc T.2.2.1),mayI X.1 T.2.2.2.1,mayI X.2.1 T.2.2.2.2.1,mayI X.2.2.1 T.2.2.2.2.2.1,.own X.2.2.2 (lc T.2.2.2.2.2.2)]) (U1,U2,U3,.slice (some ⟨o,0,none⟩) 0 0) [2,0,1,1,1,0] r2 r2 λY a=>Dw Z 8 [1] r<|Wc r (λu=>?_) λu=>?_
  ·refine Sn<|Dw Z 4 [] r<|Jb (Value × Value × Value) [0,3,5,6,7] [1,4] (λT _=>[(26,.bool T.1)]) (λT X=>[.box h 114 [iv t.p,iv t.I,iv t.E,X.1,X.2.1,iv t.c.b,X.2.2],mayI X.1 T.2.1,mayI X.2.1 T.2.2.1,mayI X.2.2 T.2.2.2]) r2 r2 (?_) λT8 d=>?_
   ·refine Dz 6 [] [] r hMix<|Aq [0,1,2] r<|Ia (λe=>?_) λe=>?_
    ·exact Ak (Kg Z (Gc e<|Gz)) [3,4] [] [0,0] r<|Ai λaa n=>Ak (Kk Z (Xc n<|Xz) (Gc e<|Gz)) [5,6,8,9] [] [0,1,0,0,2,0,0,0,0,0,0] r<|Ai λab v=>A1 7<|Xyg (gdA (zA e)) r (Le kk3 (Oc 1 r) (zhl n v) r)<|Ak (Kg Z (Gc e<|Gz)) [10,11] [] [0,0] r<|Az<|Bg (a.1,a.2.1,a.2.2.1) [1,4,0,0,0,0]
    exact Ax [3,4,5,6,7,8,9,10] (zI e) r r<|Ay 11 r (Pf e r)<|Az<|Bg (a.1,a.2.1,a.2.2.1) [1,4,0,0,0,0]
   refine Ne<|Jn (Value × Value × Value × Value) [0,3,7] [0] (λT X=>[(5,X.2.2.2),(6,.bool T.1)]) (λT X=>[.box h 114 [iv t.p,iv t.I,iv t.E,X.1,X.2.1,iv t.c.b,X.2.2.1],mayI X.1 T.2.1,mayI X.2.1 T.2.2.1,mayI X.2.2.1 T.2.2.2.1,.own X.2.2.2 (lc T.2.2.2.2)]) r2 r2 (?_) λac j=>?_
   ·refine Wc r (λx=>?_) λx=>?_
    ·refine Dt Z 4 [2] r<|Bi λy z=>Kt (Mb [3] z r)<|Bi λA B=>Kt (Mb [4] B r)<|Bi λC D=>Kt (Mb [5] D r)<|Fo (Bk [ic t.p,ic t.I,ic t.E,.raw d.1,.raw d.2.1,ic t.c.b,.raw d.2.2] ke43 kz114 r (Qc (Ca ⟨Op',Op',Op',Ow' 2,Ow' 1,Op',Ow' 0,⟨⟩⟩)<|Qz)) λad=>Kt (Ha [0,2,1,0] ([(⟨t.p,t.I,t.E,⟨y,A,t.c.b,C⟩⟩:Ae)]:List Ae) r (Ck (Ck (Ck (Cf (Cf (Ck (Cf Cz))))))))<|Bi λae F=>?_
     exact Fo (Aw [2,0] F ke43 kz114 r) λG=>Qs 1 r<|Nx<|Rg<|Qs 1 r<|Nl<|Ke Mn<|Ke Mn<|Ke Mn<|Jg (d.1,d.2.1,d.2.2,G) [4,4,2,1,0,0]
    exact Sk<|Jg (d.1,d.2.1,d.2.2,a.2.2.2) [0,1,1,1,1,0]
   refine Ne<|Rg<|Qs 3 r<|Bi λaf f=>Yo (Ix ke43 (Oc 0 r) f r)<|TO.fact (zbX (Can.own 0 r) f) λag=>Bi λg k=>Gt (X:=Value × Value × Value) (Ho 3 [0] (zhl f k) r r1) λm=>Yo (Lh 0 kk114 (zhl f k) r)<|Fo (Bk [ic g.p,ic g.I,ic g.E,.raw m.1,.raw m.2.1,ic g.c.b,.raw m.2.2] ke43 kz114 r (Qc (Ca ⟨Op',Op',Op',Ow' 1,Ow' 2,Op',Ow' 3,⟨⟩⟩)<|Qz)) λah=>Kt (Ha [0,1,1,1] ([g]:List Ae) r (Ck (Ck (Ck (Cf (Cf (Ck (Cf Cz))))))))<|Bi λai H=>Fo (Aw [6,0] H ke43 kz114 r) λJ=>?_
   exact Qs 1 r<|Nl<|Bn<|Ne<|Rg<|Qs 3 r<|Nl<|Ke (Hc (α:=(Option Ae)) [1] none (zhl f k) r (Cd (Cd (Cd (Cd (Cd (Cd (Cd Cz))))))))<|Lg (j.1,j.2.1,j.2.2.1,J) [2,0,1,1,1,0]
  exact We<|Jg (a.1,a.2.1,a.2.2.1,a.2.2.2) [0,1,1,1,1]
 refine Ne<|Dw Z 6 [] r<|Jn Value [] [] (λ_ X=>[(5,X)]) (λT X=>[.own X (lc T)]) r2 r2 (?_) λaj K=>?_
 ·refine Wc r (λL=>?_) λL=>?_
  ·refine Dt Z 3 [0] r<|Bi λM N=>Kt (Mb [1] N r)<|Bi λO P=>Kt (Mb [2] P r)<|Bi λQ R=>Kt (Mb [3] R r)<|Fo (Bk [ic t.p,ic t.I,ic t.E,.raw i.1,.raw i.2.1,ic t.c.b,.raw i.2.2.1] ke43 kz114 r (Qc (Ca ⟨Op',Op',Op',Ow' 2,Ow' 1,Op',Ow' 0,⟨⟩⟩)<|Qz)) λak=>Kt (Ha [0,2,1,0] ([(⟨t.p,t.I,t.E,⟨M,O,t.c.b,Q⟩⟩:Ae)]:List Ae) r (Ck (Ck (Ck (Cf (Cf (Ck (Cf Cz))))))))<|Bi λal U=>?_
   exact Fo (Aw [2,0] U ke43 kz114 r) λV=>Qs 1 r<|Nl<|Jg V [0]
  exact Sk<|Jg i.2.2.2 [4]
 exact Ne<|Dw Z 5 [] r<|Wr<|Re K [0]
def zc6 (secret:List UInt8) (tenant A:Int):Option (List UInt8):=Bb (if !(Dc ((secret.length:Int)=32))then some true else Bb (zy tenant 1 99) λa=>if !a then some true else Bb (zy A 0 1000000) λb=>some (!b)) (λ(c:Bool)=>if c=true then some ([])else Bb (zeN tenant) λd=>Bb (zeN A) λe=>Bb (cat d e) λf=>Bb (zeq 2 tenant) λg=>Bb (zcQ secret A g) λh=>Bb (ssub h 0 8) λi=>Bb (cat f i) λj=>some j)
def zhh {secret:List UInt8} {A:Int} :Cn Pg 119 [strV secret,iv tenant,iv A] [] [] (zc6 secret tenant A) (λr (_:Unit)=>strV r) λ_ _=>[]:=Ch Tryz.func119 r λw S Z=>by
 refine Dw Z 6 [] r<|Jv [0,1,2] (λT=>[(19,.bool T)]) r1 (?_) λi=>?_
 ·exact Rg<|Qs 1 r<|Yo (Y.slen ks9 r)<|Qs 2 r<|It (λb=>Vv (Kg Z (Gc b<|Gz)) 5 [0,0,0,0] r<|Of 3 r r r<|Yo (Pt r r)<|Nl<|Bv) λb=>Qg 1 (zf b) r r<|Bi λj c=>Fg (gdA (zf b)) (Cl [] zw c r r1) λ_=>Vv (Kg Z (Gc b<|Gz)) 3 [0,0] r<|It (λa=>Of 3 (zh a) r r<|Yo (Pt a r)<|Nl<|Bv) λa=>Qg 1 (zf a) r r<|Bi λk d=>Fg (gdA (zf a)) (Cl [] zw d r r1) λ_=>Vv (Kg Z (Gc a<|Gz)) 2 [0,0] r<|Nl<|Bv
 exact Ne<|Wc r (λe=>Dw Z 4 [] r<|Wv<|Rq) λe=>Sn<|Sr<|Qs 1 r<|Cc Z [] [] ziu r r2 λl m _=>Qs 1 r<|Cc Z [] [] ziu r r2 λn o _=>Bi λp f=>Yo (Y.cat f r r)<|Qs 3 r<|Cc Z [] [] ziQ r r2 λq s _=>Cc Z [] [] zij r r2 λt u _=>Bi λv g=>Yo (Y.ssub_to g ks9 r r)<|Bi λx h=>Yo (Y.cat h r r)<|Qs 1 r<|Nx<|Wr<|Rq
def zgj (s:Af) (c:As):Option (Af × At):=Bb (Bb (zy c.r 1 99) λd=>if !d then some true else Bb (zy c.N 0 40) λe=>if !e then some true else if !(Dc ((c.g.length:Int)=32))then some true else Bb (zcY s.a c.r) λf=>some (Dc (f>=0))) (λ(h:Bool)=>if h=true then Bb (zG 1) λi=>some (s,i)else if Dc ((s.a.length:Int)>=4)then Bb (zG 4) λk=>some (s,k)else Bb (zbL s.u c.r c.N) λb=>if !b.2 then Bb (zG 6) λl=>some (s,l)else Bb (zi9 s.j c.r c.g) λm=>Bb (zjd s.a (⟨c.r,0,0,⟨[],[],0,[]⟩⟩:Ae)) λn=>Bb (zc6 s.C c.r 0) λo=>some ((⟨s.C,m.1,b.1,n,s.B,s.J,s.A⟩:Af),(⟨0,1,o,[]⟩:At)))
def zqe {s:Af} {c:As} {U5:Value} :Cn Pg 115 [.agg #[strV s.C,strV s.j.K,U0,iv s.j.H,iv s.u.G,U1,U2,U3,U4,iv s.A],.agg #[iv c.D,strV c.P,iv c.r,iv c.N,strV c.g,strV c.R,U5]] [.own U0 (lc s.j.x),.own U1 (lc s.u.m),.own U2 (lc s.a),.own U3 (lc s.B),.own U4 (lc s.J)] [(U5,lc c.O)] (zgj s c) (λr (X:Value × Value × Value × Value × Value × Value)=>.tuple #[.agg #[strV r.1.C,strV r.1.j.K,X.1,iv r.1.j.H,iv r.1.u.G,X.2.1,X.2.2.1,X.2.2.2.1,X.2.2.2.2.1,iv r.1.A],.agg #[iv r.2.S,iv r.2.N,strV r.2.L,X.2.2.2.2.2]]) λr X=>[.own X.1 (lc r.1.j.x),.own X.2.1 (lc r.1.u.m),.own X.2.2.1 (lc r.1.a),.own X.2.2.2.1 (lc r.1.B),.own X.2.2.2.2.1 (lc r.1.J),.own X.2.2.2.2.2 (lc r.2.m)]:=Ch Tryz.func115 r λw S Z=>by
 refine Sr<|Fo (Bx r (Ca ⟨Op',Op',Ow' 0,Op',Op',Ow' 1,Ow' 2,Ow' 3,Ow' 4,Op',⟨⟩⟩)) λM=>Fo (Bx r (Ca ⟨Op',Op',Op',Op',Op',Op',Ob Z.1,⟨⟩⟩)) λQ=>Fo (Al kz46 r) λU=>Fo (Al kz49 r) λV=>Nx<|Sq<|Sq<|Jv [2,3,4,5] (λT=>[(33,.bool T)]) r1 (?_) λW=>?_
 ·refine Dt Z 3 [0,2] r<|Cc Z [] [] zw r r2 λR7 H8 _=>Qs 2 r<|It (λd=>Vv (Kg Z (Gc d<|Gz)) 6 [0,0,0,0,0] r<|Of 4 r r r<|Yo (Pt r r)<|Qs 1 r<|Of 6 r r r<|Yo (Pt r r)<|Nl<|Bg () [0,0,0,0,0,0,0,0,0]) λd=>Vv (Kg Z (Gc d<|Gz)) 2 [0,0,0,2] r<|Bi λaa f=>Fg (gdA (zf d)) (Cl [] zw f r r1) λ_=>Vv (Kg Z (Gc d<|Gz)) 3 [0,0] r<|It (λe=>Vv (Kg Z (Gc e<|Gz)) 6 [0,0,0,0,0] r<|Of 6 r r r<|Yo (Pt r r)<|Nl<|Bg () [0,0,0,0,0,0,0,0,0]) λe=>Vv (Kg Z (Gc e<|Gz)) 2 [0,0,0,2] r<|Yg (gdA (zf e)) (Y.slen ks9 r)<|Vv (Kg Z (Gc e<|Gz)) 3 [0,0] r<|It (λb=>Of 6 (zh b) r r<|Yo (Pt b r)<|Nl<|Bg () [0,0,0,0,0,0,0,0,0]) λb=>?_
  exact Vv (Kg Z (Gc b<|Gz)) 4 [0,0,0,3,0,0,0,2] r<|Bi λab h=>Fg (gdA (zf b)) (Cl [] zix h r r1 ⟨(Oc 6 r),⟨⟩⟩) λ_=>Vv (Kg Z (Gc b<|Gz)) 2 [0,0] r<|Nl<|Bg () [0,0,0,0,0,0,0,0,0]
 refine Ne<|Wc r (λi=>?_) λi=>?_
 ·exact Sq<|Dz 9 [1] [2,3] r hMix<|Aj Z [0] [] [1] r<|Ai λac k=>A1 1<|Xe r (Cl [] zB k r r1) λl=>A1 2<|Xu r (Sb 1 kk46 r (Ca ⟨Op',Op',Ow' 5,Op',Op',Ow' 6,Ow' 7,Ow' 8,Ow' 9,Op',⟨⟩⟩) r)<|A1 3<|Xu r (Sb 2 kk49 r (Ca ⟨Op',Op',Op',Ow' 0,⟨⟩⟩) r)<|Az<|Ne<|Wv<|Rj (U0,U1,U2,U3,U4,l) [5,5,5,5,5,0] [1,2] r
 refine Sn<|Dw Z 8 [0,3,6] r<|Wc r (λn=>?_) λn=>?_
 ·exact Sq<|Dz 9 [1] [2,3] r hMix<|Aj Z [0] [] [1] r<|Ai λad o=>A1 1<|Xe r (Cl [] zB o r r1) λp=>A1 2<|Xu r (Sb 1 kk46 r (Ca ⟨Op',Op',Ow' 5,Op',Op',Ow' 6,Ow' 7,Ow' 8,Ow' 9,Op',⟨⟩⟩) r)<|A1 3<|Xu r (Sb 2 kk49 r (Ca ⟨Op',Op',Op',Ow' 0,⟨⟩⟩) r)<|Az<|Ne<|Wv<|Rj (U0,U1,U2,U3,U4,p) [5,5,5,5,5,0] [1,2] r
 refine Sn<|Dt Z 8 [0,3,0,2,0,2] r<|Cc Z [] [5] zlv r r2 λae af q=>Qs 3 r<|Fo (Al kz42 r) λag=>Fu (Sb 0 kk42 r (Ca ⟨Op',Ow' 1,⟨⟩⟩) r)<|Qs 1 r<|Nx<|Dw Z 6 [] r<|Wc r (λt=>?_) λt=>?_
 ·exact Sq<|Dz 11 [3,2] [2,3] r hMix<|Aj Z [0] [] [3] r<|Ai λah v=>A1 1<|Xe r (Cl [] zB v r r1) λy=>A1 2<|Xu r (Sb 1 kk46 r (Ca ⟨Op',Op',Ow' 7,Op',Op',Ow' 8,Ow' 9,Ow' 10,Ow' 11,Op',⟨⟩⟩) r)<|A1 3<|Xu r (Sb 2 kk49 r (Ca ⟨Op',Op',Op',Ow' 0,⟨⟩⟩) r)<|Az<|Ne<|Wv<|Rj (U0,U1,U2,U3,U4,y) [7,7,7,7,7,0] [1,2] r
 refine Sn<|Dt Z 4 [0,0] r<|Fu (Sb 5 kk42 r (Ca ⟨Op',Ow' 1,⟨⟩⟩) r)<|Nx<|Dt Z 8 [0,5,0,4,0,4] r<|Cc Z [] [6] zt3 r r2 λai aj z=>Qs 3 r<|Fo (Al kz39 r) λak=>Fu (Sb 0 kk39 r (Ca ⟨Op',Ow' 1,Op',⟨⟩⟩) r)<|Qs 1 r<|Nx<|Dt Z 4 [0,0] r<|Fu (Sb 7 kk39 r (Ca ⟨Op',Ow' 1,Op',⟨⟩⟩) r)<|Nx<|Dt Z 6 [0,7,0,6] r<|Yo (Bd kp114 kz114 (Pc r (Cp r)<|Pz) r)<|Bi λal E=>No 4<|No 1<|No 1<|Fo (Cl [13,2,1,0] zt8 E r r1) λF=>Dv Z 1 [0] r<|Fu (Sb 8 kk43 r (Co 0) r)<|Nx<|Sq<|Dz 13 [6,5] [7,8] r hMix<|Aj Z [0,1,2,3,4] [] [6,0,6,0,5] r<|Ai λam I=>?_
 exact A1 5<|Xe r (Cl [] zhh I r r1) λ_=>Ay 6 r (Bd kp49 kz49 (Pc r (Cp r)<|Pc r (Cp r)<|Pz) r)<|A1 7<|Xu r (Sb 0 kk46 r (Ca ⟨Op',Op',Ow' 4,Op',Op',Ow' 6,Ow' 2,Ow' 11,Ow' 12,Op',⟨⟩⟩) r)<|A1 8<|Xu r (Sb 1 kk49 r (Cp r) r)<|Az<|Ne<|Wr<|Ni 2<|Rj (z,q,F,U3,U4,(.slice none 0 0)) [5,6,3,9,9,0] [1,2] r
def zg3 (s:Af) (n:Int):Option Af:=bindC (loopO (λ(e:Int × Int × List Ah)=>if Dc (e.2.1<(s.B.length:Int))then bindC (Bb (idx s.B e.2.1) λh=>bindC (if !h.T then if Dc (e.1<1)then some (.done (.go (e.1,e.2.2)))else some (.go (I6.wrap (e.1 - 1)))else some (.go e.1)) (λ(w:Int)=>Bb (app 48 e.2.2 ([(⟨h.r,h.A,h.b,h.L,true⟩:Ah)])) λx=>some (.go (w,x)))) (λ(v:Int × List Ah)=>some (.go (v.1,I6.wrap (e.2.1+1),v.2)))else some (.done (.go e.2.2))) (n,(0:Int),([]:List Ah))) (λ(o:List Ah)=>bindC (loopO (λ(f:Int × List Ae)=>if Dc (f.1<(f.2.length:Int))then Bb (idx f.2 f.1) λg=>bindC (loopO (λ(d:Int × Int × List Ac × List Int × List (List Ac))=>if Dc (d.2.1<(o.length:Int))then bindC (Bb (idx o d.2.1) λi=>if !(Dc (i.r=g.p))then some (.go (d.1,d.2.2.1,d.2.2.2.1,d.2.2.2.2))else Bb (zdO s.j g.p) λy=>Bb (zcA y i.A i.b i.L) λz=>Bb (zcc (⟨d.2.2.1,d.2.2.2.2,d.1,d.2.2.2.1⟩:Aa) z.1) λk=>some (.go (k.1.b,k.1.s,k.1.t,k.1.q))) (λ(l:Int × List Ac × List Int × List (List Ac))=>some (.go (l.1,I6.wrap (d.2.1+1),l.2.1,l.2.2.1,l.2.2.2)))else some (.done (.go (d.1,d.2.2.1,d.2.2.2.1,d.2.2.2.2)))) (g.E,(0:Int),([]:List Ac),([]:List Int),g.c.q)) (λ(m:Int × List Ac × List Int × List (List Ac))=>Bb (zbY (⟨m.2.1,m.2.2.2,m.1,m.2.2.1⟩:Aa)) λD=>some (.go (I6.wrap (f.1+1),(f.2.set f.1.toNat (⟨g.p,g.I,g.E,D⟩:Ae)))))else some (.done (.go f.2))) ((0:Int),s.a)) (λ(F:List Ae)=>some (⟨s.C,s.j,s.u,F,o,s.J,I6.wrap (s.A+1)⟩:Af)))
def zrr {s:Af} {n:Int} :Cn Pg 116 [.agg #[strV s.C,strV s.j.K,U0,iv s.j.H,iv s.u.G,U1,U2,U3,U4,iv s.A],iv n] [.own U0 (lc s.j.x),.own U1 (lc s.u.m),.own U2 (lc s.a),.own U4 (lc s.J)] [(U3,lc s.B)] (zg3 s n) (λr (X:Value × Value × Value × Value × Value)=>.agg #[strV r.C,strV r.j.K,X.1,iv r.j.H,iv r.u.G,X.2.1,X.2.2.1,X.2.2.2.1,X.2.2.2.2,iv r.A]) λr X=>[.own X.1 (lc r.j.x),.own X.2.1 (lc r.u.m),.own X.2.2.1 (lc r.a),.own X.2.2.2.1 (lc r.B),.own X.2.2.2.2 (lc r.J)]:=Ch Tryz.func116 r λw S Z=>by
 refine Sr<|Fo (Bx r (Ca ⟨Op',Op',Ow' 0,Op',Op',Ow' 1,Ow' 2,Ob Z.1,Ow' 3,Op',⟨⟩⟩)) λP=>Fo (Al kz46 r) λQ=>Nx<|Sr<|Fo (Bs ([]:List Ah) ke44 kz121) λR=>Qs 1 r<|Nx<|Dw Z 5 [] r<|Jn Value [2,4] [2,1,1,1,1,1] (λ_ X=>[(5,X)]) (λT X=>[.own X (lc T)]) r2 r2 (?_) λU v=>?_
 ·refine Wb<|Lp Value [2,4] [2,1,1,1,1,1] (λT X=>[(1,iv T.1),(5,X),(6,iv T.2.1)]) (λT X=>[.own X (lc T.2.2)]) (.slice (some ⟨R,0,none⟩) 0 0) [2,1,1,1,1,1,0] r2 r2 λS4 F=>Dw Z 9 [0,0,100] r<|Wc r (λV=>?_) λV=>?_
  ·refine Sn<|Sq<|Jn Value [2,4,6] [0,0,0,0,0,0] (λT X=>[(1,iv T.1),(5,X)]) (λT X=>[.own X (lc T.2)]) r2 r2 (?_) λT9 W=>?_
   ·refine Dt Z 6 [0,0] r<|Bi λl Y=>Vv (Kx Z (Xc Y<|Xz)) 2 [100,0,300,0,0] r<|Fo (Al kz121 r) λaq=>Fu (Sb 0 kk121 r (Cp r) r)<|Nx<|Dw Z 7 [0,0] r<|Ju [2,4,5,6,7] (λT=>[(1,iv T)]) r1 (Wc r (λaa=>Dw Z 6 [] r<|Wc r (λab=>Wx<|Tx<|Jd<|Tx<|Be<|Jg F [1,1,1,1,1,1,1]) λab=>Sn<|Rg<|Qs 3 r<|Nl<|Jg () [0,0,0,0,0,0,0,0]) λaa=>Sk<|Jg () [0,0,0,0,0,0,0,0]) λar=>Ne<|Dt Z 3 [0] r<|Fu (Sb 0 kk4 r (Cp r) r)<|Nx<|Dt Z 3 [0] r<|Fo (Bs [(⟨l.r,l.A,l.b,l.L,true⟩:Ah)] ke44 kz121) λau=>?_
    exact Bi λav ac=>Fo (Ap [8] ac ke44 kz121 r (Oc 0 r)) λad=>Qs 1 r<|Nl<|Bn<|Jg ad [3,3,3,3,3,3,0]
   exact Ne<|Rg<|Qs 3 r<|Nl<|Lg W [0,0,0,0,0,0,0]
  exact We<|Jg F [0,0,0,0,0,0,0]
 refine Ne<|Dt Z 4 [0] r<|Fu (Sb 0 kk44 r (Co 6) r)<|Nx<|Dt Z 6 [0,0,0] r<|Fu (Sb 0 kk3 r (Cp r) r)<|Nx<|Dw Z 5 [] r<|Jn Unit [2,4] [0,0,0,0,2,1] (λ_ _=>[]) (λT _=>[.own U2 (lc T)]) r2 r2 (?_) λaw ax=>?_
 ·refine Wb<|Lp Unit [2,4,5] [0,0,0,0,2,1] (λT _=>[(8,iv T.1)]) (λT _=>[.own U2 (lc T.2)]) () [0,0,0,0,2,1,0] r2 r2 λM ay=>Dw Z 9 [0,0,6] r<|Wc r (λae=>?_) λae=>?_
  ·refine Sn<|Dt Z 7 [0,0] r<|Bi λd h=>Yo (Ix ke43 (Oc 6 r) h r)<|TO.fact (zbX (Can.own 6 r) h) λaf=>Gt (X:=Value × Value × Value) (Ho 3 [6] h r r1) λe=>Yo (Lh 0 kk114 h r)<|Fo (Al kz114 r) λag=>Fu (Sb 0 kk114 r (Ca ⟨Op',Op',Op',Ow' 2,Ow' 3,Op',Ow' 4,⟨⟩⟩) r)<|Nx<|Dt Z 7 [0,0,0,0,0] r<|Yo (Bd kp112 kz112 (Pc r (Co 3)<|Pc r (Cp r)<|Pz) r)<|Fo (Al kz112 r) λo=>Fu (Sb 0 kk112 r (Ca ⟨Op',Ow' 4,Op',Op',⟨⟩⟩) r)<|Nx<|Dw Z 5 [] r<|Jn (Value × Value × Value) [2,4,5,8,10] [6,6,2,5,5,5,5,2,2,2] (λ_ _=>[]) (λT X=>[.box o 112 [X.1,X.2.2,iv T.1,X.2.1],.own X.1 (lc T.2.1),.own X.2.1 (lc T.2.2.1),.alt X.2.2 (lc T.2.2.2) e.2.1 (lc d.c.q)]) r2 r2 (?_) λaz aA=>?_
   ·refine Wb<|Nw 4<|Nw 1<|TW.conv (St.alt_new e.2.1 (lc d.c.q))<|Lp (Value × Value × Value) [2,4,5,8,9,10] [9,9,4,4,7,7,7,7,4,4,4] (λT _=>[(11,iv T.2.1)]) (λT X=>[.box o 112 [X.1,X.2.2,iv T.1,X.2.1],.own X.1 (lc T.2.2.1),.own X.2.1 (lc T.2.2.2.1),.alt X.2.2 (lc T.2.2.2.2) e.2.1 (lc d.c.q)]) (.slice none 0 0,.slice none 0 0,e.2.1) [9,9,4,4,7,7,7,7,4,4,4,3,2,1,0] r2 r2 λy g=>Dw Z 8 [6] r<|Wc r (λah=>?_) λah=>?_
    ·refine Sn<|Sq<|Jn (Value × Value × Value) [2,4,5,8,9,10,11] [0,0,0,0,0,0,0,0,0,0,0] (λ_ _=>[]) (λT X=>[.box o 112 [X.1,X.2.2,iv T.1,X.2.1],.own X.1 (lc T.2.1),.own X.2.1 (lc T.2.2.1),.alt X.2.2 (lc T.2.2.2) e.2.1 (lc d.c.q)]) r2 r2 (?_) λaB z=>?_
     ·refine Wb<|Sq<|Sq<|Dz 15 [] [] r hMix<|Aq [0,1] r<|Ai λaC N=>Ak (Kx Z (Xc N<|Xz)) [2,3,4,5,6,7] [] [6,0,7,0,0,206,0,0,0,2] r<|Az<|Ne<|Wc r (λai=>Wx<|Tx<|Be<|Jg (g.1,g.2.1,g.2.2) [0,0,0,0,0,0,0,0,0,0,0,0,0,0,0]) λai=>Sn<|Sq<|Dz 15 [] [] r hMix<|Ak (Kx Z (Xc N<|Xz)) [0,1,2,3,5,6,7,8,9,10,11,12,13,14,15,16,17,18,19] [] [0,0,0,2,6,0,7,0,0,206,0,1,6,0,7,0,0,206,0,2,6,0,7,0,0,206,0,3] r<|Ai λaD aj=>?_
      exact A1 4<|Xe r (Cl [] zim aj r r1 ⟨(Oc 4 r),⟨⟩⟩) λ_=>Ai λak al=>A1 20<|Xe r (Cl [] zkU al r r1) λam=>Aq [21,22,23,24,25] r<|Az<|Ne<|Dt Z 4 [12] r<|Bi λk an=>Fo (Cl [] zg0 an r r1 ⟨(Oc 13 r),(Can.alt 15 10 rfl rfl),(Oc 14 r),(Oc 0 r),⟨⟩⟩) λf=>Qs 3 r<|Fo (Al kz112 r) λao=>Fu (Sb 0 kk112 r (Ca ⟨Ow' 1,Ow' 2,Op',Ow' 3,⟨⟩⟩) r)<|Qs 1 r<|Nx<|Dt Z 2 [0] r<|Fu (Sb 16 kk112 r (Ca ⟨Ow' 1,Ow' 2,Op',Ow' 3,⟨⟩⟩) r)<|Nl<|Bn<|TE.conv (is':=[.box ao 112 [f.1,f.2.1,iv k.1.b,f.2.2],.own f.1 (lc k.1.s),.alt f.2.1 (lc k.1.q) e.2.1 (lc d.c.q),.own f.2.2 (lc k.1.t),.own am (lc ak.1),.box P 46 [strV s.C,strV s.j.K,U0,iv s.j.H,iv s.u.G,U1,U2,v,U4,iv (I6.wrap (s.A+1))],.box Q 46 [strV ([]),strV ([]),.slice none 0 0,iv 0,iv 0,.slice none 0 0,.slice none 0 0,.slice none 0 0,.slice none 0 0,iv 0],.box ag 114 [iv d.p,iv d.I,iv d.E,e.1,e.2.1,iv d.c.b,e.2.2],.own U2 (hl M.2 M.1.toNat [ic d.p,ic d.I,ic d.E,.raw e.1,.raw e.2.1,ic d.c.b,.raw e.2.2]),.own U0 (lc s.j.x),.own U1 (lc s.u.m),.own v (lc U),.own U4 (lc s.J),.own e.1 (lc d.c.s),.own e.2.1 (lc d.c.q),.own e.2.2 (lc d.c.t),.box o 112 [f.1,f.2.1,iv k.1.b,f.2.2],.own g.1 (lc y.2.2.1),.own g.2.1 (lc y.2.2.2.1),.alt g.2.2 (lc y.2.2.2.2) e.2.1 (lc d.c.q)]) (St.alt_own (i:=2) e.2.1 (lc d.c.q) r r)<|Jg (f.1,f.2.2,f.2.1) [5,5,5,5,5,5,5,5,5,5,5,5,1,2,1]
     exact Ne<|Rg<|Qs 3 r<|Nl<|Lg (z.1,z.2.1,z.2.2) [0,0,0,0,0,0,0,0,0,0,0,0,0,0,0]
    exact We<|Jg (g.1,g.2.1,g.2.2) [0,0,1,1,1,1,1,1,1,1,1,1,1,1]
   exact Ne<|Dz 14 [2] [7] r hMix<|Aj Z [0,1,2,3] [] [0,0,9] r<|Ai λO ap=>A1 4<|Xe r (Cl [] zb8 ap r r1 ⟨(Oc 11 r),(Can.alt 13 8 rfl rfl),(Oc 12 r),⟨⟩⟩) λD=>Ab 5 192 r (Ix ke43 (Oc 0 r) h r)<|Ay 6 r (Fp zV af r)<|A1 7<|Xu r (Sh 3 [.raw D.1,.raw D.2.1,ic O.b,.raw D.2.2] kk112 h r (Ca ⟨Ow' 0,Ow' 1,Op',Ow' 2,⟨⟩⟩) r)<|Az<|Bn<|Ne<|Rg<|Qs 3 r<|Nl<|Ke (Hc [3,0,0,0] (⟨d.p,d.I,d.E,O⟩:Ae) h r (Ck (Ck (Ck (Cf (Cf (Ck (Cf Cz))))))))<|Lg () [1,1,1,1,1,1,0]
  exact We<|Jg () [0,0,0,0,0,0,0]
 exact Ne<|Dt Z 3 [0] r<|Fu (Sb 1 kk46 r (Ca ⟨Op',Op',Ow' 2,Op',Op',Ow' 3,Ow' 6,Ow' 4,Ow' 5,Op',⟨⟩⟩) r)<|Nx<|Wr<|Rj (U0,U1,U2,v,U4) [2,2,4,2,2] [1] r
def zgi (s:Ad) (tenant:Int):Option (Ad × Bool):=Bb (zbM s) λd=>if !d then some ((⟨0,[]⟩:Ad),false)else bindC (loopO (λ(a:Int × List Am)=>if Dc (a.1<(s.m.length:Int))then Bb (idx s.m a.1) λb=>bindC (if !(Dc (b.r=tenant))then Bb (app 16 a.2 ([b])) λe=>some (.go e)else some (.go a.2)) (λ(f:List Am)=>some (.go (I6.wrap (a.1+1),f)))else some (.done (.go a.2))) ((0:Int),([]:List Am))) (λ(c:List Am)=>if Dc ((c.length:Int)=(s.m.length:Int))then Bb (zet s) λg=>some (g,false)else some ((⟨s.G,c⟩:Ad),true))
def zqc {s:Ad} :Cn Pg 180 [.agg #[iv s.G,U0],iv tenant] [] [(U0,lc s.m)] (zgi s tenant) (λr (X:Value)=>.tuple #[.agg #[iv r.1.G,X],.bool r.2]) λr X=>[.own X (lc r.1.m)]:=Ch Tryz.func180 r λw S Z=>by
 refine Sr<|Fo (Bx r (Ca ⟨Op',Ob Z.1,⟨⟩⟩)) λo=>Fo (Al kz42 r) λp=>Qs 1 r<|Nx<|Dt Z 4 [1] r<|Cc Z [] [100] zfq r r2 λq t _=>Qs 1 r<|Nx<|Wc r (λd=>Sr<|Yo (Bd kp42 kz42 (Pz) r)<|Fu (Sb 0 kk42 r (Cp r) r)<|Qs 1 r<|Nx<|Wv<|Ni 2<|Rj (.slice none 0 0) [0] [1] r) λd=>Sn<|Dt Z 4 [0,1] r<|Yo (Bd kp42 kz42 (Pc r (Cp r)<|Pz) r)<|Fo (Al kz42 r) λa=>Fu (Sb 0 kk42 r (Cp r) r)<|Nx<|Dw Z 5 [] r<|Jn Value [2,4,6] [2,1] (λ_ _=>[]) (λT X=>[.box a 42 [iv s.G,X],.own X (lc T)]) r2 r2 (?_) λu e=>?_
 ·refine Wb<|Nw 2<|Lp Value [1,2,4,6] [3,2] (λT _=>[(7,iv T.1)]) (λT X=>[.box a 42 [iv s.G,X],.own X (lc T.2)]) (.slice none 0 0) [3,2,1,0] r2 r2 λv b=>Dw Z 9 [0,0,100] r<|Wc r (λf=>?_) λf=>?_
  ·refine Sn<|Dt Z 7 [0,0] r<|Bi λg c=>Vv (Kx Z (Xc c<|Xz)) 5 [100,0,101,0,0,300,0,0] r<|Nx<|Jn Value [1,2,4,6,7] [0,0] (λ_ _=>[]) (λT X=>[.box a 42 [iv s.G,X],.own X (lc T)]) r2 r2 (?_) λx h=>?_
   ·refine Wc r (λi=>?_) λi=>?_
    ·exact Dz 4 [3,2] [8,10] r hMix<|Ak (Kx Z (Xc c<|Xz)) [0,1,2,3,4,5,6] [0,1792] [0,1,0,0,100,0,300,0,0] r<|A1 7<|Xe r (Bs [g] ke40 kz118) λy=>Ai λz j=>A1 8<|Xe r (Ap [1] j ke40 kz118 r (Oc 0 r)) λk=>Aj Z [9] [] [0] r<|A1 10<|Xu r (Sb 2 kk40 r (Co 0) r)<|Az<|Jg k [3,3,2,0]
    exact Sk<|Jg b [0,0,0,0]
   exact Bn<|Ne<|Rg<|Qs 3 r<|Nl<|Lg h [0,0,0,0]
  exact We<|Jg b [0,0,0,0]
 exact Ne<|Dw Z 11 [0,2,3,0,0,100] r<|Wc r (λl=>Dt Z 3 [0] r<|Cc Z [] [100] ziR r r2 λA B n=>Fu (Sb 2 kk42 r (Ca ⟨Op',Ow' 0,⟨⟩⟩) r)<|Qs 1 r<|Nx<|Wv<|Rj n [0] [2] r) λl=>Sn<|Dt Z 3 [2] r<|Fu (Sb 1 kk42 r (Ca ⟨Op',Ow' 3,⟨⟩⟩) r)<|Qs 1 r<|Nx<|Wr<|Rj e [3] [1] r
def zin (d:Ar) (tenant:Int):Option (Ar × Bool):=Bb (zbo d) λf=>if !f then some ((⟨[],[],0⟩:Ar),false)else Bb (ze7 d) λb=>bindC (loopO (λ(a:Int × List Ao)=>if Dc (a.1<(d.x.length:Int))then Bb (idx d.x a.1) λc=>bindC (if !(Dc (c.r=tenant))then Bb (app 24 a.2 ([c])) λg=>some (.go g)else some (.go a.2)) (λ(h:List Ao)=>some (.go (I6.wrap (a.1+1),h)))else some (.done (.go a.2))) ((0:Int),([]:List Ao))) (λ(e:List Ao)=>Bb (if Dc ((e.length:Int)=(d.x.length:Int))then some true else some (Dc (d.H>=1000000))) (λ(i:Bool)=>if i=true then some (b,false)else some ((⟨b.K,e,I6.wrap (b.H+1)⟩:Ar),true)))
def zsu {d:Ar} :Cn Pg 181 [.agg #[strV d.K,U0,iv d.H],iv tenant] [] [(U0,lc d.x)] (zin d tenant) (λr (X:Value)=>.tuple #[.agg #[strV r.1.K,X,iv r.1.H],.bool r.2]) λr X=>[.own X (lc r.1.x)]:=Ch Tryz.func181 r λw S Z=>by
 refine Sr<|Fo (Bx r (Ca ⟨Op',Ob Z.1,Op',⟨⟩⟩)) λp=>Fo (Al kz39 r) λq=>Qs 1 r<|Nx<|Dt Z 4 [1] r<|Cc Z [] [100] zfI r r2 λs t _=>Qs 1 r<|Nx<|Wc r (λe=>Sr<|Yo (Bd kp39 kz39 (Pz) r)<|Fu (Sb 0 kk39 r (Cp r) r)<|Qs 1 r<|Nx<|Wv<|Ni 2<|Rj (.slice none 0 0) [0] [1] r) λe=>Sn<|Dt Z 3 [1] r<|Cc Z [] [100] zg7 r r2 λu v f=>Fo (Al kz39 r) λy=>Fu (Sb 0 kk39 r (Ca ⟨Op',Ow' 1,Op',⟨⟩⟩) r)<|Nx<|Sr<|Fo (Bs ([]:List Ao) ke37 kz116) λg=>Qs 1 r<|Nx<|Dw Z 5 [] r<|Jn Value [2,4,6] [4,3,1,1] (λ_ X=>[(7,X)]) (λT X=>[.own X (lc T)]) r2 r2 (?_) λz h=>?_
 ·refine Wb<|Lp Value [1,2,4,6] [4,3,1,1] (λT X=>[(7,X),(8,iv T.1)]) (λT X=>[.own X (lc T.2)]) (.slice (some ⟨g,0,none⟩) 0 0) [4,3,1,1,0] r2 r2 λA b=>Dw Z 9 [0,0,100] r<|Wc r (λi=>?_) λi=>?_
  ·exact Sn<|Dt Z 7 [0,0] r<|Bi λj c=>Vv (Kx Z (Xc c<|Xz)) 5 [100,0,101,0,0,300,0,0] r<|Nx<|Jn Value [1,2,4,6,8] [0,0,0,0] (λ_ X=>[(7,X)]) (λT X=>[.own X (lc T)]) r2 r2 (Wc r (λk=>Vt (Kx Z (Xc c<|Xz)) 7 [0,0,100,0,300,0,0] r<|Fo (Bs [j] ke37 kz116) λB=>Bi λC l=>Fo (Ap [5] l ke37 kz116 r (Oc 0 r)) λm=>Qs 1 r<|Nl<|Jg m [2,2,2,2,0]) λk=>Sk<|Jg b [0,0,0,0,0]) λD n=>Bn<|Ne<|Rg<|Qs 3 r<|Nl<|Lg n [0,0,0,0,0]
  exact We<|Jg b [0,0,0,0,0]
 exact Ne<|Sq<|Sq<|Jb Unit [4,6,7] [1,1,1,1] (λT _=>[(49,.bool T)]) (λ_ _=>[]) r2 r2 (Dt Z 8 [4,0,0,100] r<|It (λa=>Of 3 (zh a) r r<|Yo (Pt a r)<|Nl<|Bg () [1,1,1,1]) λa=>Vv (Kg Z (Gc a<|Gz)) 4 [0,0,0,0,0,0] r<|Nl<|Bg () [1,1,1,1]) λE F=>Ne<|Wc r (λo=>Dt Z 3 [1] r<|Fu (Sb 0 kk39 r (Ca ⟨Op',Ow' 2,Op',⟨⟩⟩) r)<|Qs 1 r<|Nx<|Wv<|Rj f [2] [0] r) λo=>Sn<|Dt Z 4 [0] r<|Fu (Sb 1 kk37 r (Co 3) r)<|Nx<|Dt Z 6 [0,1,0] r<|Fu (Sb 1 kk3 r (Cp r) r)<|Nx<|Dt Z 3 [1] r<|Fu (Sb 0 kk39 r (Ca ⟨Op',Ow' 3,Op',⟨⟩⟩) r)<|Qs 1 r<|Nx<|Wr<|Rj h [3] [0] r
def zfL (l:List Ah) (id:Int):Option (List Ah):=bindC (loopO (λ(a:Int × List Ah)=>if Dc (a.1<(l.length:Int))then Bb (idx l a.1) λb=>bindC (if !(Dc (b.r=id))then Bb (app 48 a.2 ([b])) λc=>some (.go c)else some (.go a.2)) (λ(d:List Ah)=>some (.go (I6.wrap (a.1+1),d)))else some (.done (.go a.2))) ((0:Int),([]:List Ah))) (λ(e:List Ah)=>some e)
def zmm {l:List Ah} {id:Int} :Cn Pg 182 [U0,iv id] [] [(U0,lc l)] (zfL l id) (λ_ (X:Value)=>X) λr X=>[.own X (lc r)]:=Ch Tryz.func182 r λw S Z=>by
 refine Dt Z 6 [] r<|Fo (Bs ([]:List Ah) ke44 kz121) λc=>Qs 1 r<|Nx<|Dw Z 5 [] r<|Jn Value [] [] (λ_ X=>[(5,X)]) (λT X=>[.own X (lc T)]) r2 r2 (?_) λk d=>?_
 ·refine Wb<|Lp Value [0,1] [] (λT X=>[(5,X),(6,iv T.1)]) (λT X=>[.own X (lc T.2)]) (.slice (some ⟨c,0,none⟩) 0 0) [0] r2 r2 λm a=>Dw Z 8 [100] r<|Wc r (λe=>?_) λe=>?_
  ·exact Sn<|Dt Z 6 [] r<|Bi λf b=>Vv (Kx Z (Xc b<|Xz)) 5 [100,0,101,0,0,300,0,0] r<|Nx<|Jn Value [0,1,6] [] (λ_ X=>[(5,X)]) (λT X=>[.own X (lc T)]) r2 r2 (Wc r (λg=>Vt (Kx Z (Xc b<|Xz)) 6 [100,0,300,0,0] r<|Fo (Bs [f] ke44 kz121) λn=>Bi λo h=>Fo (Ap [1] h ke44 kz121 r (Oc 0 r)) λi=>Qs 1 r<|Nl<|Jg i [0]) λg=>Sk<|Jg a [0]) λp j=>Bn<|Ne<|Rg<|Qs 3 r<|Nl<|Lg j [0]
  exact We<|Jg a [0]
 exact Ne<|Dw Z 5 [] r<|Wr<|Re d [0]
def zgk (s:Af) (at_:Int):Option Af:=Bb (idx s.a at_) λc=>Bb (zgi s.u c.p) λd=>Bb (zin s.j c.p) λe=>Bb (piece s.a 0 at_) λk=>Bb (cutO (s.a.map some) (0:Int) at_) λb=>Bb (app 104 ([]:List Ae) b.1) λf=>Bb (piece b.2 (I6.wrap (at_+1)) (b.2.length:Int)) λl=>Bb (cutO b.2 (I6.wrap (at_+1)) (b.2.length:Int)) λg=>Bb (app 104 f g.1) λh=>Bb (zfL s.B c.p) λi=>some (⟨s.C,e.1,d.1,h,i,s.J,I6.wrap (s.A+1)⟩:Af)
def zqf {s:Af} :Cn Pg 118 [.agg #[strV s.C,strV s.j.K,U0,iv s.j.H,iv s.u.G,U1,U2,U3,U4,iv s.A],iv at_] [.own U2 (lc s.a),.own U4 (lc s.J)] [(U0,lc s.j.x),(U1,lc s.u.m),(U3,lc s.B)] (zgk s at_) (λr (X:Value × Value × Value × Value × Value)=>.agg #[strV r.C,strV r.j.K,X.1,iv r.j.H,iv r.u.G,X.2.1,X.2.2.1,X.2.2.2.1,X.2.2.2.2,iv r.A]) λr X=>[.own X.1 (lc r.j.x),.own X.2.1 (lc r.u.m),.own X.2.2.1 (lc r.a),.own X.2.2.2.1 (lc r.B),.own X.2.2.2.2 (lc r.J)]:=Ch Tryz.func118 r λw S Z=>by
 refine Sr<|Fo (Bx r (Ca ⟨Op',Op',Ob Z.1,Op',Op',Ob Z.2.1,Ow' 0,Ob Z.2.2.1,Ow' 1,Op',⟨⟩⟩)) λp=>Fo (Al kz46 r) λq=>Nx<|Dt Z 5 [0,1] r<|Bi λt b=>Yo (Ix ke43 (Oc 2 r) b r)<|TO.fact (zbX (Can.own 2 r) b) λc=>Yo (Fp ze2 c r)<|Vv (Kx Z (Xc b<|Xz)) 2 [202,0,0] r<|Nx<|Dt Z 5 [0,1] r<|Cc Z [] [101] zqc r r2 λv y d=>Qs 3 r<|Fo (Al kz42 r) λz=>Fu (Sb 0 kk42 r (Ca ⟨Op',Ow' 1,⟨⟩⟩) r)<|Qs 1 r<|Nx<|Dt Z 4 [0,0] r<|Fu (Sb 3 kk42 r (Ca ⟨Op',Ow' 1,⟨⟩⟩) r)<|Nx<|Dt Z 5 [0,3] r<|Cc Z [] [100] zsu r r2 λD E e=>?_
 refine Qs 3 r<|Fo (Al kz39 r) λF=>Fu (Sb 0 kk39 r (Ca ⟨Op',Ow' 1,Op',⟨⟩⟩) r)<|Qs 1 r<|Nx<|Dt Z 4 [0,0] r<|Fu (Sb 5 kk39 r (Ca ⟨Op',Ow' 1,Op',⟨⟩⟩) r)<|Nx<|Sr<|Fo (Bk [] ke43 kz114 r (Qz)) λI=>Kt (Ha [0] ([]:List Ae) r Cz)<|Dv Z 3 [0,6] r<|Bi λL f=>Yo (Y.subs f ke43 (Oc 7 r) r r ⟨_,r⟩)<|Kt (Hm [7] r)<|Bi λM g=>Bi λN h=>Fo (Av [1,0] g h ke43 kz114 r) λO=>Qs 1 r<|Nx<|Dt Z 7 [0,7] r<|Bi λP i=>Yo (Y.subs i ke43 (Oc 1 r) r ⟨_,r⟩ r)<|Bi λQ k=>Bi λR l=>Fo (Av [0,0] k l ke43 kz114 r) λn=>?_
 exact Dv Z 1 [0] r<|Fu (Sb 7 kk43 r (Co 0) r)<|Nx<|Dt Z 5 [0,7] r<|Cc Z [] [102] zmm r r2 λT U o=>Dv Z 1 [0] r<|Fu (Sb 8 kk44 r (Co 0) r)<|Nx<|Dt Z 6 [0,8,0] r<|Fu (Sb 8 kk3 r (Cp r) r)<|Nx<|Dt Z 3 [8] r<|Fu (Sb 7 kk46 r (Ca ⟨Op',Op',Ow' 4,Op',Op',Ow' 6,Ow' 1,Ow' 0,Ow' 9,Op',⟨⟩⟩) r)<|Nx<|Wr<|Rj (e,d,n,o,U4) [4,5,1,0,5] [7] r
def zgY (e:Aa):Option (Aa × Bool):=Bb (zb1 e) λc=>if !c then some ((⟨[],[],0,[]⟩:Aa),false)else Bb (zbY e) λa=>Bb (if Dc ((a.s.length:Int)=0)then some true else some (Dc ((a.q.length:Int)>=6))) (λ(d:Bool)=>if d=true then some (a,false)else Bb (app 24 ([a.s]) a.q) λf=>some ((⟨[],f,a.b,a.t⟩:Aa),true))
def zrg {e:Aa} :Cn Pg 185 [.agg #[U0,U1,iv e.b,U2]] [] [(U0,lc e.s),(U1,lc e.q),(U2,lc e.t)] (zgY e) (λr (X:Value × Value × Value)=>.tuple #[.agg #[X.1,X.2.1,iv r.1.b,X.2.2],.bool r.2]) λr X=>[.own X.1 (lc r.1.s),.own X.2.1 (lc r.1.q),.own X.2.2 (lc r.1.t)]:=Ch Tryz.func185 r λw S Z=>by
 refine Sr<|Fo (Bx r (Ca ⟨Ob Z.1,Ob Z.2.1,Op',Ob Z.2.2.1,⟨⟩⟩)) λk=>Fo (Al kz112 r) λl=>Qs 1 r<|Nx<|Dt Z 4 [1] r<|Cc Z [] [100,101,102] zci r r2 λm n _=>Qs 1 r<|Nx<|Wc r (λd=>Sr<|Yo (Bd kp112 kz112 (Pz) r)<|Fu (Sb 0 kk112 r (Cp r) r)<|Qs 1 r<|Nx<|Wv<|Ni 4<|Ni 1<|Ni 1<|Rj ((.slice none 0 0),(.slice none 0 0),(.slice none 0 0)) [2,1,0] [3] r) λd=>Sn<|Dt Z 3 [1] r<|Cc Z [] [100,101,102] zb8 r r2 λf o a=>Fo (Al kz112 r) λp=>Fu (Sb 0 kk112 r (Ca ⟨Ow' 1,Ow' 2,Op',Ow' 3,⟨⟩⟩) r)<|Nx<|Sq<|Sq<|Jb Unit [2,4] [4,0,0,0,0] (λT _=>[(21,.bool T)]) (λ_ _=>[]) r2 r2 (Dt Z 6 [0,0,1] r<|It (λc=>Of 4 (zh c) r r<|Yo (Pt c r)<|Nl<|Bg () [4,0,0,0,0]) λc=>Vv (Kg Z (Gc c<|Gz)) 5 [0,0,0,0,0,2,0,0] r<|Nl<|Bg () [4,0,0,0,0]) λu v=>?_
 exact Ne<|Wc r (λg=>Dt Z 3 [1] r<|Fu (Sb 0 kk112 r (Ca ⟨Ow' 2,Ow' 3,Op',Ow' 4,⟨⟩⟩) r)<|Qs 1 r<|Nx<|Wv<|Rj (a.1,a.2.1,a.2.2) [2,2,2] [0] r) λg=>Sn<|Dt Z 4 [0,1] r<|Fo (Bk [.raw a.1] ke110 kz109 r (Qc (Co 2)<|Qz)) λx=>Kt (Ha [0,2] ([f.s]:List (List Ac)) r (Cf Cz))<|Qs 1 r<|Nx<|Dt Z 5 [0,2] r<|Bi λy h=>Fo (Aw [0,2] h ke110 kz109 r) λi=>Dv Z 1 [0] r<|Fu (Sb 2 kk110 r (Co 0) r)<|Nx<|Sr<|Fo (Bs ([]:List Ac) ke109 kz166) λj=>Dv Z 1 [0] r<|Fu (Sb 3 kk109 r (Cp r) r)<|Nx<|Dt Z 3 [3] r<|Fu (Sb 2 kk112 r (Ca ⟨Op',Ow' 1,Op',Ow' 4,⟨⟩⟩) r)<|Qs 1 r<|Nx<|Wr<|Rj ((.slice (some ⟨j,0,none⟩) 0 0),i,a.2.2) [0,0,2] [2] r
end Go.Proofs.YtdpainahgcdflaaGreat
end
end
