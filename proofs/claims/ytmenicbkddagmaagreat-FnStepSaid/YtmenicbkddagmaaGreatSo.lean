/-
  The rules of the small separation logic, continued: pieces of slices, division. Generic: no statement about a given function.
-/
import Derived.WalkKit
import Derived.WalkLawsBesides
import Derived.Laws.AppendOwnNone
import Derived.ArgAppend
import Derived.OrdersHeld
import Derived.Deep.RegionHeld3
import Derived.Laws.MakeOwn
import Derived.Laws.IdiomStrings
import Derived.Laws.DeepStrings4
import Derived.Laws.Cover3
set_option linter.unusedVariables false
set_option linter.unusedSimpArgs false
set_option linter.defProp false
section
open Decidable renaming decide->Dc
open List renaming mem_append->An,mem_singleton->Bf,getElem?_eq_getElem->Bm,mem_cons->Bp,append_assoc->Bt,nodup_append->Bw,nodup_nil->Cg
open Option.some renaming injEq->Ba
open BitVec renaming ofInt->Bh
open Prod.mk renaming injEq->Bl
open Nat renaming beq->Bo,le_refl->By,blt->Cj
open Option renaming bind_some->Bz
namespace Go.Proofs.YtmenicbkddagmaaGreat.Sl
open Go Go.RowKit
variable {w w':World} {R σ ρ:Type} {S:List Nat} {ops:Array Oper} {b:Bool} {o:Oper} {x c:Operand} {vs:List Value} {v:Value} {n:Nat} {Q:R->Exit->Act->World->Prop} {rest:List Oper} {k:IntKind}
inductive C where
 | int (k:IntKind) (n:Int)
 | bool (b:Bool)
 | str (s:List UInt8)
 | sl (sz:Nat) (n:Nat) (cs:List C)
 | raw (v:Value)
 | any
variable {cs ds:List C}
def strV (s:List UInt8):Value:=.string ⟨s.toArray⟩
mutual
inductive Rd (w:World):Value->C->List Nat->Prop
 | int (k:IntKind) (n:Int):Rd w (.int k n) (.int k n) []
 | bool (b:Bool):Rd w (.bool b) (.bool b) []
 | str (s:List UInt8):Rd w (strV s) (.str s) []
 | raw (v:Value):v.oneCell'=true->Rd w v (.raw v) []
 | any (v:Value):v.oneCell'=true->Rd w v .any []
 | nil (sz:Nat):Rd w (.slice none 0 0) (.sl sz 0 []) []
 | row (a:Addr) (n cap sz:Nat) (vs:List Value) (cs:List C) (S:List Nat):vs.length=n*sz->n<=cap->(∀j,j<n*sz->w.cell? (a.add j)=vs[j]?)->
    Rds w vs cs S->Rd w (.slice (some a) n cap) (.sl sz n cs) ((if n*sz=0 then [] else [a.block])++S)
inductive Rds (w:World):List Value->List C->List Nat->Prop
 | nil:Rds w [] [] []
 | cons (v:Value) (c:C) (S:List Nat) (vs:List Value) (cs:List C) (T:List Nat):Rd w v c S->Rds w vs cs T->Rds w (v::vs) (c::cs) (S++T)
end
mutual
inductive Ow (w:World):Value->C->List Nat->Prop
 | int (k:IntKind) (n:Int):Ow w (.int k n) (.int k n) []
 | bool (b:Bool):Ow w (.bool b) (.bool b) []
 | str (s:List UInt8):Ow w (strV s) (.str s) []
 | raw (v:Value):v.oneCell'=true->Ow w v (.raw v) []
 | any (v:Value):v.oneCell'=true->Ow w v .any []
 | nil (sz:Nat):Ow w (.slice none 0 0) (.sl sz 0 []) []
 | row (b n cap e sz:Nat) (cur:Array Value) (vs:List Value) (cs:List C) (S:List Nat):w.heap[b]? =some (.cells cur e (0,0))->n<=cap->cap<=maxLen->cap*sz<=cur.size->
    cur.toList.take (n*sz)=vs->Ows w vs cs S->Ow w (.slice (some ⟨b,0,none⟩) n cap) (.sl sz n cs) (b::S)
inductive Ows (w:World):List Value->List C->List Nat->Prop
 | nil:Ows w [] [] []
 | cons (v:Value) (c:C) (S:List Nat) (vs:List Value) (cs:List C) (T:List Nat):Ow w v c S->Ows w vs cs T->Ows w (v::vs) (c::cs) (S++T)
end
def zl7 {a:Addr} (h:w'.heap[a.block]? =w.heap[a.block]?):w'.cell? a=w.cell? a:=World.cell?_of_block h
def add_block (a:Addr) (j:Nat):(a.add j).block=a.block:=by unfold Addr.add;split<;>rfl
mutual
theorem Rd.keep {w w':World} {v:Value} {c:C} {S:List Nat} (h:Rd w v c S) (e: ∀b∈S,w'.heap[b]? =w.heap[b]?):Rd w' v c S:=by
 cases h with
 | int k n=>exact .int k n
 | bool b=>exact .bool b
 | str s=>exact .str s
 | raw v d=>exact .raw v d
 | any v d=>exact .any v d
 | nil sz=>exact .nil sz
 | row a n cap sz vs cs S hl f g i=>refine .row a n cap sz vs cs S hl f ?_ (i.keep λb l=>e b (An.2 (.inr l)));intro j m;rw[<-g j m];refine zl7 ?_;rw[add_block];grind
theorem Rds.keep {w w':World} {vs:List Value} {cs:List C} {S:List Nat} (h:Rds w vs cs S) (d: ∀b∈S,w'.heap[b]? =w.heap[b]?):Rds w' vs cs S:=by
 cases h with
 | nil=>exact .nil
 | cons v c S vs cs T e f=>exact .cons v c S vs cs T (e.keep λb a=>d b (An.2 (.inl a))) (f.keep λb a=>d b (An.2 (.inr a)))
end
mutual
theorem Ow.keep {w w':World} {v:Value} {c:C} {S:List Nat} (h:Ow w v c S) (d: ∀b∈S,w'.heap[b]? =w.heap[b]?):Ow w' v c S:=by
 cases h with
 | int k n=>exact .int k n
 | bool b=>exact .bool b
 | str s=>exact .str s
 | raw v a=>exact .raw v a
 | any v a=>exact .any v a
 | nil sz=>exact .nil sz
 | row b n cap e sz cur vs cs S f g i hs j l=>exact .row b n cap e sz cur vs cs S ((d b (Bp.2 (.inl rfl))).trans f) g i hs j (l.keep λb m=>d b (Bp.2 (.inr m)))
theorem Ows.keep {w w':World} {vs:List Value} {cs:List C} {S:List Nat} (h:Ows w vs cs S) (d: ∀b∈S,w'.heap[b]? =w.heap[b]?):Ows w' vs cs S:=by
 cases h with
 | nil=>exact .nil
 | cons v c S vs cs T e f=>exact .cons v c S vs cs T (e.keep λb a=>d b (An.2 (.inl a))) (f.keep λb a=>d b (An.2 (.inr a)))
end
def Rds.length {w:World} {vs:List Value} {cs:List C} {S:List Nat} (h:Rds w vs cs S):vs.length=cs.length:=by
 induction cs generalizing vs S with
 | nil=>cases h;rfl
 | cons c cs ih=>cases h with | cons v c S vs cs T b a=>simp[ih a]
def Ows.length {w:World} {vs:List Value} {cs:List C} {S:List Nat} (h:Ows w vs cs S):vs.length=cs.length:=by
 induction cs generalizing vs S with
 | nil=>cases h;rfl
 | cons c cs ih=>cases h with | cons v c S vs cs T b a=>simp[ih a]
mutual
theorem Ow.rd {w:World} {v:Value} {c:C} {S:List Nat} (h:Ow w v c S): ∃T,Rd w v c T/\∀b∈T,b∈S:=by
 cases h with
 | int k n=>exact ⟨[],.int k n,by simp⟩
 | bool b=>exact ⟨[],.bool b,by simp⟩
 | str s=>exact ⟨[],.str s,by simp⟩
 | raw v a=>exact ⟨[],.raw v a,by simp⟩
 | any v a=>exact ⟨[],.any v a,by simp⟩
 | nil sz=>exact ⟨[],.nil sz,by simp⟩
 | row b n cap e sz cur vs cs S f d o hs g i=>
   obtain ⟨T,A,p⟩:=i.rds;have q:n*sz<=cap*sz:=Nat.mul_le_mul_right _ d;refine ⟨_,.row ⟨b,0,none⟩ n cap sz vs cs T ?_ d ?_ A,?_⟩
   ·grind
   ·intro j l;have m:(⟨b,0,none⟩:Addr).add j=⟨b,j,none⟩:=by unfold Addr.add;split<;>simp_all
    rw[m,cell_of_row w b j cur e (0,0) f,<-g,List.getElem?_take,if_pos l];simp
   ·grind
theorem Ows.rds {w:World} {vs:List Value} {cs:List C} {S:List Nat} (h:Ows w vs cs S): ∃T,Rds w vs cs T/\∀b∈T,b∈S:=by
 cases h with
 | nil=>exact ⟨[],.nil,by simp⟩
 | cons v c S vs cs T a d=>obtain ⟨A,D,hs⟩:=a.rd;obtain ⟨B,E,e⟩:=d.rds;refine ⟨_,.cons v c A vs cs B D E,?_⟩;grind
end
def Rds.append {us:List Value} {T:List Nat} (h:Rds w vs cs S) (k:Rds w us ds T):Rds w (vs++us) (cs++ds) (S++T):=by
 induction cs generalizing vs S with
 | nil=>cases h;exact k
 | cons c cs ih=>cases h with | cons v c S vs cs U a b=>rw[Bt];exact .cons v c S _ _ _ a (ih b)
def Ows.append {us:List Value} {T:List Nat} (h:Ows w vs cs S) (k:Ows w us ds T):Ows w (vs++us) (cs++ds) (S++T):=by
 induction cs generalizing vs S with
 | nil=>cases h;exact k
 | cons c cs ih=>cases h with | cons v c S vs cs U a b=>rw[Bt];exact .cons v c S _ _ _ a (ih b)
def Rds.split (h:Rds w vs (cs++ds) S):
    ∃A B,S=A++B/\Rds w (vs.take cs.length) cs A/\Rds w (vs.drop cs.length) ds B:=by
 induction cs generalizing vs S with
 | nil=>exact ⟨[],S,rfl,.nil,by simpa using h⟩
 | cons c cs ih=>
   cases h with
   | cons v c S vs cs' U a b=>obtain ⟨A,B,rfl,d,e⟩:=ih b;exact ⟨S++A,B,by simp,by simpa using Rds.cons v c S _ _ A a d,by simpa using e⟩
def Ows.split (h:Ows w vs (cs++ds) S):
    ∃A B,S=A++B/\Ows w (vs.take cs.length) cs A/\Ows w (vs.drop cs.length) ds B:=by
 induction cs generalizing vs S with
 | nil=>exact ⟨[],S,rfl,.nil,by simpa using h⟩
 | cons c cs ih=>
   cases h with
   | cons v c S vs cs' U a b=>obtain ⟨A,B,rfl,d,e⟩:=ih b;exact ⟨S++A,B,by simp,by simpa using Ows.cons v c S _ _ A a d,by simpa using e⟩
mutual
theorem Rd.lt {w:World} {v:Value} {c:C} {S:List Nat} (h:Rd w v c S): ∀b∈S,b<w.heap.size:=by
 cases h with
 | int k n=>simp
 | bool b=>simp
 | str s=>simp
 | raw v f=>simp
 | any v f=>simp
 | nil sz=>simp
 | row a n cap sz vs cs S hl l g i=>
   intro b d;rcases An.1 d with d | d
   ·split at d
    ·trivial
    ·rename_i m;have e:=g 0 (by omega);have j:vs[0]? =some (vs[0]'(by omega)):=Bm (by omega);rw[j]at e;have:=World.block_lt_of_cell? w _ e;rw[add_block]at this;simp_all
   ·exact i.lt b d
theorem Rds.lt {w:World} {vs:List Value} {cs:List C} {S:List Nat} (h:Rds w vs cs S): ∀b∈S,b<w.heap.size:=by
 cases h with
 | nil=>simp
 | cons v c S vs cs T d e=>
   intro b a;rcases An.1 a with a | a
   ·exact d.lt b a
   ·exact e.lt b a
end
mutual
theorem Ow.lt {w:World} {v:Value} {c:C} {S:List Nat} (h:Ow w v c S): ∀b∈S,b<w.heap.size:=by
 cases h with
 | int k n=>simp
 | bool b=>simp
 | str s=>simp
 | raw v d=>simp
 | any v d=>simp
 | nil sz=>simp
 | row b n cap e sz cur vs cs S g i j hs l f=>
   intro x a;rcases Bp.1 a with rfl | a
   ·grind
   ·exact f.lt x a
theorem Ows.lt {w:World} {vs:List Value} {cs:List C} {S:List Nat} (h:Ows w vs cs S): ∀b∈S,b<w.heap.size:=by
 cases h with
 | nil=>simp
 | cons v c S vs cs T d e=>
   intro b a;rcases An.1 a with a | a
   ·exact d.lt b a
   ·exact e.lt b a
end
inductive Item where
 | box (b:Nat) (t:TypeId) (vs:List Value)
 | own (v:Value) (c:C)
 | ows (us:List Value) (cs:List C)
 | buf (v:Value) (e:TypeId) (l:List UInt8)
 | frz (v:Value) (e:TypeId) (l:List UInt8)
 | alt (v:Value) (c:C) (vp:Value) (cp:C)
 | pmap (b:Nat) (l:List (Value × Value)) (p:Prop)
 | pool (Ws:List Value) (cs:List C) (ps:List (Value × C))
 | shw (v:Value) (c:C) (ps:List (Value × C))
variable {is:List Item}
structure Pool (w:World) (Ws:List Value) (cs:List C) (ps:List (Value × C)) (S:List Nat):Prop where
 lt: ∀b∈S,b<w.heap.size
 rds: ∃F,Rds w Ws cs F/\∀b∈F,b∈S
 prs: ∀p∈ps,∃F,Rd w p.1 p.2 F/\∀b∈F,b∈S
theorem Pool.keep {w w':World} {A:List Value} {cs:List C} {ps:List (Value × C)} {S:List Nat} (h:Pool w A cs ps S) (c: ∀b∈S,w'.heap[b]? =w.heap[b]?):Pool w' A cs ps S:=by
 obtain ⟨k,⟨F,f,d⟩,g⟩:=h;refine ⟨λb a=>?_,⟨F,f.keep λb a=>c b (d b a),d⟩,λp i=>?_⟩
 ·grind
 ·obtain ⟨F,j,e⟩:=g p i;exact ⟨F,j.keep λb a=>c b (e b a),e⟩
def Buf (w:World) (v:Value) (e:TypeId) (l:List UInt8) (S:List Nat):Prop:=
 (v= .slice none 0 0/\l= []/\S= [])\/∃g cap cur,v= .slice (some ⟨g,0,none⟩) l.length cap/\w.heap[g]? =some (.cells cur e (0,0))/\l.length<=cap/\cap<=maxLen/\cur.size=cap/\
   cur.toList.take l.length=l.map (λx=>Value.int .u8 x.toNat)/\S= [g]
def Frz (w:World) (v:Value) (e:TypeId) (l:List UInt8) (S:List Nat):Prop:=
 ∃g cap cur,v= .slice (some ⟨g,0,none⟩) l.length cap/\w.heap[g]? =some (.cells cur e (cap,cap+1))/\l.length<=cap/\cur.size=cap/\cur.toList.take l.length=l.map (λx=>Value.int .u8 x.toNat)/\S= [g]
def Item.sat (w:World):Item->List Nat->Prop
 | .box b t vs,S=>S= [b]/\w.heap[b]? =some (.cells vs.toArray t (0,0))
 | .own v c,S=>Ow w v c S
 | .ows us cs,S=>Ows w us cs S
 | .buf v e l,S=>Buf w v e l S
 | .frz v e l,S=>Frz w v e l S
 | .alt v c vp cp,S=>Ow w v c S\/(S= []/\v=vp/\c=cp)
 | .pmap b l p,S=>S= [b]/\(∃E h,w.heap[b]? =some (.map E h)/\E.toList.map (λe=>(e.key,e.val))=l)/\p
 | .pool D cs ps,S=>Pool w D cs ps S
 | .shw v c ps,S=>∃D cs A B,c= .sl 1 cs.length cs/\S=A++B/\Ow w v (.sl 1 D.length (D.map .raw)) A/\Pool w D cs ps B
def Item.sat_keep {i:Item} (h:i.sat w S) (a: ∀b∈S,w'.heap[b]? =w.heap[b]?):i.sat w' S:=by
 cases i with
 | box b t vs=>exact ⟨h.1,(a b (by rw[h.1];exact Bf.2 rfl)).trans h.2⟩
 | own v c=>exact Ow.keep h a
 | ows us cs=>exact Ows.keep h a
 | buf v e l=>
   rcases h with h | ⟨g,cap,cur,d,k,f,j,n,m,q⟩
   ·exact .inl h
   ·exact .inr ⟨g,cap,cur,d,(a g (by rw[q];exact Bf.2 rfl)).trans k,f,j,n,m,q⟩
 | frz v e l=>obtain ⟨g,cap,cur,d,k,f,j,n,m⟩:=h;exact ⟨g,cap,cur,d,(a g (by rw[m];exact Bf.2 rfl)).trans k,f,j,n,m⟩
 | alt v c I G=>exact h.imp (λh=>Ow.keep h a) id
 | pmap b l p=>obtain ⟨d,⟨F,D,k,f⟩,j⟩:=h;exact ⟨d,⟨F,D,(a b (by rw[d];exact Bf.2 rfl)).trans k,f⟩,j⟩
 | pool E cs ps=>exact Pool.keep h a
 | shw v c ps=>obtain ⟨E,cs,A,B,d,rfl,f,j⟩:=h;exact ⟨E,cs,A,B,d,rfl,f.keep λb o=>a b (An.2 (.inl o)),j.keep λb o=>a b (An.2 (.inr o))⟩
theorem Item.sat_lt {i:Item} (h:i.sat w S): ∀b∈S,b<w.heap.size:=by
 cases i with
 | box b t vs=>intro x a;rw[h.1,Bf]at a;subst a;exact (Array.getElem?_eq_some_iff.1 h.2).1
 | own v c=>exact Ow.lt h
 | ows us cs=>exact Ows.lt h
 | buf v e l=>
   rcases h with ⟨_,_,h⟩ | ⟨g,cap,cur,j,k,d,f,m,n,o⟩
   ·simp_all
   ·grind
 | frz v e l=>obtain ⟨g,cap,cur,j,k,d,f,m,n⟩:=h;grind
 | alt v c I F=>
   rcases h with h | h
   ·exact Ow.lt h
   ·simp_all
 | pmap b l p=>obtain ⟨j,⟨G,D,k,d⟩,f⟩:=h;grind
 | pool E cs ps=>exact h.lt
 | shw v c ps=>
   obtain ⟨E,cs,A,B,j,rfl,d,f⟩:=h;intro x a;rcases An.1 a with a | a
   ·exact d.lt x a
   ·exact f.lt x a
def sats (w:World):List Item->List Nat->Prop
 | [],S=>S= []
 | i::r,S=>∃A B,S=A++B/\i.sat w A/\sats w r B
def zgI {w w':World} : ∀{is:List Item} {S:List Nat},sats w is S->(∀b∈S,w'.heap[b]? =w.heap[b]?)->sats w' is S
 | [],_,h,_=>h
 | _::_,_,⟨A,B,hS,d,e⟩,c=>⟨A,B,hS,Item.sat_keep d (λb a=>c b (by rw[hS];exact An.2 (.inl a))),zgI e (λb a=>c b (by rw[hS];exact An.2 (.inr a)))⟩
def zfA {w:World} : ∀{is:List Item} {S:List Nat},sats w is S->∀b∈S,b<w.heap.size
 | [],_,h,b,a=>by rw[show _= [] from h]at a;cases a
 | _::_,_,⟨A,B,hS,c,d⟩,b,a=>by
   rw[hS]at a;rcases An.1 a with a | a
   ·exact Item.sat_lt c b a
   ·exact zfA d b a
def zb5 {w:World} : ∀{is js:List Item} {S:List Nat},sats w (is++js) S↔∃A B,S=A++B/\sats w is A/\sats w js B
 | [],js,S=>⟨λh=>⟨[],S,rfl,rfl,h⟩,λ⟨A,B,E,a,b⟩=>by rw[show A= [] from a]at E;rw[E];exact b⟩
 | i::is,js,S=>by
   constructor
   ·rintro ⟨A,B,rfl,a,b⟩;obtain ⟨D,F,rfl,c,d⟩:=zb5.1 b;exact ⟨A++D,F,by simp,⟨A,D,rfl,a,c⟩,d⟩
   ·rintro ⟨A,B,rfl,⟨A1,A2,rfl,a,b⟩,c⟩;exact ⟨A1,A2++B,by simp,a,zb5.2 ⟨A2,B,rfl,b,c⟩⟩
structure St (w0:World) (S0:List Nat) (is:List Item) (w:World):Prop where
 os:w.os=w0.os
 tape:w.tape=w0.tape
 output:w.output=w0.output
 size:w0.heap.size<=w.heap.size
 base: ∀b,b<w0.heap.size->b∉S0->w.heap[b]? =w0.heap[b]?
 own: ∃S,sats w is S/\S.Nodup/\∀b∈S,b∈S0\/w0.heap.size<=b
def St.start {w0:World} {S0:List Nat} (h:sats w0 is S0) (a:S0.Nodup):St w0 S0 is w0:=
 ⟨rfl,rfl,rfl,By _,λ_ _ _=>rfl,S0,h,a,λ_ b=>.inl b⟩
def St.nil (w0:World):St w0 [] [] w0:=St.start rfl Cg
structure Chg (w w':World) (A:List Nat):Prop where
 os:w'.os=w.os
 tape:w'.tape=w.tape
 output:w'.output=w.output
 size:w.heap.size<=w'.heap.size
 keep: ∀b,b<w.heap.size->b∉A->w'.heap[b]? =w.heap[b]?
def Chg.refl (w:World) (A:List Nat):Chg w w A:=⟨rfl,rfl,rfl,By _,λ_ _ _=>rfl⟩
def Chg.alloc (w:World) (o:Obj) (A:List Nat):Chg w (w.alloc o) A:=
 ⟨rfl,rfl,rfl,by simp,λ_ a _=>heap_alloc_old w o a⟩
def Chg.drew (w:World) (A:List Nat):Chg w w.drew A:=⟨rfl,rfl,rfl,By _,λ_ _ _=>rfl⟩
theorem St.step {w0:World} {S0:List Nat} {js r:List Item} (h:St w0 S0 (is++r) w) (hs: ∀A,sats w is A->A.Nodup->∃D,Chg w w' A/\sats w' js D/\D.Nodup/\∀b∈D,b∈A\/w.heap.size<=b):St w0 S0 (js++r) w':=by
 obtain ⟨os,tape,output,size,base,S,O,f,j⟩:=h;obtain ⟨A,B,rfl,d,e⟩:=zb5.1 O;obtain ⟨F,I,g⟩:=Bw.1 f;obtain ⟨D,a,i,k,M⟩:=hs A d F;have E:=zfA e;have G:=zfA d;have N:sats w' r B:=zgI e λb c=>a.keep b (E b c) (λJ=>g b J b c rfl);refine ⟨a.os.trans os,a.tape.trans tape,a.output.trans output,Nat.le_trans size a.size,?_,D++B,zb5.2 ⟨D,B,rfl,i,N⟩,?_,?_⟩
 ·intro b c l;rw[a.keep b (Nat.lt_of_lt_of_le c size) ?_]
  ·simp_all
  ·grind
 ·grind
 ·grind
def St.same {w0:World} {S0:List Nat} (h:St w0 S0 is w) (a:Chg w w' []):St w0 S0 is w':=by have:=St.step (is:=[]) (js:=[]) (r:=is) (w':=w') h (λA B _=>⟨[],⟨a.os,a.tape,a.output,a.size,λb c _=>a.keep b c (by simp)⟩,rfl,Cg,by simp⟩);trivial
def St.add {w0:World} {S0:List Nat} (h:St w0 S0 is w) (a:Chg w w' []) (i:Item) (B:List Nat) (hi:i.sat w' B) (d:B.Nodup) (D: ∀b∈B,w.heap.size<=b):
    St w0 S0 (i::is) w':=
 St.step (is:=[]) (js:=[i]) (r:=is) (w':=w') h (λA _ _=>⟨B,⟨a.os,a.tape,a.output,a.size,λb c _=>a.keep b c (by simp)⟩,⟨B,[],by simp,hi,rfl⟩,d,λb c=>.inr (D b c)⟩)
def pull:Nat->List Item->Option (Item × List Item)
 | _,[]=>none
 | 0,i::r=>some (i,r)
 | k+1,i::r=>match pull k r with
   | some (j,r')=>some (j,i::r')
   | none=>none
theorem zq7: ∀{k:Nat} {is:List Item} {i:Item} {r:List Item} {S:List Nat},pull k is=some (i,r)->sats w is S->
 ∃A B,i.sat w A/\sats w r B/\(A++B).Perm S:=by
 intro k;induction k with
 | zero=>
   intro is i r S a hs;cases is with
   | nil=>simp[pull]at a
   | cons j is=>simp only[pull,Ba,Bl]at a;obtain ⟨rfl,rfl⟩:=a;obtain ⟨A,B,rfl,c,d⟩:=hs;grind
 | succ k ih=>
   intro is i r S a hs;cases is with
   | nil=>simp[pull]at a
   | cons j is=>
     obtain ⟨A,B,rfl,c,d⟩:=hs;simp only[pull]at a;cases b:pull k is with
     | none=>rw[b]at a;simp at a
     | some x=>obtain ⟨E,F⟩:=x;rw[b]at a;simp only[Ba,Bl]at a;obtain ⟨rfl,rfl⟩:=a;obtain ⟨D,h,e,f,g⟩:=ih b d;refine ⟨D,A++h,e,⟨A,h,rfl,c,f⟩,?_⟩;grind
def pulls:List Nat->List Item->Option (List Item)
 | [],_=>some []
 | k::ks,is=>match pull k is with
   | some (i,r)=>match pulls ks r with
     | some js=>some (i::js)
     | none=>none
   | none=>none
theorem zpf: ∀{D:List Nat} {is js:List Item} {S:List Nat},pulls D is=some js->sats w is S->
 ∃A B,sats w js A/\(A++B).Perm S:=by
 intro D;induction D with
 | nil=>intro is js S a hs;simp only[pulls,Ba]at a;subst a;exact ⟨[],S,rfl,.refl _⟩
 | cons k D ih=>
   intro is js S a hs;simp only[pulls]at a;cases b:pull k is with
   | none=>rw[b]at a;simp at a
   | some x=>
     obtain ⟨i,r⟩:=x;rw[b]at a;simp only at a;cases c:pulls D r with
     | none=>rw[c]at a;simp at a
     | some G=>rw[c]at a;simp only[Ba]at a;subst a;obtain ⟨A,B,d,e,g⟩:=zq7 b hs;obtain ⟨E,F,f,h⟩:=ih c e;refine ⟨A++E,F,⟨A,E,rfl,d,f⟩,?_⟩;grind
def St.pulls {w0 w:World} {S0:List Nat} {is js:List Item} (h:St w0 S0 is w) (E:List Nat) (c:Sl.pulls E is=some js):St w0 S0 js w:=by obtain ⟨os,tape,output,size,base,S,D,d,e⟩:=h;obtain ⟨A,B,f,a⟩:=zpf c D;have g:(A++B).Nodup:=a.nodup_iff.2 d;exact ⟨os,tape,output,size,base,A,f,(Bw.1 g).1,λb i=>e b (a.mem_iff.1 (An.2 (.inl i)))⟩
def Base (w0:World) (S0:List Nat) (v:Value) (c:C):Prop:=∃F,Rd w0 v c F/\∀b∈F,b∉S0
def Can (w0:World) (S0:List Nat) (is:List Item) (v:Value) (c:C):Prop:=
 ∀w S,sats w is S->(∀b,b<w0.heap.size->b∉S0->w.heap[b]? =w0.heap[b]?)->∃F,Rd w v c F/\∀b∈F,(b<w0.heap.size/\b∉S0)\/b∈S
def Base.can {w0:World} {S0:List Nat} {c:C} (h:Base w0 S0 v c):Can w0 S0 is v c:=by obtain ⟨F,B,a⟩:=h;exact λw S _ d=>⟨F,B.keep λb A=>d b (B.lt b A) (a b A),λb A=>.inl ⟨B.lt b A,a b A⟩⟩
theorem zcc: ∀{k:Nat} {is:List Item} {i:Item} {S:List Nat},is[k]? =some i->sats w is S->∃A,i.sat w A/\∀b∈A,b∈S:=by
 intro k;induction k with
 | zero=>
   intro is i S hi hs;cases is with
   | nil=>simp at hi
   | cons j is=>simp only[List.getElem?_cons_zero,Ba]at hi;subst hi;obtain ⟨A,B,rfl,a,c⟩:=hs;grind
 | succ k ih=>
   intro is i S hi hs;cases is with
   | nil=>simp at hi
   | cons j is=>simp only[List.getElem?_cons_succ]at hi;obtain ⟨A,B,rfl,a,c⟩:=hs;grind
theorem Can.own {w0:World} {S0:List Nat} {is:List Item} {v:Value} {c:C} (k:Nat) (h:is[k]? =some (.own v c)):Can w0 S0 is v c:=by intro w S hs _;obtain ⟨A,B,a⟩:=zcc h hs;obtain ⟨T,D,b⟩:=Ow.rd B;grind
theorem Can.alt {w0:World} {S0:List Nat} {is:List Item} {v E:Value} {c D:C} (k j:Nat) (h:is[k]? =some (.alt v c E D)) (a:is[j]? =some (.own E D)):Can w0 S0 is v c:=by
 intro w S hs b;obtain ⟨A,B,d⟩:=zcc h hs;rcases B with B | ⟨_,rfl,rfl⟩
 ·obtain ⟨T,F,e⟩:=Ow.rd B;grind
 ·exact Can.own j a w S hs b
def Can.plain {w0:World} {S0:List Nat} {c:C} (h: ∀w,Rd w v c []):Can w0 S0 is v c:=
 λw _ _ _=>⟨[],h w,by simp⟩
theorem Can.get {w0:World} {S0:List Nat} {c:C} (h:Can w0 S0 is v c) (hs:St w0 S0 is w): ∃F,Rd w v c F:=by obtain ⟨_,_,_,_,base,S,A,_,_⟩:=hs;obtain ⟨F,B,_⟩:=h w S A base;grind
theorem Can.pulls {w0:World} {S0:List Nat} {is js:List Item} {v:Value} {c:C} (h:Can w0 S0 js v c) (D:List Nat) (a:Sl.pulls D is=some js):Can w0 S0 is v c:=by intro w S hs b;obtain ⟨A,B,d,e⟩:=zpf a hs;obtain ⟨F,E,f⟩:=h w A d b;grind
abbrev Fr:=List (Nat × Value)
variable {fr:Fr}
def lk (k:Nat):Fr->Option Value
 | []=>none
 | (j,v)::r=>bif Bo k j then some v else lk k r
structure FrOk (n:Nat) (fr:Fr) (a:Act):Prop where
 size:a.tmps.size=n
 defers:a.defers= []
 get: ∀k v,lk k fr=some v->a.tmps[k]? =some v
def ev (fr:Fr):Operand->Option Value
 | .tmp t=>lk t fr
 | .const v=>some v
 | .global g=>some (.pointer (some ⟨g,0,none⟩))
 | .func f=>some (.func (.func f) #[] #[])
def evs (fr:Fr):List Operand->Option (List Value)
 | []=>some []
 | o::r=>match ev fr o with
   | some v=>match evs fr r with
     | some vs=>some (v::vs)
     | none=>none
   | none=>none
def FrOk.eval {n:Nat} {fr:Fr} {a:Act} {o:Operand} {v:Value} (h:FrOk n fr a) (e:ev fr o=some v):a.eval o=v:=by
 cases o with
 | tmp t=>have:=h.get t v e;simp[Act.eval,Array.getD_eq_getD_getElem?,this]
 | _=>simpa[ev,Act.eval] using e
def FrOk.evals {n:Nat} {fr:Fr} {a:Act} : ∀{os:List Operand} {vs:List Value},FrOk n fr a->evs fr os=some vs->os.map a.eval=vs
 | [],vs,_,e=>by simpa[evs] using e
 | o::os,vs,h,e=>by
   unfold evs at e;cases b:ev fr o with
   | none=>rw[b]at e;cases e
   | some v=>
     cases c:evs fr os with
     | none=>rw[b,c]at e;cases e
     | some us=>rw[b,c]at e;simp only[Ba]at e;subst e;simp[h.eval b,FrOk.evals h c]
theorem FrOk.put {n:Nat} {fr:Fr} {a:Act} (h:FrOk n fr a) {d:Nat} (c:Cj d n=true) (v:Value):FrOk n ((d,v)::fr) (a.put (some d) v):=by
 have g:d<n:=by simpa using c
 refine ⟨by simp[Act.put,h.size],h.defers,?_⟩;intro k u b;simp only[lk]at b;by_cases e:k=d
 ·subst e;have:Bo k k=true:=by simp
  rw[this]at b;simp only[cond_true,Ba]at b;subst b;have hs:=h.size;simp only[Act.put];simp_all
 ·have:Bo k d=false:=by
   cases f:Bo k d with
   | false=>rfl
   | true=>exact absurd (by simpa using f) e
  rw[this]at b;simp only[cond_false]at b;have:=h.get k u b;simp only[Act.put];grind
def Sub:Fr->Fr->Prop
 | [],_=>True
 | (k,v)::r,fr=>lk k fr=some v/\Sub r fr
def FrOk.sub {fr':Fr} {a:Act} (h:FrOk n fr a) (hs:Sub fr' fr):FrOk n fr' a:=by
 refine ⟨h.size,h.defers,?_⟩;intro k v b;refine h.get k v ?_;clear h;induction fr' with
 | nil=>simp[lk]at b
 | cons x r ih=>
   obtain ⟨j,u⟩:=x;obtain ⟨c,d⟩:=hs;simp only[lk]at b;cases e:Bo k j with
   | true=>simp_all
   | false=>simp_all
def argFr:Nat->List Value->Fr
 | _,[]=>[]
 | k,v::r=>(k,v)::argFr (k+1) r
theorem zsl: ∀(vs:List Value) (k j:Nat) (v:Value),lk j (argFr k vs)=some v->k<=j/\vs[j - k]? =some v
 | [],_,_,_,h=>by simp[argFr,lk]at h
 | u::r,k,j,v,h=>by
   simp only[argFr,lk]at h;cases a:Bo j k with
   | true=>simp_all
   | false=>rw[a]at h;simp only[cond_false]at h;obtain ⟨b,c⟩:=zsl r (k+1) j v h;grind
theorem FrOk.enter (args:List Value) (n:Nat) (h:args.length<=n):
 FrOk n (argFr 0 args) {tmps:=args.toArray++Array.replicate (n - args.toArray.size) undef,defers:=[]}:=by refine ⟨by simp;omega,rfl,?_⟩;intro k v a;have:=(zsl args 0 k v a).2;grind
section
variable (P:Program) (w0:World) (S0:List Nat)
def TW (m:Option R) (n:Nat) (fr:Fr) (is:List Item) (c:Code) (Q:R->Exit->Act->World->Prop):Prop:=
 ∀r,m=some r->∀a w,FrOk n fr a->St w0 S0 is w->c.wp P (Q r) a w
def TO (m:Option R) (n:Nat) (fr:Fr) (is:List Item) (ops:Array Oper) (l:List Oper) (Q:R->Exit->Act->World->Prop):Prop:=
 ∀r,m=some r->∀a w,FrOk n fr a->St w0 S0 is w->wpList P ops (Q r) l a w
def TE (m:Option R) (n:Nat) (fr:Fr) (is:List Item) (e:Exit) (Q:R->Exit->Act->World->Prop):Prop:=
 ∀r,m=some r->∀a w,FrOk n fr a->St w0 S0 is w->Q r e a w
end
section
variable {P:Program} {w0:World} {S0:List Nat} {m:Option R}
def TW.seq {x y:Code} (h:TW P w0 S0 m n fr is x (λr=>Exit.then (y.wp P (Q r)) (Q r))):TW P w0 S0 m n fr is (.seq x y) Q:=
 λr b a w c hs=>wp_seq (h r b a w c hs)
def TW.region {id:Nat} {l:List Oper} (h:TO P w0 S0 m n fr is l.toArray l Q):TW P w0 S0 m n fr is (.region id l.toArray false) Q:=
 λr b a w c hs=>wp_region_lit (h r b a w c hs)
def TO.nil (h:TE w0 S0 m n fr is .normal Q):TO P w0 S0 m n fr is ops [] Q:=h
def TE.next {y:Code} {Q':R->Exit->Act->World->Prop} (h:TW P w0 S0 m n fr is y Q):TE w0 S0 m n fr is .normal (λr=>Exit.then (y.wp P (Q r)) (Q' r)):=h
def TW.block {id:Nat} {c:Code} (h:TW P w0 S0 m n fr is c (λr=>Exit.inBlock id (Q r))):TW P w0 S0 m n fr is (.block id c) Q:=
 λr b a w d hs=>wp_block (h r b a w d hs)
def TW.skip (h:TE w0 S0 m n fr is .normal Q):TW P w0 S0 m n fr is .skip Q:=
 λr b a w c hs=>wp_skip (h r b a w c hs)
def TW.ret (h:TE w0 S0 m n fr is .ret Q):TW P w0 S0 m n fr is .ret Q:=
 λr b a w c hs=>wp_ret (h r b a w c hs)
def TW.exit {id:Nat} (h:TE w0 S0 m n fr is (.exit id) Q):TW P w0 S0 m n fr is (.exit id) Q:=
 λr b a w c hs=>wp_exit (h r b a w c hs)
def TW.cond {c:Operand} {x y:Code} {b:Bool} {m1 m2:Option R} (g:ev fr c=some (.bool b)) (h:b=true->TW P w0 S0 m1 n fr is x Q) (i:b=false->TW P w0 S0 m2 n fr is y Q):
    TW P w0 S0 (if b=true then m1 else m2) n fr is (.cond c x y) Q:=by
 intro r e a w d hs;have f:=d.eval g;cases b with
 | true=>exact wp_cond_true f (h rfl r (by simpa using e) a w d hs)
 | false=>exact wp_cond_false f (i rfl r (by simpa using e) a w d hs)
def TW.cond_true {x y:Code} (d:ev fr c=some (.bool true)) (e:TW P w0 S0 m n fr is x Q):TW P w0 S0 m n fr is (.cond c x y) Q:=
 λr f a w b hs=>wp_cond_true (b.eval d) (e r f a w b hs)
def TW.cond_false {x y:Code} (d:ev fr c=some (.bool false)) (e:TW P w0 S0 m n fr is y Q):TW P w0 S0 m n fr is (.cond c x y) Q:=
 λr f a w b hs=>wp_cond_false (b.eval d) (e r f a w b hs)
def TO.bind {X:Type} {p:Option X} {k:X->Option R} {ops:Array Oper} {l:List Oper} (h: ∀x,p=some x->TO P w0 S0 (k x) n fr is ops l Q):
    TO P w0 S0 (p.bind k) n fr is ops l Q:=by
 intro r b a w c hs;cases p with
 | none=>cases b
 | some x=>exact h x rfl r b a w c hs
def TW.bind {X:Type} {p:Option X} {k:X->Option R} {c:Code} (h: ∀x,p=some x->TW P w0 S0 (k x) n fr is c Q):
    TW P w0 S0 (p.bind k) n fr is c Q:=by
 intro r b a w d hs;cases p with
 | none=>cases b
 | some x=>exact h x rfl r b a w d hs
def TE.leaf {r:R} {e:Exit} (h: ∀a w,FrOk n fr a->St w0 S0 is w->Q r e a w):TE w0 S0 (some r) n fr is e Q:=by intro A b a w c hs;simp_all
end
inductive Ctl (σ ρ:Type) where
 | go (s:σ)
 | done (r:ρ)
def loopN {σ ρ:Type} (body:σ->Option (Ctl σ ρ)):Nat->σ->Option ρ
 | 0,_=>none
 | k+1,s=>match body s with
   | some (.go s')=>loopN body k s'
   | some (.done r)=>some r
   | none=>none
def zll {σ ρ:Type} {body:σ->Option (Ctl σ ρ)} : ∀{k j:Nat} {s:σ} {r:ρ},loopN body k s=some r->k<=j->loopN body j s=some r
 | 0,_,_,_,h,_=>by simp[loopN]at h
 | k+1,0,_,_,_,a=>by omega
 | k+1,j+1,s,r,h,a=>by
   unfold loopN at h |-
   split at h
   ·exact zll h (by omega)
   ·exact h
   ·cases h
noncomputable def loopO (body:σ->Option (Ctl σ ρ)) (s:σ):Option ρ:=
 open Classical in if h: ∃k r,loopN body k s=some r then some h.choose_spec.choose else none
theorem zeu {body:σ->Option (Ctl σ ρ)} {s:σ} {r:ρ} :loopO body s=some r↔∃k,loopN body k s=some r:=by
 constructor
 ·intro h;unfold loopO at h;split at h
  ·grind
  ·cases h
 ·rintro ⟨k,b⟩;unfold loopO;have a: ∃k r,loopN body k s=some r:=⟨k,r,b⟩;rw[dif_pos a];have c:=zll a.choose_spec.choose_spec (Nat.le_max_left a.choose k);have d:=zll b (Nat.le_max_right a.choose k);simp_all
def zw (body:σ->Option (Ctl σ ρ)) (s:σ):
    loopO body s=match body s with
     | some (.go h)=>loopO body h
     | some (.done r)=>some r
     | none=>none:=by
 cases b:body s with
 | none=>
   cases c:loopO body s with
   | none=>rfl
   | some r=>
     obtain ⟨k,a⟩:=zeu.1 c
     cases k with
     | zero=>simp[loopN]at a
     | succ k=>unfold loopN at a;rw[b]at a;cases a
 | some x=>
   cases x with
   | done r=>exact zeu.2 ⟨1,by unfold loopN;rw[b]⟩
   | go h=>
     simp only
     cases c:loopO body h with
     | some r=>
       obtain ⟨k,a⟩:=zeu.1 c
       exact zeu.2 ⟨k+1,by unfold loopN;rw[b];exact a⟩
     | none=>
       cases d:loopO body s with
       | none=>rfl
       | some r=>
         obtain ⟨k,a⟩:=zeu.1 d
         cases k with
         | zero=>simp[loopN]at a
         | succ k=>
           unfold loopN at a
           rw[b]at a
           rw[zeu.2 ⟨k,a⟩]at c
           trivial
def bindC {τ:Type} (m:Option (Ctl τ R)) (k:τ->Option R):Option R:=
 m.bind λ| .go t=>k t | .done r=>some r
section
variable {P:Program} {w0:World} {S0:List Nat}
theorem TW.join {τ:Type} {m:Option (Ctl τ R)} {k:τ->Option R} {c:Code} (Mid:τ->Act->World->Prop) (f:TW P w0 S0 m n fr is c (λx e a w=>match x with | .go t=>e= .normal/\Mid t a w | .done r=>Q r e a w)) (h: ∀t a w,Mid t a w->∀r,k t=some r->Q r .normal a w):TW P w0 S0 (bindC m k) n fr is c Q:=by
 intro r b a w g hs;unfold bindC at b;cases d:m with
 | none=>rw[d]at b;cases b
 | some x=>rw[d]at b;simp only[Bz]at b;refine wp_mono (f x d a w g hs) ?_;grind
def TW.loop {σ ρ:Type} {body:σ->Option (Ctl σ ρ)} {s0:σ} {c:Code} {Q:ρ->Exit->Act->World->Prop} (A:σ->Act->World->Prop) (i: ∀a w,FrOk n fr a->St w0 S0 is w->A s0 a w) (o: ∀s x,body s=some x->∀a w,A s a w->c.wp P (λe a w=>match x with | .go I=>e= .normal/\A I a w | .done r=>e≠.normal/\Q r e a w) a w):
    TW P w0 S0 (loopO body s0) n fr is (.loop c) Q:=by
 intro r j a w m hs;obtain ⟨k,p⟩:=zeu.1 j;clear j;have q:=i a w m hs;clear i m hs;intro b G cs;have key: ∀k s a w,loopN body k s=some r->A s a w->
  ∃e D w',Q r e D w'/\Arrives P (lone (b.at a (.code c:: .inLoop c::G)) cs w) b G cs e D w':=by
  intro k
  induction k with
  | zero=>intro s a w h;simp[loopN]at h
  | succ k ih=>
    intro s a w h U;unfold loopN at h;cases g:body s with
    | none=>rw[g]at h;cases h
    | some x=>
      rw[g]at h;obtain ⟨e,J,M,f,d⟩:=o s x g a w U b (.inLoop c::G) cs;cases x with
      | go I=>obtain ⟨rfl,E⟩:=f;obtain ⟨O,N,V,F,B⟩:=ih I J M h E;exact ⟨O,N,V,F,.of_steps (Steps.trans d (.one step_inLoop)) B⟩
      | done Z=>
        simp only[Ba]at h;subst h;obtain ⟨t,f⟩:=f;refine ⟨e,J,M,f,?_⟩;cases e with
        | normal=>exact absurd rfl t
        | exit id=>exact .pass (x:=.inLoop c) rfl (λ_ _=>.inl (by simp)) d
        | goto l=>exact .pass (x:=.inLoop c) rfl (λ_ _=>.inl (by simp)) d
        | ret=>exact .pass (x:=.inLoop c) rfl (λ_ _=>.inl (by simp)) d
        | panic W=>exact .pass (x:=.inLoop c) rfl (λ_ _=>.inl (by simp)) d
        | outgrown=>exact .pass (x:=.inLoop c) rfl (λ_ _=>.inl (by simp)) d
 obtain ⟨e,D,w',f,d⟩:=key k s0 a w p q;exact ⟨e,D,w',f,.of_steps (.one step_loop) d⟩
end
def kindB (P:Program) (t:TypeId):Option (Bool × Nat):=
 match P.underlying t,P.info? t with
 | some (.struct _),some i | some (.array _ _),some i=>some (true,i.size)
 | some _,some i=>some (false,i.size)
 | _,_=>none
def fieldB (P:Program) (s i:Nat):Option Nat:=
 match P.underlying s with
 | some (.struct fs)=>match fs[i]? with
   | some f=>match P.info? f.type with
     | some j=>bif Bo j.size 0 then none else some f.offset
     | none=>none
   | none=>none
 | _=>none
def elemB (P:Program) (t:TypeId):Option (TypeId × Nat × Nat):=
 match P.underlying t with
 | some (.slice e)=>match P.info? e with
   | some i=>some (e,i.size,i.bytes)
   | none=>none
 | _=>none
def zeroB (P:Program) (t:TypeId):Option Value:=(P.info? t).bind (·.zero)
def isStrB (P:Program) (t:TypeId):Bool:=match P.underlying t with | some .string=>true | _=>false
def intB (P:Program) (t:TypeId):Option IntKind:=match P.underlying t with | some (.int k)=>some k | _=>none
theorem zC {P:Program} {t e sz by_:Nat} (h:elemB P t=some (e,sz,by_)):P.underlying t=some (.slice e)/\∃i,P.info? e=some i/\i.size=sz/\i.bytes=by_:=by unfold elemB at h;grind
def zhc {P:Program} {t sz:Nat} {ag:Bool} (h:kindB P t=some (ag,sz)):
    ∃d i,P.underlying t=some d/\P.info? t=some i/\i.size=sz/\∀w,(isAgg t).run P w= .ok ag w:=by
 unfold kindB at h;split at h
 ·rename_i A i c hi;simp only[Ba,Bl]at h;exact ⟨_,i,c,hi,h.2,λw=>by simp[isAgg,run_underlying c,<-h.1]⟩
 ·rename_i a b i c hi;simp only[Ba,Bl]at h;exact ⟨_,i,c,hi,h.2,λw=>by simp[isAgg,run_underlying c,<-h.1]⟩
 ·rename_i d i e f c hi;simp only[Ba,Bl]at h;refine ⟨d,i,c,hi,h.2,λw=>?_⟩;simp only[isAgg,Sem.run_bind,run_underlying c,Result.andThen_ok,<-h.1];rfl
 ·cases h
def Y (P:Program) (w0:World) (S0:List Nat) (n:Nat) (fr:Fr) (is:List Item) (o:Oper) (v:Value):Prop:=
 ∀a w,FrOk n fr a->St w0 S0 is w->(execOp a.eval o).run P w= .ok (.value v) w
section
variable {P:Program} {w0:World} {S0:List Nat} {m:Option R}
variable {dst:Option Nat} {ty:TypeId} {pos:String} {aft:Array Edge} {gd:Option (Nat × Bool)}
def gdv (v:Value) (want:Bool):Bool:=match v with | .bool b=>b == want | _=>false
def Gd (ops:Array Oper) (fr:Fr) (o:Oper) (q:Bool):Prop:=
 match o.guard with
 | none=>q=true
 | some (j,want)=>∃d v,(ops[j]?).bind (·.dst)=some d/\lk d fr=some v/\gdv v want=q
def Gd.wanted {ops:Array Oper} {fr:Fr} {o:Oper} {q:Bool} {n:Nat} {a:Act} (h:Gd ops fr o q) (f:FrOk n fr a):Region.wanted o (yielded ops a.tmps)=q:=by
 unfold Gd at h;unfold Region.wanted;split at h
 ·simp_all
 ·rename_i j want g;obtain ⟨d,v,i,b,c⟩:=h;rw[g];have e:=f.get d _ b;simp only[yielded,i,Bz,e];rw[<-c];clear b c e;cases v<;>rfl
def zu (h:b=true):(b == true)=true:=by rw[h];rfl
def zh (h:b=true):(b == false)=false:=by rw[h];rfl
def zE (h:b=false):(b == true)=false:=by rw[h];rfl
def zf (h:b=false):(b == false)=true:=by rw[h];rfl
def Gd.at {q:Bool} (j:Nat) (want:Bool) (d:Nat) (b:Bool) (a:o.guard=some (j,want)) (c:(ops[j]?).bind (·.dst)=some d) (e:lk d fr=some (.bool b)) (f:(b == want)=q):Gd ops fr o q:=by unfold Gd;rw[a];exact ⟨d,.bool b,c,e,f⟩
def Gd.un (j:Nat) (want:Bool) (d:Nat) (a:o.guard=some (j,want)) (b:(ops[j]?).bind (·.dst)=some d) (c:lk d fr=some undef):Gd ops fr o false:=by unfold Gd;rw[a];exact ⟨d,undef,b,c,rfl⟩
def zmX {Q:Exit->Act->World->Prop} {a:Act} (b:Region.wanted o (yielded ops a.tmps)=true) (h: ∀K:Act->World->Prop,(∀a w,wpList P ops Q rest a w->K a w)->o.wp P a w K Q):wpList P ops Q (o::rest) a w:=
 wpList_step λK A=>by rw[b];exact h K A
def TO.y {d:Nat} (c:Y P w0 S0 n fr is o v) (e:Gd ops fr o true) (f:o.dst=some d) (g:Cj d n=true) (h:TO P w0 S0 m n ((d,v)::fr) is ops rest Q):TO P w0 S0 m n fr is ops (o::rest) Q:=by intro r i a w b hs;refine zmX (e.wanted b) λK A=>?_;unfold Oper.wp;rw[c a w b hs];show K (a.put o.dst v) w;rw[f];exact A _ _ (h r i _ w (b.put g v) hs)
def TO.off {d:Nat} (c:Gd ops fr o false) (e:o.dst=some d) (f:Cj d n=true) (h:TO P w0 S0 m n ((d,undef)::fr) is ops rest Q):TO P w0 S0 m n fr is ops (o::rest) Q:=by intro r g a w b hs;refine wpList_step λK A=>?_;rw[c.wanted b,e];exact A _ _ (h r g _ w (b.put f undef) hs)
def Y.move {x:Operand} {v:Value} (b:ev fr x=some v):Y P w0 S0 n fr is ⟨dst,.move x,ty,pos,aft,gd⟩ v:=by intro a w c _;simp[execOp,c.eval b]
def Y.assign {x:Operand} {v:Value} (b:ev fr x=some v):Y P w0 S0 n fr is ⟨dst,.assign x,ty,pos,aft,gd⟩ v:=by intro a w c _;simp[execOp,c.eval b]
def Y.pick {c x y:Operand} {b:Bool} {u v:Value} (e:ev fr c=some (.bool b)) (f:ev fr x=some u) (g:ev fr y=some v):
    Y P w0 S0 n fr is ⟨dst,.pick c x y,ty,pos,aft,gd⟩ (if b then u else v):=by intro a w d _;simp[execOp,d.eval e,d.eval f,d.eval g,asBool]
def Y.pick_t {y:Operand} {u:Value} (e:b=true) (f:ev fr c=some (.bool b)) (g:ev fr x=some u):
    Y P w0 S0 n fr is ⟨dst,.pick c x y,ty,pos,aft,gd⟩ u:=by intro a w d _;simp[execOp,d.eval f,d.eval g,asBool,e]
def Y.pick_f {y:Operand} {u:Value} (e:b=false) (f:ev fr c=some (.bool b)) (g:ev fr y=some u):
    Y P w0 S0 n fr is ⟨dst,.pick c x y,ty,pos,aft,gd⟩ u:=by intro a w d _;simp[execOp,d.eval f,d.eval g,asBool,e]
section
variable {y:Operand} {p q:Int} {t t':TypeId}
def Y.add (c:ev fr x=some (.int k p)) (d:ev fr y=some (.int k q)):Y P w0 S0 n fr is ⟨dst,.binOp .add t x y t',ty,pos,aft,gd⟩ (.int k (k.wrap (p+q))):=by intro a w b _;simp[execOp,b.eval c,b.eval d,eqGuard,binOp,Op.intArith]
def Y.sub (c:ev fr x=some (.int k p)) (d:ev fr y=some (.int k q)):Y P w0 S0 n fr is ⟨dst,.binOp .sub t x y t',ty,pos,aft,gd⟩ (.int k (k.wrap (p - q))):=by intro a w b _;simp[execOp,b.eval c,b.eval d,eqGuard,binOp,Op.intArith]
def Y.mul (c:ev fr x=some (.int k p)) (d:ev fr y=some (.int k q)):Y P w0 S0 n fr is ⟨dst,.binOp .mul t x y t',ty,pos,aft,gd⟩ (.int k (k.wrap (p*q))):=by intro a w b _;simp[execOp,b.eval c,b.eval d,eqGuard,binOp,Op.intArith]
def Y.quo (c:q≠0) (d:ev fr x=some (.int k p)) (e:ev fr y=some (.int k q)):Y P w0 S0 n fr is ⟨dst,.binOp .quo t x y t',ty,pos,aft,gd⟩ (.int k (k.wrap (p.tdiv q))):=by intro a w b _;simp[execOp,b.eval d,b.eval e,eqGuard,binOp,Op.intDiv,c]
def Y.rem (c:q≠0) (d:ev fr x=some (.int k p)) (e:ev fr y=some (.int k q)):Y P w0 S0 n fr is ⟨dst,.binOp .rem t x y t',ty,pos,aft,gd⟩ (.int k (p.tmod q)):=by intro a w b _;simp[execOp,b.eval d,b.eval e,eqGuard,binOp,Op.intDiv,c]
def Y.lss (c:ev fr x=some (.int k p)) (d:ev fr y=some (.int k q)):Y P w0 S0 n fr is ⟨dst,.binOp .lss t x y t',ty,pos,aft,gd⟩ (.bool (Dc (p<q))):=by intro a w b _;simp[execOp,b.eval c,b.eval d,eqGuard,binOp,Op.intCmp]
def Y.leq (c:ev fr x=some (.int k p)) (d:ev fr y=some (.int k q)):Y P w0 S0 n fr is ⟨dst,.binOp .leq t x y t',ty,pos,aft,gd⟩ (.bool (Dc (p<=q))):=by intro a w b _;simp[execOp,b.eval c,b.eval d,eqGuard,binOp,Op.intCmp]
def Y.gtr (c:ev fr x=some (.int k p)) (d:ev fr y=some (.int k q)):Y P w0 S0 n fr is ⟨dst,.binOp .gtr t x y t',ty,pos,aft,gd⟩ (.bool (Dc (p>q))):=by intro a w b _;simp[execOp,b.eval c,b.eval d,eqGuard,binOp,Op.intCmp]
def Y.geq (c:ev fr x=some (.int k p)) (d:ev fr y=some (.int k q)):Y P w0 S0 n fr is ⟨dst,.binOp .geq t x y t',ty,pos,aft,gd⟩ (.bool (Dc (p>=q))):=by intro a w b _;simp[execOp,b.eval c,b.eval d,eqGuard,binOp,Op.intCmp]
def Y.eql (c:ev fr x=some (.int k p)) (d:ev fr y=some (.int k q)):Y P w0 S0 n fr is ⟨dst,.binOp .eql t x y t',ty,pos,aft,gd⟩ (.bool (Dc (p=q))):=by intro a w b _;simp[execOp,b.eval c,b.eval d,eqGuard,binOp,Op.intCmp];rfl
def Y.neq (c:ev fr x=some (.int k p)) (d:ev fr y=some (.int k q)):Y P w0 S0 n fr is ⟨dst,.binOp .neq t x y t',ty,pos,aft,gd⟩ (.bool (!Dc (p=q))):=by intro a w b _;simp[execOp,b.eval c,b.eval d,eqGuard,binOp,Op.intCmp,bne];rfl
def iand (k:IntKind) (p q:Int):Int:=k.wrap (Bh k.bits p &&& Bh k.bits q).toNat
def ior (k:IntKind) (p q:Int):Int:=k.wrap (Bh k.bits p ||| Bh k.bits q).toNat
def ixor (k:IntKind) (p q:Int):Int:=k.wrap (Bh k.bits p ^^^ Bh k.bits q).toNat
def ishl (k:IntKind) (p q:Int):Int:=k.wrap (p*2 ^ (min q.toNat k.bits))
def ishr (k:IntKind) (p q:Int):Int:=p.fdiv (2 ^ (min q.toNat k.bits))
def Y.and (c:ev fr x=some (.int k p)) (d:ev fr y=some (.int k q)):Y P w0 S0 n fr is ⟨dst,.binOp .and t x y t',ty,pos,aft,gd⟩ (.int k (iand k p q)):=by intro a w b _;simp[execOp,b.eval c,b.eval d,eqGuard,binOp,Op.intBits,iand]
def Y.or (c:ev fr x=some (.int k p)) (d:ev fr y=some (.int k q)):Y P w0 S0 n fr is ⟨dst,.binOp .or t x y t',ty,pos,aft,gd⟩ (.int k (ior k p q)):=by intro a w b _;simp[execOp,b.eval c,b.eval d,eqGuard,binOp,Op.intBits,ior]
def Y.xor (c:ev fr x=some (.int k p)) (d:ev fr y=some (.int k q)):Y P w0 S0 n fr is ⟨dst,.binOp .xor t x y t',ty,pos,aft,gd⟩ (.int k (ixor k p q)):=by intro a w b _;simp[execOp,b.eval c,b.eval d,eqGuard,binOp,Op.intBits,ixor]
def Y.shl {k':IntKind} (e:0<=q) (c:ev fr x=some (.int k p)) (d:ev fr y=some (.int k' q)):Y P w0 S0 n fr is ⟨dst,.binOp .shl t x y t',ty,pos,aft,gd⟩ (.int k (ishl k p q)):=by intro a w b _;simp[execOp,b.eval c,b.eval d,eqGuard,binOp,Op.shift,ishl,show ¬q<0 by omega]
def Y.shr {k':IntKind} (e:0<=q) (c:ev fr x=some (.int k p)) (d:ev fr y=some (.int k' q)):Y P w0 S0 n fr is ⟨dst,.binOp .shr t x y t',ty,pos,aft,gd⟩ (.int k (ishr k p q)):=by intro a w b _;simp[execOp,b.eval c,b.eval d,eqGuard,binOp,Op.shift,ishr,show ¬q<0 by omega]
def Y.neg (b:ev fr x=some (.int k p)):Y P w0 S0 n fr is ⟨dst,.unOp .neg t x,ty,pos,aft,gd⟩ (.int k (k.wrap (0 - p))):=by intro a w c _;simp[execOp,c.eval b,Op.unary,Op.intArith]
def Y.conv {h A:TypeId} {k':IntKind} (hs:intB P h=some k) (b:intB P A=some k') (c:ev fr x=some (.int k p)):
    Y P w0 S0 n fr is ⟨dst,.convert h A x,ty,pos,aft,gd⟩ (.int k' (k'.wrap p)):=by
 have hs':P.underlying h=some (.int k):=by unfold intB at hs;split at hs<;>simp_all
 have d:P.underlying A=some (.int k'):=by unfold intB at b;split at b<;>simp_all
 intro a w e _;simp[execOp,e.eval c,convert,run_underlying hs',run_underlying d,Conv.intToInt]
end
def zgp (a:k.signed=false) (n:Int):0<=k.wrap n:=by unfold IntKind.wrap;simp_all;omega
def toU8 (n:Int):UInt8:=UInt8.ofNat (n % 256).toNat
def zvN (n:Int):IntKind.u8.wrap n=((toU8 n).toNat:Int):=by
 have b:=Int.emod_nonneg n (show (256:Int)≠0 by decide);have c:=Int.emod_lt_of_pos n (show (0:Int)<256 by decide);have a:(toU8 n).toNat=(n % 256).toNat:=by unfold toU8;simp_all
 rw[a];simp only[IntKind.wrap,IntKind.bits,IntKind.signed,Bool.false_and,Bool.false_eq_true,if_false];omega
def Y.conv8 {p:Int} {h A:TypeId} (hs:intB P h=some k) (a:intB P A=some .u8) (b:ev fr x=some (.int k p)):
    Y P w0 S0 n fr is ⟨dst,.convert h A x,ty,pos,aft,gd⟩ (.int .u8 ((toU8 p).toNat:Nat)):=by rw[<-zvN];exact Y.conv hs a b
def goMin (p q:Int):Int:=if q<p then q else p
def goMax (p q:Int):Int:=if q>p then q else p
def Y.not {x:Operand} {b:Bool} {t:TypeId} (c:ev fr x=some (.bool b)):Y P w0 S0 n fr is ⟨dst,.unOp .not t x,ty,pos,aft,gd⟩ (.bool (!b)):=by intro a w d _;simp[execOp,d.eval c,Op.unary]
def zkv (s u:List UInt8):(s == u)=Dc (s=u):=Bool.eq_iff_iff.2 (by simp)
def sLt (s t:List UInt8):Bool:=Op.bytesLess s t
section
variable {y:Operand} {s u:List UInt8} {t t':TypeId}
def znK (s:List UInt8):(ByteArray.mk s.toArray).toList=s:=ByteArray.toList_mk s
def Y.seql (c:ev fr x=some (strV s)) (d:ev fr y=some (strV u)):Y P w0 S0 n fr is ⟨dst,.binOp .eql t x y t',ty,pos,aft,gd⟩ (.bool (Dc (s=u))):=by intro a w b _;simp only[execOp,b.eval c,b.eval d,eqGuard,strV,binOp,Op.stringOp,ByteArray.toList_mk,zkv];simp
def Y.sneq (c:ev fr x=some (strV s)) (d:ev fr y=some (strV u)):Y P w0 S0 n fr is ⟨dst,.binOp .neq t x y t',ty,pos,aft,gd⟩ (.bool (!Dc (s=u))):=by intro a w b _;simp only[execOp,b.eval c,b.eval d,eqGuard,strV,binOp,Op.stringOp,ByteArray.toList_mk,zkv];simp
def Y.slss (c:ev fr x=some (strV s)) (d:ev fr y=some (strV u)):Y P w0 S0 n fr is ⟨dst,.binOp .lss t x y t',ty,pos,aft,gd⟩ (.bool (sLt s u)):=by intro a w b _;simp[execOp,b.eval c,b.eval d,eqGuard,strV,binOp,Op.stringOp,sLt]
def Y.sleq (c:ev fr x=some (strV s)) (d:ev fr y=some (strV u)):Y P w0 S0 n fr is ⟨dst,.binOp .leq t x y t',ty,pos,aft,gd⟩ (.bool (sLt s u||decide (s=u))):=by intro a w b _;simp[execOp,b.eval c,b.eval d,eqGuard,strV,binOp,Op.stringOp,sLt,zkv]
def Y.sgtr (c:ev fr x=some (strV s)) (d:ev fr y=some (strV u)):Y P w0 S0 n fr is ⟨dst,.binOp .gtr t x y t',ty,pos,aft,gd⟩ (.bool (!(sLt s u||decide (s=u)))):=by intro a w b _;simp[execOp,b.eval c,b.eval d,eqGuard,strV,binOp,Op.stringOp,sLt,zkv]
def Y.sgeq (c:ev fr x=some (strV s)) (d:ev fr y=some (strV u)):Y P w0 S0 n fr is ⟨dst,.binOp .geq t x y t',ty,pos,aft,gd⟩ (.bool (!sLt s u)):=by intro a w b _;simp[execOp,b.eval c,b.eval d,eqGuard,strV,binOp,Op.stringOp,sLt]
def cat (s u:List UInt8):Option (List UInt8):=if s.length+u.length<=9223372036854775807 then some (s++u) else none
def Y.cat {z:List UInt8} (b:cat s u=some z) (d:ev fr x=some (strV s)) (e:ev fr y=some (strV u)):Y P w0 S0 n fr is ⟨dst,.binOp .add t x y t',ty,pos,aft,gd⟩ (strV z):=by
 intro a w c _;unfold Sl.cat at b;split at b
 ·rename_i hl;cases b;simp only[execOp,c.eval d,c.eval e,eqGuard,strV,binOp_string_add,Sem.run_bind];simp[run_string_add_sum,hl,ByteArray.size_mk',ByteArray.mk_append_mk]
 ·trivial
def Y.slen {ty':TypeId} (b:isStrB P t=true) (c:ev fr x=some (strV s)):Y P w0 S0 n fr is ⟨dst,.call {callee:=.builtin .len,args:=#[x],argTypes:=#[t]},ty',pos,aft,gd⟩ (.int .i64 s.length):=by
 have d:P.underlying t=some .string:=by unfold isStrB at b;split at b<;>simp_all
 intro a w e _;simp[execOp,resolve,invoke,builtin,e.eval c,strV,run_len_string,d,goInt,ByteArray.size_mk']
def sidx (s:List UInt8) (i:Int):Option UInt8:=if 0<=i then s[i.toNat]? else none
theorem Y.sidx {k:IntKind} {i:Int} {b:UInt8} (c:sidx s i=some b) (e:isStrB P t=true) (g:ev fr x=some (strV s)) (h:ev fr y=some (.int k i)):
 Y P w0 S0 n fr is ⟨dst,.index t x y,ty,pos,aft,gd⟩ (.int .u8 b.toNat):=by
 have j:P.underlying t=some .string:=by unfold isStrB at e;split at e<;>simp_all
 unfold Sl.sidx at c;split at c
 ·rename_i l;have d:i.toNat<s.length:=by grind
  have hb':s[i.toNat]'d=b:=by rw[Bm d]at c;cases c;rfl
  intro a w f _;have m:(ByteArray.mk s.toArray)[i.toNat]? =some b:=by rw[ByteArray.getElem?_lt' _ _ (by simpa[ByteArray.size_mk'] using d)];congr 1
  simp only[execOp,f.eval g,f.eval h,strV,Instr.index,asIntOf,Sem.run_bind,Sem.run_pure,Result.andThen_ok,run_underlying j,if_pos l,m]
 ·trivial
def ssub (s:List UInt8) (lo hi:Int):Option (List UInt8):=if 0<=lo/\lo<=hi/\hi<=s.length then some ((s.drop lo.toNat).take (hi.toNat - lo.toNat)) else none
end
end
end Go.Proofs.YtmenicbkddagmaaGreat.Sl
end
section
open List renaming nodup_append->An,getElem?_cons_zero->Bl,mem_append->Bm,mapM_cons->Bo,mem_cons->Bt
open Nat renaming le_of_ble_eq_true->Ba,ble->Bp,le_trans->Bw,beq->By
open Array renaming getD_eq_getD_getElem?->Bf
open Option.some renaming injEq->Bh
namespace Go.Proofs.YtmenicbkddagmaaGreat.Sl
open Go Go.RowKit
variable {v:Value} {w0 w:World} {S0:List Nat} {is:List Item} {b t sz bt:Nat} {vs us:List Value} {P:Program} {ag:Bool} {X:Type} {fr:Fr} {ty:TypeId} {x:Operand} {o:Oper}
def part (vs:List Value) (off sz:Nat) (ag:Bool):Option Value:=
 bif ag then (bif Bp (off+sz) vs.length then some (.agg ((vs.drop off).take sz).toArray) else none) else vs[off]?
def zem {i:Nat} (hs:St w0 S0 is w) (hi:is[i]? =some (.box b bt vs)):
    w.heap[b]? =some (.cells vs.toArray bt (0,0)):=by obtain ⟨_,_,_,_,_,S,B,_,_⟩:=hs;obtain ⟨A,h,_⟩:=zcc hi B;exact h.2
def add_lit (b k j:Nat):(⟨b,k,none⟩:Addr).add j=⟨b,k+j,none⟩:=by unfold Addr.add;split<;>simp_all
theorem add_add (a:Addr) (i j:Nat):(a.add i).add j=a.add (i+j):=by unfold Addr.add;grind
theorem zci {a:Addr} (f:kindB P t=some (ag,sz)) (g: ∀j,j<us.length->w.cell? (a.add j)=us[j]?) (b:(ag=true/\us.length=sz/\v= .agg us.toArray)\/(ag=false/\us= [v])):(loadVar t a).run P w= .ok v w:=by
 obtain ⟨d,i,l,hi,h,c⟩:=zhc f;rcases b with ⟨rfl,hl,rfl⟩ | ⟨rfl,rfl⟩
 ·have hl':=run_loadCells_list (P:=P) (w:=w) a us (λj v b=>by grind);simp only[loadVar,Sem.run_bind,c,Result.andThen_ok,if_true,sizeOf,typeInfo,run_program,hi,Sem.run_pure,h];simp_all
 ·have e:=g 0 (by simp);have k:a.add 0=a:=by simp[Addr.add]
  rw[k]at e;simp only[Bl]at e;simp only[loadVar,Sem.run_bind,c,Result.andThen_ok,Bool.false_eq_true,if_false];simp_all
section
variable {R:Type} {m:Option R} {n:Nat} {Q:R->Exit->Act->World->Prop}
variable {dst:Option Nat} {pos:String} {aft:Array Edge} {gd:Option (Nat × Bool)}
def zo8 {off:Nat} (e:w.heap[b]? =some (.cells vs.toArray bt (0,0))) (a:part vs off sz ag=some v):
    ∃us:List Value,(∀j,j<us.length->w.cell? ((⟨b,off,none⟩:Addr).add j)=us[j]?)/\((ag=true/\us.length=sz/\v= .agg us.toArray)\/(ag=false/\us= [v])):=by
 unfold part at a;cases ag with
 | true=>
   simp only[cond_true]at a;cases c:Bp (off+sz) vs.length with
   | false=>rw[c]at a;cases a
   | true=>
     rw[c]at a;have f:off+sz<=vs.length:=Ba c;simp only[cond_true,Bh]at a;subst a;refine ⟨(vs.drop off).take sz,?_,.inl ⟨rfl,by simp;omega,rfl⟩⟩;intro j d;have g:j<sz:=by simp at d;omega
     rw[add_lit,cell_of_row w b (off+j) _ bt (0,0) e];simp_all
 | false=>
   simp only[cond_false]at a;refine ⟨[v],?_,.inr ⟨rfl,rfl⟩⟩;intro j d;have:j=0:=by simpa using d
   subst this;rw[add_lit,cell_of_row w b (off+0) _ bt (0,0) e];simp_all
def Y.load_box {off:Nat} (i:Nat) (c:kindB P t=some (ag,sz)) (hi:is[i]? =some (.box b bt vs)) (d:ev fr x=some (.pointer (some ⟨b,off,none⟩))) (e:part vs off sz ag=some v):Y P w0 S0 n fr is ⟨dst,.load t x,ty,pos,aft,gd⟩ v:=by intro a w f hs;obtain ⟨us,g,h⟩:=zo8 (zem hs hi) e;have:=zci (P:=P) c g h;simp[execOp,f.eval d,Instr.loadAt,Instr.sureAddr,this]
def Y.field_box {k o j s f:Nat} (c:fieldB P s f=some o) (e:Nat.add k o=j) (g:ev fr x=some (.pointer (some ⟨b,k,none⟩))):
    Y P w0 S0 n fr is ⟨dst,.fieldAddr s x f,ty,pos,aft,gd⟩ (.pointer (some ⟨b,j,none⟩)):=by
 intro a w i hs;have l:k+o=j:=e;unfold fieldB at c;split at c
 ·rename_i D m;split at c
  ·rename_i B p;split at c
   ·rename_i A q;cases d:By A.size 0 with
    | true=>rw[d]at c;cases c
    | false=>
      rw[d]at c;have t:A.size≠0:=by intro h;rw[h]at d;cases d
      simp only[cond_false,Bh]at c;simp[execOp,i.eval g,Instr.fieldAt,run_underlying m,p,Instr.sureAddr,fieldPlace,sizeOf,typeInfo,q,t,add_lit,c,l]
   ·trivial
  ·trivial
 ·trivial
def Y.nilCheck {x:Operand} {b:Addr} (c:ev fr x=some (.pointer (some b))):Y P w0 S0 n fr is ⟨dst,.nilCheck x,ty,pos,aft,gd⟩ (.pointer (some b)):=by intro a w d hs;simp[execOp,d.eval c]
def Y.extract {x:Operand} {vs:List Value} {k:Nat} {v:Value} (b:ev fr x=some (.tuple vs.toArray)) (c:vs[k]? =some v):Y P w0 S0 n fr is ⟨dst,.extract x k,ty,pos,aft,gd⟩ v:=by intro a w d hs;simp[execOp,d.eval b,Instr.extract,c]
def zgL {t:TypeId} {z:Value} (h:zeroB P t=some z) (w:World):(zeroValue t).run P w= .ok z w:=by
 unfold zeroB at h;cases hi:P.info? t with
 | none=>rw[hi]at h;cases h
 | some i=>rw[hi]at h;simp only[Option.bind_some]at h;simp[zeroValue,typeInfo,hi,h]
def Ef (P:Program) (w0:World) (S0:List Nat) (n:Nat) (fr:Fr) (is:List Item) (o:Oper) (val:X->Value) (is':X->List Item):Prop:=
 ∀a w (K:Act->World->Prop) (Q:Exit->Act->World->Prop),FrOk n fr a->St w0 S0 is w->(∀x w',St w0 S0 (is' x) w'->K (a.put o.dst (val x)) w')->o.wp P a w K Q
def TO.ef {ops:Array Oper} {rest:List Oper} {d:Nat} {val:X->Value} {is':X->List Item} (c:Ef P w0 S0 n fr is o val is') (e:Gd ops fr o true) (f:o.dst=some d) (g:Nat.blt d n=true) (h: ∀x,TO P w0 S0 m n ((d,val x)::fr) (is' x) ops rest Q):TO P w0 S0 m n fr is ops (o::rest) Q:=by intro r i a w b hs;refine zmX (e.wanted b) λK A=>?_;refine c a w K (Q r) b hs λx w' hs'=>?_;rw[f];exact A _ _ (h x r i _ _ (b.put g _) hs')
def TO.ef0 {ops:Array Oper} {rest:List Oper} {val:X->Value} {is':X->List Item} (c:Ef P w0 S0 n fr is o val is') (d:Gd ops fr o true) (e:o.dst=none) (h: ∀x,TO P w0 S0 m n fr (is' x) ops rest Q):TO P w0 S0 m n fr is ops (o::rest) Q:=by intro r f a w b hs;refine zmX (d.wanted b) λK A=>?_;refine c a w K (Q r) b hs λx w' hs'=>?_;rw[e];exact A _ _ (h x r f _ _ b hs')
def One (w0:World) (S0:List Nat) (is:List Item) (v:Value):Prop:=∀w,St w0 S0 is w->v.oneCell'=true
def Rd.one {c:C} {S:List Nat} (h:Rd w v c S):v.oneCell'=true:=by cases h<;>first | rfl | assumption
def One.plain (h:v.oneCell'=true):One w0 S0 is v:=λ_ _=>h
def One.can {c:C} (h:Can w0 S0 is v c):One w0 S0 is v:=λ_ hs=>(h.get hs).choose_spec.one
def Ones (w0:World) (S0:List Nat) (is:List Item):List Value->Prop
 | []=>True
 | v::r=>One w0 S0 is v/\Ones w0 S0 is r
def Ones.all {w0 w:World} {S0:List Nat} {is:List Item} (hs:St w0 S0 is w): ∀{us:List Value},Ones w0 S0 is us->∀u∈us,u.oneCell'=true
 | _::_,⟨b,c⟩,u,a=>by
   rcases Bt.1 a with rfl | a
   ·exact b _ hs
   ·exact Ones.all hs c u a
def Cel (w0:World) (S0:List Nat) (is:List Item) (v:Value) (us:List Value):Prop:=∀w,St w0 S0 is w->v.cells=us.toArray/\∀u∈us,u.oneCell'=true
def Cel.plain (h:v.cells=us.toArray) (a:us.all (·.oneCell')=true):Cel w0 S0 is v us:=
 λ_ _=>⟨h,List.all_eq_true.1 a⟩
def Cel.one (h:One w0 S0 is v):Cel w0 S0 is v [v]:=by intro w hs;have:=h w hs;refine ⟨?_,by simpa using this⟩;cases v<;>first | rfl | cases this
def Cel.agg {w0:World} {S0:List Nat} {is:List Item} {us:List Value} (h:Ones w0 S0 is us):Cel w0 S0 is (.agg us.toArray) us:=
 λ_ hs=>⟨rfl,h.all hs⟩
def Ef.newBox {zs:List Value} (c: ∀a w,FrOk n fr a->St w0 S0 is w->(execOp a.eval o).run P w= .ok (.value (.pointer (some ⟨w.heap.size,0,none⟩))) (w.alloc (.cells zs.toArray t))):
    Ef P w0 S0 n fr is o (λb:Nat=>.pointer (some ⟨b,0,none⟩)) (λb=>.box b t zs::is):=by intro a w K Q d hs h;unfold Oper.wp;rw[c a w d hs];exact h w.heap.size _ (hs.add (Chg.alloc w _ []) _ [w.heap.size] ⟨rfl,heap_alloc_new w _⟩ (by simp) (by simp))
def Ef.alloc {t:Nat} {z:Value} {zs:List Value} (c:zeroB P t=some z) (d:z.cells=zs.toArray):
    Ef P w0 S0 n fr is ⟨dst,.alloc t,ty,pos,aft,gd⟩ (λb:Nat=>.pointer (some ⟨b,0,none⟩)) (λb=>.box b t zs::is):=by refine Ef.newBox λa w e _=>?_;simp[execOp,Instr.alloc,zgL c,newVar,newRow,d]
def Ef.box {t:Nat} {x:Operand} {v:Value} {zs:List Value} (c:ev fr x=some v) (d:Cel w0 S0 is v zs):
    Ef P w0 S0 n fr is ⟨dst,.box t x,ty,pos,aft,gd⟩ (λb:Nat=>.pointer (some ⟨b,0,none⟩)) (λb=>.box b t zs::is):=by refine Ef.newBox λa w e hs=>?_;simp[execOp,Instr.box,newVar,newRow,e.eval c,(d w hs).1]
def splice (vs:List Value) (off:Nat) (us:List Value):List Value:=vs.take off++us++vs.drop (off+us.length)
theorem St.upd {w':World} {i:Nat} {J E:Item} (h:St w0 S0 is w) (hi:is[i]? =some J) (hs: ∀A,J.sat w A->A.Nodup->∃F,Chg w w' A/\E.sat w' F/\F.Nodup/\∀b∈F,b∈A\/w.heap.size<=b):St w0 S0 (is.set i E) w':=by
 obtain ⟨os,tape,output,size,base,S,N,j,s⟩:=h;have key: ∀(is:List Item) (i:Nat) (S:List Nat),is[i]? =some J->sats w is S->S.Nodup->
  ∃A D,J.sat w A/\(∀b∈A,b∈S)/\Chg w w' A/\sats w' (is.set i E) D/\D.Nodup/\∀b∈D,b∈S\/w.heap.size<=b:=by
  intro is
  induction is with
  | nil=>intro i S hi;simp at hi
  | cons x r ih=>
    intro i S hi N j;obtain ⟨A,B,rfl,d,g⟩:=N;obtain ⟨M,O,p⟩:=An.1 j;cases i with
    | zero=>
      simp only[Bl,Bh]at hi;subst hi;obtain ⟨F,a,k,e,f⟩:=hs A d M;refine ⟨A,F++B,d,λb c=>Bm.2 (.inl c),a,⟨F,B,rfl,k,zgI g λb c=>a.keep b (zfA g b c) λI=>p b I b c rfl⟩,?_,?_⟩
      ·refine An.2 ⟨e,O,λx l y m n=>?_⟩;subst n;rcases f x l with h | h
       ·grind
       ·have:=zfA g x m;omega
      ·grind
    | succ i=>
      simp only[List.getElem?_cons_succ]at hi;obtain ⟨A2,D,k,f,a,o,e,G⟩:=ih i B hi g O;refine ⟨A2,A++D,k,λb c=>Bm.2 (.inr (f b c)),a,⟨A,D,rfl,Item.sat_keep d λb c=>a.keep b (Item.sat_lt d b c) λq=>p b c b (f b q) rfl,o⟩,?_,?_⟩
      ·refine An.2 ⟨M,e,λx l y m n=>?_⟩;subst n;rcases G x m with h | h
       ·grind
       ·have:=Item.sat_lt d x l;omega
      ·grind
 obtain ⟨A,D,M,f,a,o,e,G⟩:=key is i S hi N j;refine ⟨a.os.trans os,a.tape.trans tape,a.output.trans output,Bw size a.size,?_,D,o,e,?_⟩
 ·intro b c t;rw[a.keep b (Nat.lt_of_lt_of_le c size) λI=>?_]
  ·simp_all
  ·grind
 ·grind
def Chg.setRow (w:World) (g:Nat) (cs:Array Value):Chg w (w.setRow g cs) [g]:=
 ⟨rfl,rfl,rfl,by simp,λb _ a=>setRow_other w g b cs (by simpa using a)⟩
def zeY {off:Nat} {cur:Array Value} (a:kindB P ty=some (ag,sz)) (c:w.heap[b]? =some (.cells cur t (0,0))) (e:v.cells=us.toArray) (hl:By us.length sz=true) (f: ∀u∈us,u.oneCell'=true) (h:off+us.length<=cur.size):
    (storeVar ty ⟨b,off,none⟩ v).run P w= .ok () (w.setRow b (splice cur.toList off us).toArray):=by
 obtain ⟨d,i,j,hi,g,_⟩:=zhc a;have hl':us.length=sz:=by simpa using hl
 have:=run_storeCells_at P b off t us 0 cur w c (by omega) f;simp only[storeVar,Sem.run_bind,sizeOf,typeInfo,run_program,Result.andThen_ok,hi,Sem.run_pure,e,g,List.size_toArray,hl',ne_eq,not_true_eq_false,if_false];trivial
def Ef.store_box {y:Operand} {off:Nat} {B:List Value} (i:Nat) (h:kindB P t=some (ag,sz)) (hi:is[i]? =some (.box b bt vs)) (c:ev fr x=some (.pointer (some ⟨b,off,none⟩))) (j:ev fr y=some v) (k:Cel w0 S0 is v us) (hl:By us.length sz=true) (l:Bp (off+us.length) vs.length=true) (hs:splice vs off us=B) {is':List Item} (m:is.set i (.box b bt B)=is'):
    Ef P w0 S0 n fr is ⟨none,.store t x y,ty,pos,aft,gd⟩ (λ_:Unit=>undef) (λ_=>is'):=by
 intro a w K Q e d E;have f:=zem d hi;obtain ⟨o,p⟩:=k w d;have g:=zeY (P:=P) h f o hl p (by simpa using Ba l);have q:(execOp a.eval ⟨none,.store t x y,ty,pos,aft,gd⟩).run P w= .ok .skip (w.setRow b B.toArray):=by simp only[hs]at g;simp[execOp,e.eval c,e.eval j,Instr.storeAt,Instr.sureAddr,g]
 unfold Oper.wp;rw[q];refine E () _ ?_;subst m;refine d.upd hi λA D s=>⟨[b],?_,⟨rfl,?_⟩,by simp,λx c=>.inl (by rw[D.1];exact c)⟩
 ·rw[D.1];exact Chg.setRow w b _
 ·exact setRow_heap w b _ _ bt _ f
end
def Con (P:Program) (f:FuncId) (args:List Value) (pre:List Item) (rds:List (Value × C)) (val:X->Value) (post:X->List Item):Prop:=
 ∀w S,St w S pre w->(∀p∈rds,Base w S p.1 p.2)->Calls P f args.toArray w (λe w'=>∃x,e= .returned (val x)/\St w S (post x) w')
def callB (P:Program) (f:FuncId):Bool:=match P.funcs[f]? with | some fn=>fn.name != "runtime.NumGoroutine" &&fn.body.isSome | none=>false
def zl6 {f:FuncId} (h:callB P f=true) (args:Array Value) (w:World):(callFunc f args).run P w= .ok (.enter f args) w:=by
 unfold callB at h;split at h
 ·rename_i fn d;simp only[Bool.and_eq_true,bne_iff_ne,ne_eq]at h;obtain ⟨e,a⟩:=h;cases b:fn.body with
  | none=>rw[b]at a;cases a
  | some c=>simp[callFunc,d,e,b]
 ·cases h
theorem St.frame {pre rest:List Item} (h:St w0 S0 (pre++rest) w):
 ∃A,St w A pre w/\(∀v c,Can w0 S0 rest v c->Base w A v c)/\∀post w',St w A post w'->St w0 S0 (post++rest) w':=by
 obtain ⟨os,tape,output,size,base,S,N,f,j⟩:=h;obtain ⟨A,B,rfl,e,a⟩:=zb5.1 N;obtain ⟨J,O,g⟩:=An.1 f;have I:=zfA e;have D:=zfA a;refine ⟨A,St.start e J,?_,?_⟩
 ·intro v c i;obtain ⟨F,M,k⟩:=i w B a base;refine ⟨F,M,λb d E=>?_⟩;grind
 ·intro post w' ⟨os',tape',output',size',base',S',hS',l,m⟩;have G:sats w' rest B:=zgI a λb d=>base' b (D b d) λE=>g b E b d rfl;refine ⟨os'.trans os,tape'.trans tape,output'.trans output,Bw size size',?_,S'++B,zb5.2 ⟨S',B,rfl,hS',G⟩,?_,?_⟩
  ·grind
  ·grind
  ·grind
section
variable {R:Type} {m:Option R} {n:Nat} {Q:R->Exit->Act->World->Prop}
variable {pos:String} {aft:Array Edge}
def Cans (w0:World) (S0:List Nat) (is:List Item):List (Value × C)->Prop
 | []=>True
 | (v,c)::r=>Can w0 S0 is v c/\Cans w0 S0 is r
def Cans.mem {w0:World} {S0:List Nat} {is:List Item} : ∀{l:List (Value × C)},Cans w0 S0 is l->∀p∈l,Can w0 S0 is p.1 p.2
 | _::_,⟨c,b⟩,p,a=>by
   rcases Bt.1 a with rfl | a
   ·trivial
   ·exact Cans.mem b p a
def Ef.call {X:Type} {val:X->Value} {post:X->List Item} {pre rest:List Item} {rds:List (Value × C)} {f:FuncId} {os:List Operand} {args:List Value} {ats:Array TypeId} {dst:Option Nat} {gd:Option (Nat × Bool)} (B:List Nat) (c:Con P f args pre rds val post) (d:callB P f=true) (e:evs fr os=some args) (b:pulls B is=some (pre++rest)) (g:Cans w0 S0 rest rds):Ef P w0 S0 n fr is ⟨dst,.call {callee:=.value (.func f),args:=os.toArray,argTypes:=ats},ty,pos,aft,gd⟩ val (λx=>post x++rest):=by
 intro a w K Q h hs E;obtain ⟨A,D,i,l⟩:=(hs.pulls B b).frame;have j:=c w A D λp b=>i _ _ (g.mem p b);have k:(execOp a.eval ⟨dst,.call {callee:=.value (.func f),args:=os.toArray,argTypes:=ats},ty,pos,aft,gd⟩).run P w= .ok (.enter f args.toArray) w:=by simp[execOp,resolve,Act.eval,Deferred.ofValue,invoke,<-h.evals e,zl6 d]
 unfold Oper.wp;rw[k];refine j.mono ?_;simp_all
end
def Con.intro {P:Program} {f:FuncId} {fn:Func} {c:Code} {args:List Value} {pre:List Item} {rds:List (Value × C)} {X R:Type} {n:Nat} {val:R->X->Value} {post:R->X->List Item} {m:Option R} {r:R} (a:P.funcs[f]? =some fn) (b:fn.body=some c) (d:fn.ntmps=n) (hl:Bp args.length n=true) (g:m=some r) (h: ∀w S,(∀p∈rds,Base w S p.1 p.2)->TW P w S m n (argFr 0 args) pre c (λr=>bodyPost P fn (λe w'=>∃x,e= .returned (val r x)/\St w S (post r x) w'))):
    Con P f args pre rds (val r) (post r):=by subst d;intro w S hs i;refine calls_of_wp a b ?_;exact h w S i r g _ w (FrOk.enter args fn.ntmps (Ba hl)) hs
def RV (P:Program) (fr:Fr) (is:List Item):List ResultVar->List Value->Prop
 | [],[]=>True
 | .tmp t::r,v::vs=>lk t fr=some v/\RV P fr is r vs
 | .cell p t::r,v::vs=>(∃a:Addr,lk p fr=some (.pointer (some a))/\∀(w0:World) (S0:List Nat) (w:World),St w0 S0 is w->(loadVar t a).run P w= .ok v w)/\RV P fr is r vs
 | _,_=>False
def RV.cell {P:Program} {fr:Fr} {is:List Item} {p t b off bt sz:Nat} {us:List Value} {ag:Bool} {v:Value} {r:List ResultVar} {vs:List Value} (i:Nat) (a:is[i]? =some (.box b bt us)) (c:lk p fr=some (.pointer (some ⟨b,off,none⟩))) (d:kindB P t=some (ag,sz)) (e:part us off sz ag=some v) (h:RV P fr is r vs):RV P fr is (.cell p t::r) (v::vs):=
 ⟨⟨_,c,λw0 S0 w hs=>by obtain ⟨cs,f,g⟩:=zo8 (zem hs a) e;exact zci (P:=P) d f g⟩,h⟩
def resF (a:Act) (x:ResultVar):Sem Value:=
 match x with
 | .tmp t=>pure (a.tmps.getD t undef)
 | .cell p t=>do loadVar t (<-asAddr (a.tmps.getD p undef))
def zhP {P:Program} {w0 w:World} {S0:List Nat} {n:Nat} {fr:Fr} {is:List Item} {a:Act} (b:FrOk n fr a) (hs:St w0 S0 is w): ∀{A:List ResultVar} {vs:List Value},RV P fr is A vs->
    (A.mapM (resF a)).run P w= .ok vs w
 | [],[],_=>by simp
 | ResultVar.tmp t::r,v::vs,⟨e,c⟩=>by
   have:=zhP b hs c
   have d:a.tmps.getD t undef=v:=by rw[Bf,b.get t v e];rfl
   simp only[Bo,Sem.run_bind,resF,d,Sem.run_pure,Result.andThen_ok,this]
 | ResultVar.cell p t::r,v::vs,⟨⟨f,g,h⟩,c⟩=>by
   have:=zhP b hs c
   have d:a.tmps.getD p undef= .pointer (some f):=by rw[Bf,b.get p _ g];rfl
   have hl:=h _ _ w hs
   simp only[Bo,Sem.run_bind,resF,d,asAddr,Sem.run_pure,Result.andThen_ok,hl,this]
def retV:List Value->Value
 | [v]=>v
 | vs=>.tuple vs.toArray
def zt1 {n:Nat} {a:Act} {fn:Func} {B:List ResultVar} {K:Ending->World->Prop} {e:Exit} (d:e= .ret\/e= .normal) (f:fn.results=B.toArray) (g:RV P fr is B vs) (b:FrOk n fr a) (hs:St w0 S0 is w) (A:K (.returned (retV vs)) w):bodyPost P fn K e a w:=by
 have i:=zhP b hs g;have c:(results fn a.tmps).run P w= .ok (retV vs) w:=by
  have j:results fn a.tmps=(do let vs <-fn.results.mapM (resF a);pure (if h:vs.size=1 then vs[0] else .tuple vs)):=rfl;rw[j,f];simp only[Sem.run_bind,List.mapM_toArray,Sem.run_map,i,Result.andThen_ok,Sem.run_pure];congr 1
  match vs with
  | []=>rfl
  | [v]=>rfl
  | v::u::r=>simp[retV]
 rcases d with rfl | rfl
 ·exact ⟨b.defers,_,c,A⟩
 ·exact ⟨b.defers,_,c,A⟩
end Go.Proofs.YtmenicbkddagmaaGreat.Sl
end
section
open Option.some renaming injEq->An
open List renaming flatMap_cons->Ba,drop_of_length_le->Bf,take_append_drop->Bl,mem_cons->Bm,length_take->Bo
open Nat renaming one_pos->Bh,beq->Bp
namespace Go.Proofs.YtmenicbkddagmaaGreat.Sl
open Go Go.RowKit
variable {α:Type} {v:Value} {w:World} {c:C} {sz:Nat} {z:α} {S:List Nat} {x:Operand}
class Enc (α:Type) where
 sz:Nat
 enc:α->List C
 len: ∀x,(enc x).length=sz
 pos:0<sz
instance:Enc Int:=⟨1,λn=>[.int .i64 n],λ_=>rfl,Bh⟩
instance:Enc UInt8:=⟨1,λn=>[.int .u8 n.toNat],λ_=>rfl,Bh⟩
instance:Enc Bool:=⟨1,λb=>[.bool b],λ_=>rfl,Bh⟩
instance:Enc (List UInt8):=⟨1,λs=>[.str s],λ_=>rfl,Bh⟩
def lc [Enc α] (l:List α):C:=.sl (Enc.sz α) l.length (l.flatMap Enc.enc)
def zbj [Enc α] (l:List α):(l.flatMap (Enc.enc (α:=α))).length=l.length*Enc.sz α:=by
 induction l with
 | nil=>simp
 | cons x l ih=>simp[ih,Enc.len,Nat.add_mul,Nat.add_comm]
theorem zjQ {α:Type} [Enc α]: ∀(l:List α) (k j:Nat) (x:α),l[k]? =some x->j<=Enc.sz α->∃r,(l.flatMap (Enc.enc (α:=α))).drop (k*Enc.sz α+j)=(Enc.enc x).drop j++r
 | [],_,_,_,h,_=>by simp at h
 | y::l,0,j,x,h,a=>by simp only[List.getElem?_cons_zero,An]at h;subst h;refine ⟨l.flatMap Enc.enc,?_⟩;simp only[Nat.zero_mul,Nat.zero_add,Ba];rw[List.drop_append_of_le_length (by rw[Enc.len];exact a)]
 | y::l,k+1,j,x,h,a=>by simp only[List.getElem?_cons_succ]at h;obtain ⟨r,b⟩:=zjQ l k j x h a;refine ⟨r,?_⟩;rw[<-b,Ba,List.drop_append,Bf (by rw[Enc.len,Nat.add_mul];omega),List.nil_append,Enc.len];grind
def valC:C->Option Value
 | .int k n=>some (.int k n)
 | .bool b=>some (.bool b)
 | .str s=>some (strV s)
 | .raw v=>bif v.oneCell' then some v else none
 | .any=>none
 | .sl ..=>none
def valR:C->Option Value
 | .int k n=>some (.int k n)
 | .bool b=>some (.bool b)
 | .str s=>some (strV s)
 | .raw v=>some v
 | .any=>none
 | .sl ..=>none
def valsR:List C->Option (List Value)
 | []=>some []
 | c::r=>match valR c,valsR r with
   | some v,some vs=>some (v::vs)
   | _,_=>none
def valsC:List C->Option (List Value)
 | []=>some []
 | c::r=>match valC c,valsC r with
   | some v,some vs=>some (v::vs)
   | _,_=>none
def Rd.val {u:Value} (h:Rd w v c S) (a:valC c=some u):v=u:=by cases h<;>simp_all[valC]
def Rds.vals {w:World} : ∀{vs us:List Value} {cs:List C} {S:List Nat},Rds w vs cs S->valsC cs=some us->vs=us
 | _,us,[],_,h,a=>by cases h;simpa[valsC] using a
 | _,us,c::cs,_,h,a=>by
   cases h with
   | cons v c S vs cs T e f=>
     unfold valsC at a;cases b:valC c with
     | none=>rw[b]at a;simp at a
     | some u=>
       cases d:valsC cs with
       | none=>rw[b,d]at a;simp at a
       | some A=>rw[b,d]at a;simp only[An]at a;subst a;rw[e.val b,Rds.vals f d]
def Rd.valR {w:World} {v u:Value} {c:C} {S:List Nat} (h:Rd w v c S) (a:valR c=some u):v=u:=by cases h<;>simp_all[Sl.valR]
def Rds.valsR {w:World} : ∀{vs us:List Value} {cs:List C} {S:List Nat},Rds w vs cs S->valsR cs=some us->vs=us
 | _,us,[],_,h,a=>by cases h;simpa[Sl.valsR] using a
 | _,us,c::cs,_,h,a=>by
   cases h with
   | cons v c S vs cs T e f=>
     unfold Sl.valsR at a;cases b:Sl.valR c with
     | none=>rw[b]at a;simp at a
     | some u=>
       cases d:Sl.valsR cs with
       | none=>rw[b,d]at a;simp at a
       | some A=>rw[b,d]at a;simp only[An]at a;subst a;rw[e.valR b,Rds.valsR f d]
def Rd.oneCell (h:Rd w v c S):v.oneCell'=true:=by cases h<;>first | rfl | assumption
def Rds.oneCells {w:World} : ∀{vs:List Value} {cs:List C} {S:List Nat},Rds w vs cs S->∀v∈vs,v.oneCell'=true
 | _,[],_,h,v,a=>by cases h;cases a
 | _,c::cs,_,h,v,a=>by
   cases h with
   | cons u c S vs cs T b d=>
     rcases Bm.1 a with rfl | a
     ·exact b.oneCell
     ·exact Rds.oneCells d v a
def Ow.oneCell (h:Ow w v c S):v.oneCell'=true:=by cases h<;>first | rfl | assumption
def Ows.oneCells {w:World} : ∀{vs:List Value} {cs:List C} {S:List Nat},Ows w vs cs S->∀v∈vs,v.oneCell'=true
 | _,[],_,h,v,a=>by cases h;cases a
 | _,c::cs,_,h,v,a=>by
   cases h with
   | cons u c S vs cs T b d=>
     rcases Bm.1 a with rfl | a
     ·exact b.oneCell
     ·exact Ows.oneCells d v a
theorem zjJ (h:valC c=some v):v.oneCell'=true:=by
 cases c with
 | raw u=>have h:(bif u.oneCell' then some u else none)=some v:=h;grind
 | sl a b d=>simp[valC]at h
 | any=>simp[valC]at h
 | int k n=>simp[valC]at h;subst h;rfl
 | bool b=>simp[valC]at h;subst h;rfl
 | str s=>simp[valC]at h;subst h;rfl
def zlT: ∀{cs:List C} {vs:List Value},valsC cs=some vs->∀v∈vs,v.oneCell'=true
 | [],vs,h,v,a=>by simp[valsC]at h;subst h;cases a
 | c::cs,vs,h,v,a=>by
   unfold valsC at h;cases b:valC c with
   | none=>rw[b]at h;simp at h
   | some u=>
     cases d:valsC cs with
     | none=>rw[b,d]at h;simp at h
     | some A=>
       rw[b,d]at h;simp only[An]at h;subst h;rcases Bm.1 a with rfl | a
       ·exact zjJ b
       ·exact zlT d v a
def Ow.of_val (h:valC c=some v):Ow w v c []:=by
 have f:=zjJ h;cases c with
 | raw u=>
   have h:(bif u.oneCell' then some u else none)=some v:=h;cases e:u.oneCell' with
   | true=>rw[e]at h;simp at h;subst h;exact .raw _ e
   | false=>rw[e]at h;simp at h
 | sl a b d=>simp[valC]at h
 | any=>simp[valC]at h
 | int k n=>simp[valC]at h;subst h;exact .int _ _
 | bool b=>simp[valC]at h;subst h;exact .bool _
 | str s=>simp[valC]at h;subst h;exact .str _
def Ows.of_vals {w:World} : ∀{cs:List C} {vs:List Value},valsC cs=some vs->Ows w vs cs []
 | [],vs,h=>by simp[valsC]at h;subst h;exact .nil
 | c::cs,vs,h=>by
   unfold valsC at h;cases a:valC c with
   | none=>rw[a]at h;simp at h
   | some u=>
     cases b:valsC cs with
     | none=>rw[a,b]at h;simp at h
     | some A=>rw[a,b]at h;simp only[An]at h;subst h;exact .cons u c [] A cs [] (Ow.of_val a) (Ows.of_vals b)
def zmW: ∀{cs ds:List C} {vs us:List Value},valsC cs=some vs->valsC ds=some us->valsC (cs++ds)=some (vs++us)
 | [],ds,vs,us,h,k=>by simp[valsC]at h;subst h;exact k
 | c::cs,ds,vs,us,h,k=>by
   unfold valsC at h;cases a:valC c with
   | none=>rw[a]at h;simp at h
   | some u=>
     cases b:valsC cs with
     | none=>rw[a,b]at h;simp at h
     | some A=>rw[a,b]at h;simp only[An]at h;subst h;simp[valsC,a,zmW b k]
class Flat (α:Type) extends Enc α where
 vals:α->List Value
 flat: ∀x,valsC (enc x)=some (vals x)
instance:Flat Int:={vals:=λn=>[.int .i64 n],flat:=λ_=>rfl}
instance:Flat UInt8:={vals:=λn=>[.int .u8 n.toNat],flat:=λ_=>rfl}
instance:Flat Bool:={vals:=λb=>[.bool b],flat:=λ_=>rfl}
instance:Flat (List UInt8):={vals:=λs=>[strV s],flat:=λ_=>rfl}
def zbb {α:Type} [Flat α]: ∀l:List α,valsC (l.flatMap Enc.enc)=some (l.flatMap Flat.vals)
 | []=>rfl
 | x::l=>by simp only[Ba];exact zmW (Flat.flat x) (zbb l)
def zf3 [Flat α] (x:α):(Flat.vals x).length=Enc.sz α:=by have h:=Flat.flat x;have:=(Ows.of_vals (w:=default) h).length;rw[this,Enc.len]
def elP (v:Value) (c:Nat):Value:=
 match v with
 | .slice (some a) _ _=>.pointer (some (a.add c))
 | _=>undef
def idx (l:List α) (i:Int):Option α:=if 0<=i then l[i.toNat]? else none
theorem zbP {l:List α} {i:Int} {x:α} (h:idx l i=some x):0<=i/\i<l.length/\l[i.toNat]? =some x:=by unfold idx at h;grind
def Can.row {w0 w:World} {S0:List Nat} {is:List Item} {v:Value} {sz n:Nat} {cs:List C} (h:Can w0 S0 is v (.sl sz n cs)) (hs:St w0 S0 is w):
    (n=0/\cs= []/\v= .slice none 0 0)\/∃a cap vs S,v= .slice (some a) n cap/\n<=cap/\vs.length=n*sz/\(∀j,j<n*sz->w.cell? (a.add j)=vs[j]?)/\Rds w vs cs S:=by
 obtain ⟨F,A⟩:=h.get hs;cases A with
 | nil=>exact .inl ⟨rfl,rfl,rfl⟩
 | row a n cap sz vs cs S b c d e=>exact .inr ⟨a,cap,vs,S,rfl,c,b,d,e⟩
section
variable {P:Program} {w0:World} {S0:List Nat} {R:Type} {m:Option R} {n:Nat} {fr:Fr} {is:List Item} {Q:R->Exit->Act->World->Prop}
variable {dst:Option Nat} {ty:TypeId} {pos:String} {aft:Array Edge} {gd:Option (Nat × Bool)}
variable {l:List α}
def Y.len {sz':Nat} {cs':List C} {x:Operand} {t A sz by_:Nat} {ty':TypeId} (e:elemB P t=some (A,sz,by_)) (f:Can w0 S0 is v (.sl sz' l.length cs')) (b:ev fr x=some v):
    Y P w0 S0 n fr is ⟨dst,.call {callee:=.builtin .len,args:=#[x],argTypes:=#[t]},ty',pos,aft,gd⟩ (.int .i64 l.length):=by
 obtain ⟨c,_⟩:=zC e;intro a w d hs;rcases f.row hs with ⟨g,_,rfl⟩ | ⟨h,cap,vs,S,rfl,_⟩
 ·have:l= []:=List.eq_nil_of_length_eq_zero g;subst this;simp[execOp,resolve,invoke,builtin,d.eval b,Builtin.len_,run_underlying c,goInt]
 ·simp[execOp,resolve,invoke,builtin,d.eval b,Builtin.len_,run_underlying c,goInt]
def Y.index {sz':Nat} {cs':List C} {y:Operand} {t A by_:Nat} {k:IntKind} {i:Int} (c:elemB P t=some (A,sz,by_)) (d:Can w0 S0 is v (.sl sz' l.length cs')) (hi:idx l i=some z) (e:ev fr x=some v) (f:ev fr y=some (.int k i)):
    Y P w0 S0 n fr is ⟨dst,.indexAddr t x y,ty,pos,aft,gd⟩ (elP v (i.toNat*sz+0)):=by
 obtain ⟨g,B,h,j,_⟩:=zC c;obtain ⟨m,o,p⟩:=zbP hi;intro a w b hs;rcases d.row hs with ⟨q,_,rfl⟩ | ⟨s,cap,vs,S,rfl,_⟩
 ·omega
 ·simp[execOp,b.eval e,b.eval f,Instr.indexAt,run_underlying g,asIntOf,m,o,sizeOf,typeInfo,h,j,elP]
def Y.field_el {sz':Nat} {cs':List C} {o j k s f c:Nat} (b:fieldB P s f=some o) (e:Can w0 S0 is v (.sl sz' l.length cs')) (A:l[k]? =some z) (g:Nat.add c o=j) (i:ev fr x=some (elP v (k*sz+c))):
    Y P w0 S0 n fr is ⟨dst,.fieldAddr s x f,ty,pos,aft,gd⟩ (elP v (k*sz+j)):=by
 intro a w m hs;have p:c+o=j:=g;rcases e.row hs with ⟨B,_,rfl⟩ | ⟨D,cap,vs,S,rfl,_⟩
 ·simp_all
 ·unfold fieldB at b;split at b
  ·rename_i G q;split at b
   ·rename_i F t;split at b
    ·rename_i E u;cases d:Bp E.size 0 with
     | true=>rw[d]at b;cases b
     | false=>
       rw[d]at b;have y:E.size≠0:=by intro h;rw[h]at d;cases d
       simp only[cond_false,An]at b;simp[execOp,m.eval i,Instr.fieldAt,run_underlying q,t,Instr.sureAddr,fieldPlace,sizeOf,typeInfo,u,y,b,elP,add_add,<-p,Nat.add_assoc]
    ·trivial
   ·trivial
  ·trivial
variable [Enc α]
theorem zv6 {k c:Nat} {cs r:List C} (g:Enc.sz α=sz) (h:Can w0 S0 is v (lc l)) (hs:St w0 S0 is w) (i:l[k]? =some z) (b:(Enc.enc z).drop c=cs++r):
 ∃a us S,(∃F cap,v= .slice (some a) F cap)/\(∀j,j<us.length->w.cell? ((a.add (k*sz+c)).add j)=us[j]?)/\Rds w us cs S:=by
 subst g;have m:k<l.length:=by grind
 rcases h.row hs with ⟨A,_,_⟩ | ⟨d,cap,vs,S,rfl,B,D,n,e⟩
 ·omega
 ·by_cases o:c<=Enc.sz α
  ·obtain ⟨G,E⟩:=zjQ l k c z i o;have p:l.flatMap (Enc.enc (α:=α))=(l.flatMap (Enc.enc (α:=α))).take (k*Enc.sz α+c)++(cs++(r++G)):=by
    conv=>lhs;rw[<-Bl (k*Enc.sz α+c) (l.flatMap (Enc.enc (α:=α)))]
    simp_all
   rw[p]at e;obtain ⟨I,J,_,_,q⟩:=e.split;obtain ⟨M,N,_,f,_⟩:=q.split;have s:((l.flatMap (Enc.enc (α:=α))).take (k*Enc.sz α+c)).length=k*Enc.sz α+c:=by
    rw[Bo,zbj];have:k*Enc.sz α+Enc.sz α<=l.length*Enc.sz α:=by rw[<-Nat.succ_mul];exact Nat.mul_le_mul_right _ m
    omega
   rw[s]at f;refine ⟨d,_,_,⟨_,_,rfl⟩,?_,f⟩;intro j t;rw[add_add,List.getElem?_take];simp only[Bo,List.length_drop]at t;rw[if_pos (by omega),n _ (by omega)];simp
  ·have:(Enc.enc z).drop c= []:=Bf (by rw[Enc.len];omega);rw[this]at b;have u:cs= []:=by cases cs with | nil=>rfl | cons x y=>cases b
   subst u;exact ⟨d,[],[],⟨_,_,rfl⟩,by simp,.nil⟩
def loaded (ag:Bool) (us:List Value):Option Value:=bif ag then some (.agg us.toArray) else us[0]?
def Y.load_el {t k c s:Nat} {ag:Bool} {us:List Value} {u:Value} (e:kindB P t=some (ag,s)) (f:Enc.sz α=sz) (g:Can w0 S0 is v (lc l)) (h:l[k]? =some z) (i:ev fr x=some (elP v (k*sz+c))) (j:valsR (((Enc.enc z).drop c).take s)=some us) (hl:Bp us.length s=true) (m:(ag||Bp s 1)=true) (b:loaded ag us=some u):
    Y P w0 S0 n fr is ⟨dst,.load t x,ty,pos,aft,gd⟩ u:=by
 intro a w o hs;obtain ⟨B,D,S,⟨E,cap,rfl⟩,d,p⟩:=zv6 (cs:=((Enc.enc z).drop c).take s) (r:=((Enc.enc z).drop c).drop s) f g hs h (Bl _ _).symm;have y:=p.valsR j;subst y;have hl':D.length=s:=by simpa using hl
 have A:(ag=true/\D.length=s/\u= .agg D.toArray)\/(ag=false/\D= [u]):=by
  unfold loaded at b;cases ag with
  | true=>left;simp only[cond_true,An]at b;exact ⟨rfl,hl',b.symm⟩
  | false=>
    right;simp only[cond_false]at b;have d:s=1:=by simpa using m
    refine ⟨rfl,?_⟩
    match D,hl',b with
    | [q],_,b=>simp at b;rw[b]
    | [],hl',_=>simp at hl';omega
    | _::_::_,hl',_=>simp at hl';omega
 have:=zci (P:=P) e d A;simp[execOp,o.eval i,elP,Instr.loadAt,Instr.sureAddr,this]
end
end Go.Proofs.YtmenicbkddagmaaGreat.Sl
end
section
open List renaming eq_nil_of_length_eq_zero->An,length_append->Ba,length_cons->Bm,take_of_length_le->Bo,drop_of_length_le->Bp,nil_append->Bt,getElem?_take->By,zipIdx_cons->Cj,length_take->Cq,drop_append->Cr,map_toArray->Cv,append_nil->Cx,mem_map->Db
open Nat renaming mul_le_mul_right->Bf,le_refl->Bl,le_of_ble_eq_true->Bw,le_trans->Bz,add_mul->Ct,beq->Cu,succ_mul->Cy,add_zero->Da,zero_add->Dd
open Array renaming length_toList->Bh,range->De
open Option.some renaming injEq->Cg
namespace Go.Proofs.YtmenicbkddagmaaGreat.Sl
open Go Go.RowKit
variable {w:World} {sz n e by_:Nat} {v u z:Value} {α:Type} {us:List Value} {k:List α}
theorem zme (off:Nat): ∀(us:List Value) (i:Nat) (cur:Array Value),off+i+us.length<=cur.size->
 ((us.zipIdx i).foldl (λ(cs:Array Value) (p:Value × Nat)=>cs.setIfInBounds (off+p.2) p.1) cur)=(splice cur.toList (off+i) us).toArray
 | [],i,cur,h=>by simp[splice]
 | u::us,i,cur,h=>by simp only[Cj,List.foldl_cons];rw[zme off us (i+1) _ (by simp at h |-;omega)];congr 1;simp only[Bm]at h;apply List.ext_getElem?;intro k;simp only[splice,Array.toList_setIfInBounds,List.getElem?_append,Ba,Cq,List.length_set,Bh,Bm,By,List.getElem?_drop,List.getElem?_set];grind
def zgo (vs:List Value) (off:Nat) (us:List Value) (h:off+us.length<=vs.length):(splice vs off us).length=vs.length:=by simp[splice];omega
theorem zmc (sz:Nat): ∀(Vs:List Value) (k:Nat) (cur:Array Value),(∀V∈Vs,V.cells.size=sz)->(k+Vs.length)*sz<=cur.size->
 Instr.fill (λi=>some (i*sz,sz)) cur ((Vs.zipIdx k).map λp=>(p.2,p.1))=some (splice cur.toList (k*sz) (Vs.flatMap λV=>V.cells.toList)).toArray
 | [],k,cur,_,_=>by simp[Instr.fill,splice]
 | V::Vs,k,cur,h,a=>by
   have A:=h V (by simp);simp only[Bm]at a;have e:k*sz+sz<=(k+(Vs.length+1))*sz:=by rw[<-Cy];exact Bf _ (by omega)
   have b:V.cells.toList.length=sz:=by simp[A]
   simp only[Cj,List.map_cons,Instr.fill];have f: ¬(V.cells.size≠sz\/k*sz+V.cells.size>cur.size):=by omega
   rw[if_neg (by simpa using f)];have c:k*sz+V.cells.toList.length<=cur.toList.length:=by rw[b,Bh];exact Bz e a
   have d:=zme (k*sz) V.cells.toList 0 cur (by simpa using c);simp only[Da]at d;have m:V.cells.zipIdx.foldl (λ(cs:Array Value) (x:Value × Nat)=>cs.setIfInBounds (k*sz+x.2) x.1) cur=(splice cur.toList (k*sz) V.cells.toList).toArray:=by rw[<-d,<-Array.foldl_toList];simp
   have n:(splice cur.toList (k*sz) V.cells.toList).length=cur.size:=by rw[zgo _ _ _ c];simp
   have ih:=zmc sz Vs (k+1) (splice cur.toList (k*sz) V.cells.toList).toArray (λV A=>h V (by simp[A])) (by grind);refine Eq.trans ?_ (ih.trans ?_)
   ·congr 1
   ·congr 2;have g:(k+1)*sz=k*sz+V.cells.toList.length:=by rw[Cy,b]
    have j:(cur.toList.take (k*sz)).length=k*sz:=by rw[Cq];omega
    have l:(cur.toList.take (k*sz)++V.cells.toList).length=(k+1)*sz:=by rw[Ba,j,g]
    generalize B:(List.flatMap (λV=>V.cells.toList) Vs)=Wl;simp only[splice,List.flatMap_cons,B];rw[<-l,List.take_append_of_le_length (Bl _),Bo (Bl _)];simp only[List.append_assoc];refine congrArg (cur.toList.take (k*sz)++ ·) (congrArg (V.cells.toList++ ·) (congrArg (Wl++ ·) ?_));rw[Cr,Bp (by omega),Bt,Cr,Bp (by rw[Ba];omega),Bt,List.drop_drop];grind
def z7 [Flat α] (l:List α):(l.flatMap (Flat.vals (α:=α))).length=l.length*Enc.sz α:=by
 induction l with
 | nil=>simp
 | cons x l ih=>simp[ih,zf3,Ct,Nat.add_comm]
def OwR (w:World) (f:TypeId) (sz:Nat) (v:Value) (n:Nat) (us:List Value):Prop:=
 us.length=n*sz/\((v= .slice none 0 0/\n=0)\/∃g cap cur,v= .slice (some ⟨g,0,none⟩) n cap/\w.heap[g]? =some (.cells cur f (0,0))/\n<=cap/\cap<=maxLen/\cap*sz<=cur.size/\cur.toList.take (n*sz)=us)
theorem OwR.of {f:TypeId} (h:w.ownsRow 0 f sz v n us):OwR w f sz v n us:=by
 refine ⟨h.1,?_⟩;rcases h.2 with ⟨a,b⟩ | ⟨g,cap,cur,a,_,b,c,d,e,i⟩
 ·simp_all
 ·grind
def OwR.nil (w:World) (f:TypeId) (sz:Nat):OwR w f sz (.slice none 0 0) 0 []:=⟨by simp,.inl ⟨rfl,rfl⟩⟩
def OwR.cells {f:TypeId} {g cap:Nat} (h:OwR w f sz (.slice (some ⟨g,0,none⟩) n cap) n us) (j:Nat) (u:Value) (b:us[j]? =some u):w.cell? ((⟨g,0,none⟩:Addr).add j)=some u:=by
 rcases h.2 with ⟨a,_⟩ | ⟨B,A,cur,a,c,i,k,l,d⟩
 ·cases a
 ·cases a;have hl:=(List.getElem?_eq_some_iff.1 b).1;rw[h.1]at hl;have e:(⟨g,0,none⟩:Addr).add j=⟨g,j,none⟩:=by unfold Addr.add;split<;>simp_all
  rw[e,cell_of_row w g j cur f (0,0) c,<-b,<-d,By,if_pos hl];simp
theorem Ow.ownsRow {cs:List C} {S:List Nat} (h:Ow w v (.sl sz n cs) S): ∃us T e,OwR w e sz v n us/\Ows w us cs T/\S=v.ownBlock.toList++T:=by
 cases h with
 | nil=>exact ⟨[],[],0,OwR.nil w 0 sz,.nil,rfl⟩
 | row b n cap e sz cur vs cs S c a d hs f g=>refine ⟨vs,S,e,⟨?_,.inr ⟨b,cap,cur,rfl,c,a,d,hs,f⟩⟩,g,rfl⟩;have:n*sz<=cap*sz:=Bf _ a;grind
def Ow.of_ownsRow {cs:List C} {T:List Nat} (h:OwR w e sz v n us) (a:Ows w us cs T):Ow w v (.sl sz n cs) (v.ownBlock.toList++T):=by
 rcases h.2 with ⟨rfl,rfl⟩ | ⟨g,cap,cur,rfl,b,c,d,hs,f⟩
 ·have:us= []:=An (by simpa using h.1);subst this;cases a;exact .nil sz
 ·exact .row g n cap e sz cur us cs T b c d hs f a
def zhf {b:Nat} (h:b∈v.ownBlock.toList):v.ownBlock=some b:=by simpa using h
def Chg.of_grown {w':World} (h:w.grownBy w' v.ownBlock) (A:List Nat) (B: ∀b∈v.ownBlock.toList,b∈A):Chg w w' A:=
 ⟨h.os,h.tape,h.output,h.size,λb a c=>h.block b a (λe=>c (B b (by rw[<-e];simp)))⟩
section
variable {P:Program} {w0:World} {S0:List Nat} {R:Type} {m:Option R} {fr:Fr} {is:List Item} {Q:R->Exit->Act->World->Prop}
variable {ty:TypeId} {pos:String} {aft:Array Edge}
def partVs (fr:Fr):Nat->List (Nat × Operand)->Option (List Value)
 | _,[]=>some []
 | k,(i,o)::r=>bif Cu i k then (match ev fr o,partVs fr (k+1) r with
   | some v,some vs=>some (v::vs)
   | _,_=>none) else none
def zlp {n:Nat} {a:Act} (e:FrOk n fr a): ∀{k:Nat} {ps:List (Nat × Operand)} {Vs:List Value},partVs fr k ps=some Vs->(ps.map λ(i,x)=>(i,a.eval x))=(Vs.zipIdx k).map λp=>(p.2,p.1)
 | _,[],_,h=>by simp[partVs]at h;subst h;rfl
 | k,(i,o)::r,Vs,h=>by
   unfold partVs at h;cases c:Cu i k with
   | false=>rw[c]at h;cases h
   | true=>
     have hi:i=k:=by simpa using c
     rw[c]at h;simp only[cond_true]at h;cases b:ev fr o with
     | none=>rw[b]at h;simp at h
     | some v=>
       cases d:partVs fr (k+1) r with
       | none=>rw[b,d]at h;simp at h
       | some vs=>rw[b,d]at h;simp only[Cg]at h;subst h hi;simp[zlp e d,e.eval b]
theorem Ef.buildSlice {α:Type} [Flat α] {d:Option Nat} {gd:Option (Nat × Bool)} {t e sz by_ len:Nat} {ps:List (Nat × Operand)} {Vs:List Value} {z:Value} (xs:List α) (p:elemB P t=some (e,sz,by_)) (q:zeroB P e=some z) (s:Enc.sz α=sz) (u:partVs fr 0 ps=some Vs) (c:xs.length=len) (f:Nat.ble (len*sz) 16777216=true) (g:Vs.map (λV=>V.cells.toList)=xs.map Flat.vals):
 Ef P w0 S0 n fr is ⟨d,.buildSlice t len ps.toArray,ty,pos,aft,gd⟩ (λb:Nat=>.slice (some ⟨b,0,none⟩) len len) (λb=>.own (.slice (some ⟨b,0,none⟩) len len) (lc xs)::is):=by
 obtain ⟨h,O,j,k,_⟩:=zC p;subst s;have I:Vs.length=len:=by rw[<-c];have:=congrArg List.length g;simpa using this
 have J: ∀V∈Vs,V.cells.size=Enc.sz α:=by
  intro V N;have:V.cells.toList∈xs.map Flat.vals:=by rw[<-g];exact Db.2 ⟨V,N,rfl⟩
  obtain ⟨x,_,v⟩:=Db.1 this;rw[<-Bh,<-v,zf3]
 have y:Vs.flatMap (λV=>V.cells.toList)=xs.flatMap Flat.vals:=by grind
 intro a w K Q A hs M;have l: ¬len*Enc.sz α>2 ^ 24:=by have:=Bw f;omega
 have D: ∀G:Array Value,((De (len*Enc.sz α)).map (G[·% G.size]!)).size=len*Enc.sz α:=λG=>by simp
 have m: ∀G:Array Value,Instr.fill (λi=>some (i*Enc.sz α,Enc.sz α)) ((De (len*Enc.sz α)).map (G[·% G.size]!)) (ps.map λ(i,x)=>(i,a.eval x))=some (xs.flatMap Flat.vals).toArray:=by intro G;rw[zlp A u,zmc (Enc.sz α) Vs 0 _ J (by simp[I])];congr 2;rw[y];have hl:=z7 xs;simp only[splice,Nat.zero_mul,List.take_zero,Bt,Dd];simp_all
 have B:(execOp a.eval ⟨d,.buildSlice t len ps.toArray,ty,pos,aft,gd⟩).run P w= .ok (.value (.slice (some ⟨w.heap.size,0,none⟩) len len)) (w.alloc (.cells (xs.flatMap Flat.vals).toArray e)):=by
  by_cases o:len*Enc.sz α=0
  ·simp only[execOp,Instr.buildSlice,Sem.run_bind,run_underlying h,Result.andThen_ok,sizeOf,typeInfo,run_program,j,Sem.run_pure,k,if_neg l,if_pos o];have:=m #[];simp only[Cv];rw[this];rfl
  ·simp only[execOp,Instr.buildSlice,Sem.run_bind,run_underlying h,Result.andThen_ok,sizeOf,typeInfo,run_program,j,Sem.run_pure,k,if_neg l,if_neg o,zgL q];have:=m z.cells;simp only[Cv];rw[this];rfl
 unfold Oper.wp;rw[B];refine M w.heap.size _ ?_;have C:len<=maxLen:=by have E:=Bw f;have F:len<=len*Enc.sz α:=Nat.le_mul_of_pos_right _ (Enc.pos (α:=α));simp only[maxLen];omega
 refine hs.add (Chg.alloc w _ []) _ [w.heap.size] ?_ (by simp) (by simp);subst c;refine .row w.heap.size xs.length xs.length e _ _ _ _ [] (heap_alloc_new w _) (Bl _) C (Nat.le_of_eq (by rw[List.size_toArray,z7]:_=_).symm) rfl ?_;rw[List.toList_toArray,Bo (by rw[z7];exact Bl _)];exact Ows.of_vals (zbb xs)
def app (by_:Nat) (l k:List α):Option (List α):=if (l.length+k.length)*by_<=140737488355328/\l.length+k.length<=9223372036854775807 then some (l++k) else none
def zku {l r:List α} (h:app by_ l k=some r):r=l++k/\(l.length+k.length)*by_<=140737488355328/\l.length+k.length<=9223372036854775807:=by unfold app at h;simp_all
def oneCells [Flat α] (l:List α): ∀u∈l.flatMap (Flat.vals (α:=α)),u.oneCell'=true:=zlT (zbb l)
def Ows.vals {w:World} {us vs:List Value} {cs:List C} {S:List Nat} (h:Ows w us cs S) (a:valsC cs=some vs):us=vs:=by obtain ⟨T,A,_⟩:=h.rds;exact A.vals a
def Ow.noS {c:C} {S:List Nat} (h:Ow w u c S) (a:valC c=some v):S= []:=by cases h<;>simp_all[valC]
def Ows.noS {w:World} : ∀{us vs:List Value} {cs:List C} {S:List Nat},Ows w us cs S->valsC cs=some vs->S= []
 | _,_,[],_,h,_=>by cases h;rfl
 | _,vs,c::cs,_,h,a=>by
   cases h with
   | cons v c S B cs T e f=>
     unfold valsC at a;cases b:valC c with
     | none=>rw[b]at a;simp at a
     | some u=>
       cases d:valsC cs with
       | none=>rw[b,d]at a;simp at a
       | some A=>rw[e.noS b,Ows.noS f d];rfl
def append_room_any {t e E:TypeId} {i:TypeInfo} (d:P.underlying t=some (.slice e)) (hi:P.info? e=some i) (g B D:Nat) (cur:Array Value) (f:w.heap[g]? =some (.cells cur E (0,0))) (a:Addr) (m c:Nat) (A:List Value) (hl:A.length=m*i.size) (h: ∀j u,A[j]? =some u->w.cell? (a.add j)=some u) (k: ∀u∈A,u.oneCell'=true) (l:B+m<=D) (n:B*i.size+A.length<=cur.size):
    (Builtin.append_ #[t,t] ty #[.slice (some ⟨g,0,none⟩) B D,.slice (some a) m c]).run P w=
      .ok (.slice (some ⟨g,0,none⟩) (B+m) D) (w.setRow g (cur.toList.take (B*i.size)++A++cur.toList.drop (B*i.size+A.length)).toArray):=by have o:=run_firstCells_some (P:=P) w i.size m a m c A hl h;have b:=run_storeCells_at P g (B*i.size) E A 0 cur w f (by simpa using n) k;simp only[Da]at b;simp[Builtin.append_,run_underlying d,sizeOf,typeInfo,hi,Builtin.lenOf,l,o,Addr.add_lit,b]
def append_none_any {t e A:TypeId} {B:TypeInfo} (a:P.underlying t=some (.slice e)) (b:P.info? e=some B) (v:Value) (n:Nat) (xs:List Value) (c:OwR w A sz v n xs):
    (Builtin.append_ #[t,t] ty #[v,.slice none 0 0]).run P w= .ok v w:=by
 rcases c.2 with ⟨rfl,rfl⟩ | ⟨g,cap,cur,rfl,f,d,h,i,_⟩
 ·simp[Builtin.append_,run_underlying a,sizeOf,typeInfo,b,Builtin.lenOf,Builtin.firstCells,loadCells,loadCellsFrom]
 ·simp[Builtin.append_,run_underlying a,sizeOf,typeInfo,b,Builtin.lenOf,Builtin.firstCells,loadCells,loadCellsFrom,d,storeCells]
theorem append_raw {t e':Nat} {ti:TypeInfo} (o:P.underlying t=some (.slice e)) (p:P.info? e=some ti) (u:ti.zero=some z) (I:ti.size=sz) (J:ti.bytes=by_) (B:z.cells.size=sz) (C:0<sz) (h:OwR w e' sz v n us) (a:Addr) (m c:Nat) (Z:List Value) (hl:Z.length=m*sz) (s: ∀j q,Z[j]? =some q->w.cell? (a.add j)=some q) (D: ∀q∈Z,q.oneCell'=true) (E:n+m<=9223372036854775807) (d:(n+m)*by_<=140737488355328):
 ∃v' w' f,(Builtin.append_ #[t,t] ty #[v,.slice (some a) m c]).run P w= .ok v' w'/\OwR w' f sz v' (n+m) (us++Z)/\w.grownBy w' v.ownBlock/\∀b∈v'.ownBlock.toList,b∈v.ownBlock.toList\/w.heap.size<=b:=by
 subst I J;rcases h.2 with ⟨rfl,rfl⟩ | ⟨g,cap,cur,rfl,F,V,K,L,W⟩
 ·have M:us= []:=An (by simpa using h.1);subst M;obtain ⟨v',w',G,N,O,X⟩:=run_append_own (P:=P) w 0 t ty e ti z ti.size ti.bytes o p u rfl rfl B C (.slice none 0 0) 0 [] (World.ownsRow_nil w 0 e ti.size) a m c Z hl s D (by simp only[maxLen];exact E) d (Nat.zero_le _);refine ⟨v',w',e,G,.of N,O,?_⟩;intro b hb';have H:=zhf hb';by_cases Y:m=0
  ·simp_all
  ·have i:=run_append_nil (P:=P) (w:=w) t ty e ti z o p u a m c Z hl s (by omega) (by omega) (by have d:=d;simp only[Dd]at d;omega);rw[G]at i;simp only[Result.ok.injEq]at i;rw[i.1]at H;simp only[Value.ownBlock,Cg]at H;omega
 ·by_cases x:n+m<=cap
  ·have Q:n*ti.size+Z.length<=cur.size:=by rw[hl,<-Ct];exact Bz (Bf _ x) L
   have i:=append_room_any (P:=P) (ty:=ty) o p g n cap cur F a m c Z hl s D x Q;have R:(us++Z).length=(n+m)*ti.size:=by rw[Ba,h.1,hl,Ct]
   refine ⟨_,_,e',i,⟨R,.inr ⟨g,cap,_,rfl,setRow_heap w g cur _ e' _ F,x,K,?_,?_⟩⟩,⟨rfl,rfl,rfl,by simp,λk _ y=>setRow_other w g k _ (λe=>y (by simp[Value.ownBlock,e]))⟩,λb d=>.inl d⟩
   ·grind
   ·grind
  ·obtain ⟨v',w',S,A,l⟩:=run_append_arg_grows (P:=P) w t ty e ti z ti.size ti.bytes o p u rfl rfl B C ⟨g,0,none⟩ n cap us h.1 h.cells a m c Z hl s (by omega) (by simp only[maxLen];exact E) d;refine ⟨v',w',e,S,.of ?_,⟨l.os,l.tape,l.output,l.size,λk y _=>l.block k y (by simp)⟩,λb hb'=>.inr (A.lt b (zhf hb')).1⟩;exact ⟨A.1,A.2.imp id λ⟨g,cap,cur,T,_,U⟩=>⟨g,cap,cur,T,Nat.zero_le _,U⟩⟩
theorem append_go [Flat α] {t:Nat} {l r:List α} {is':List Item} (hs':St w0 S0 (.own v (lc l)::is') w) (p:app by_ l k=some r) (s:elemB P t=some (e,sz,by_)) (d:zeroB P e=some z) (x:Cu z.cells.size sz=true) (g:Enc.sz α=sz) (a:Can w0 S0 is u (lc k)) (hs:St w0 S0 is w):
 ∃v' w',(Builtin.append_ #[t,t] ty #[v,u]).run P w= .ok v' w'/\St w0 S0 (.own v' (lc r)::is') w':=by
 obtain ⟨m,ti,h,y,C⟩:=zC s;obtain ⟨rfl,D,E⟩:=zku p;have F:ti.zero=some z:=by unfold zeroB at d;rw[h]at d;simpa using d
 have G:z.cells.size=sz:=by simpa using x
 obtain ⟨os,tape,output,size,base,S,hS,H,V⟩:=hs';obtain ⟨A,B,hAB,hA,hB⟩:=hS;obtain ⟨us,T,e',n,hOws,hAT⟩:=Ow.ownsRow hA;have I:us=l.flatMap Flat.vals:=hOws.vals (zbb l);have hT:T= []:=hOws.noS (zbb l);subst hT;rw[Cx]at hAT;have key: ∃v' w' f,(Builtin.append_ #[t,t] ty #[v,u]).run P w= .ok v' w'/\OwR w' f sz v' (l.length+k.length) (us++k.flatMap Flat.vals)/\w.grownBy w' v.ownBlock/\∀b∈v'.ownBlock.toList,b∈v.ownBlock.toList\/w.heap.size<=b:=by
  rcases a.row hs with ⟨i,_,rfl⟩ | ⟨o,cap,vs,S',rfl,W,J,X,K⟩
  ·have:k= []:=An i;subst this;have L:=append_none_any (ty:=ty) m h v l.length us n;refine ⟨v,w,e',L,?_,⟨rfl,rfl,rfl,Bl _,λ_ _ _=>rfl⟩,λb c=>.inl c⟩;simp_all
  ·have M:vs=k.flatMap Flat.vals:=K.vals (zbb k);subst M;have N: ∀j q,(k.flatMap (Flat.vals (α:=α)))[j]? =some q->w.cell? (o.add j)=some q:=by grind
   exact append_raw m h F y C G (by rw[<-g];exact Enc.pos) (by rw[<-g];exact n) o k.length cap _ (by rw[J,g]) N (oneCells k) E D
 obtain ⟨v',w',f,i,O,Q,Y⟩:=key;refine ⟨v',w',i,?_⟩;have R:Ow w' v' (lc (l++k)) v'.ownBlock.toList:=by have:=Ow.of_ownsRow (cs:=(l++k).flatMap Enc.enc) (T:=[]) O (by rw[I,<-List.flatMap_append];exact Ows.of_vals (zbb (l++k)));rw[Cx]at this;unfold lc;simp_all
 have Z: ∀q:Value,q.ownBlock.toList.Nodup:=by intro q;cases q.ownBlock<;>simp
 obtain ⟨hndA,hndB,U⟩:=List.nodup_append.1 (hAB ▸ H);have hBlt:=zfA hB;have hAin: ∀b∈v.ownBlock.toList,b∈A:=λb c=>by rw[hAT];exact c
 have a:=Chg.of_grown Q A hAin;refine ⟨a.os.trans os,a.tape.trans tape,a.output.trans output,Bz size a.size,?_,v'.ownBlock.toList++B,⟨_,B,rfl,R,zgI hB λb c=>a.keep b (hBlt b c) λhbA=>U b hbA b c rfl⟩,?_,?_⟩
 ·intro b c a1;rw[a.keep b (Nat.lt_of_lt_of_le c size) λhbA=>?_]
  ·simp_all
  ·grind
 ·grind
 ·grind
def Ef.append {α:Type} [Flat α] {d:Option Nat} {gd:Option (Nat × Bool)} {t e sz by_:Nat} {x y:Operand} {z:Value} {l k r:List α} {v u:Value} {is':List Item} (D:List Nat) (c:app by_ l k=some r) (f:elemB P t=some (e,sz,by_)) (g:zeroB P e=some z) (h:Cu z.cells.size sz=true) (i:Enc.sz α=sz) (j:pulls D is=some (.own v (lc l)::is')) (m:ev fr x=some v) (o:ev fr y=some u) (p:Can w0 S0 is u (lc k)):
    Ef P w0 S0 n fr is ⟨d,.call {callee:=.builtin .append,args:=#[x,y],argTypes:=#[t,t]},ty,pos,aft,gd⟩ (λB:Value=>B) (λB=>.own B (lc r)::is'):=by
 intro a w K Q b hs E;obtain ⟨B,w',q,s⟩:=append_go (ty:=ty) (hs.pulls D j) c f g h i p hs;have A:(execOp a.eval ⟨d,.call {callee:=.builtin .append,args:=#[x,y],argTypes:=#[t,t]},ty,pos,aft,gd⟩).run P w= .ok (.value B) w':=by simp[execOp,resolve,invoke,builtin,b.eval m,b.eval o,q]
 unfold Oper.wp;rw[A];exact E B w' s
def St.nilItem (h:St w0 S0 is w) (sz:Nat):St w0 S0 (.own (.slice none 0 0) (.sl sz 0 [])::is) w:=
 h.add (Chg.refl w []) _ [] (.nil sz) (by simp) (by simp)
def Ef.append_nil [Flat α] {d:Option Nat} {gd:Option (Nat × Bool)} {t:Nat} {x y:Operand} {r:List α} (c:app by_ [] k=some r) (f:elemB P t=some (e,sz,by_)) (g:zeroB P e=some z) (h:Cu z.cells.size sz=true) (i:Enc.sz α=sz) (j:ev fr x=some (.slice none 0 0)) (m:ev fr y=some u) (o:Can w0 S0 is u (lc k)):
    Ef P w0 S0 n fr is ⟨d,.call {callee:=.builtin .append,args:=#[x,y],argTypes:=#[t,t]},ty,pos,aft,gd⟩ (λA:Value=>A) (λA=>.own A (lc r)::is):=by
 intro a w K Q b hs B;obtain ⟨A,w',p,q⟩:=append_go (ty:=ty) (l:=([]:List α)) (hs.nilItem (Enc.sz α)) c f g h i o hs;have s:(execOp a.eval ⟨d,.call {callee:=.builtin .append,args:=#[x,y],argTypes:=#[t,t]},ty,pos,aft,gd⟩).run P w= .ok (.value A) w':=by simp[execOp,resolve,invoke,builtin,b.eval j,b.eval m,p]
 unfold Oper.wp;rw[s];exact B A w' q
end
end Go.Proofs.YtmenicbkddagmaaGreat.Sl
end
section
open List renaming mem_cons_of_mem->An,mem_cons_self->Bh,append_assoc->Bl,filter_cons->Bm,map_cons->Bo,mem_cons->Bp,perm_append_comm->Bt,map_map->By,nodup_cons->Bz,mem_singleton->Cq,all_eq_true->Ct
open Bool renaming and_eq_true->Ba,not_eq_true'->Bw,or_eq_true->Cu
open Nat renaming blt->Bf,eq_of_beq_eq_true->Cg,testBit_two_pow->Cj,beq_refl->Cr,strongRecOn->Cv,testBit_or->Cx,beq->Cy,or_assoc->Da
namespace Go.Proofs.YtmenicbkddagmaaGreat.Sl
open Go Go.RowKit
variable {P:Program} {w0 w:World} {S0:List Nat} {ops:Array Oper} {X τ R σ ρ:Type} {fuel L d i n:Nat} {is:List Item} {v:Value} {o:Oper} {m:Option R} {fr:Fr} {c:Code} {a:Act} {Q:R->Exit->Act->World->Prop} {k:τ->Option R} {is':X->List Item}
section
theorem TW.joinB {m:Option τ} (Mid:τ->Act->World->Prop) (f:TW P w0 S0 m n fr is c (λx e a w=>e= .normal/\Mid x a w)) (h: ∀t a w,Mid t a w->∀r,k t=some r->Q r .normal a w):TW P w0 S0 (m.bind k) n fr is c Q:=by
 intro r b a w g hs;cases d:m with
 | none=>rw[d]at b;cases b
 | some x=>rw[d]at b;simp only[Option.bind_some]at b;refine wp_mono (f x d a w g hs) ?_;grind
theorem TO.ite {b:Bool} {m1 m2:Option R} {l:List Oper} (a:b=true->TO P w0 S0 m1 n fr is ops l Q) (c:b=false->TO P w0 S0 m2 n fr is ops l Q):
 TO P w0 S0 (if b=true then m1 else m2) n fr is ops l Q:=by grind
end
section
variable {Q:Exit->Act->World->Prop} {S:Array Bool->World->Prop}
def wpS (P:Program) (ops:Array Oper) (Q:Exit->Act->World->Prop) (S:Array Bool->World->Prop):Nat->Array Bool->Act->World->Prop
 | 0,L,a,w=>Region.ready .any ops L= []/\Q .normal a w
 | f+1,L,a,w=>(Region.ready .any ops L= []->Q .normal a w)/\∀i∈Region.ready .any ops L,wpOp P ops Q i (λh w'=>S (L.setIfInBounds i true) w'/\wpS P ops Q S f (L.setIfInBounds i true) h w') a w
def wpS.any: ∀{f:Nat} {L:Array Bool} {a:Act} {w:World},wpS P ops Q S f L a w->wpAny P .any ops Q f L a w
 | 0,_,_,_,h=>h
 | _+1,_,_,_,h=>⟨h.1,λi hi=>wpOp_mono (λ_ _ k=>wpS.any k.2) (h.2 i hi)⟩
def wpS.done {L:Array Bool} (b:Region.ready .any ops L= []) (h:Q .normal a w): ∀f,wpS P ops Q S f L a w
 | 0=>⟨b,h⟩
 | _+1=>⟨λ_=>h,λi hi=>by rw[b]at hi;cases hi⟩
def wpS.all {f:Nat} {L:Array Bool} (b:Region.ready .any ops L≠[]) (h: ∀i∈Region.ready .any ops L,wpOp P ops Q i (λA w'=>S (L.setIfInBounds i true) w'/\wpS P ops Q S f (L.setIfInBounds i true) A w') a w):wpS P ops Q S (f+1) L a w:=
 ⟨λc=>absurd c b,h⟩
def waits (ops:Array Oper) (i B:Nat):Bool:=(List.range ops.size).all λj=>!B.testBit j||((ops[j]?).map λo=>o.after.toList.any λe=>Region.binds .any e&&(Cy e.on i||B.testBit e.on)).getD false
def noneOf (B:Nat) (L:Array Bool):Prop:=∀j,B.testBit j=true->L.getD j false=false
def noneOf.set {B:Nat} {L:Array Bool} (g:waits ops i B=true) (A: ∀j,B.testBit j=true->j<ops.size) (hi:L.getD i false=false) (d:noneOf B L) {j:Nat} (h:j∈Region.ready .any ops L):noneOf B (L.setIfInBounds j true):=by
 intro k c;by_cases f:j=k
 ·exfalso;subst f;obtain ⟨-,o,l,m⟩:=mem_ready.1 h;have:=Ct.1 g j (List.mem_range.2 (A j c));rw[c,l]at this;simp only[Bool.not_true,Bool.false_or,Option.map_some,Option.getD_some,List.any_eq_true,Ba,Cu]at this;obtain ⟨e,n,p,a⟩:=this;have b:=m e (Array.mem_toList_iff.1 n) p;rcases a with a | a
  ·rw[Cg a,hi]at b;cases b
  ·rw[d _ a]at b;cases b
 ·rw[getD_set_ne false f];exact d k c
theorem wpS.first {B:Nat} {W:Oper} {Su:World->Prop} (hi:ops[i]? =some W) (q:Region.noSelect ops=true) (hQ: ∀c a w,Q (.panic c) (a.put W.dst v) w->Q (.panic c) a w) (u:waits ops i B=true) (Z: ∀j,B.testBit j=true->j<ops.size) (hS: ∀L w,noneOf B L->S L w->Su w) (U: ∀L w,S (L.setIfInBounds i true) w↔S L w): ∀(f:Nat) (L:Array Bool) (a:Act) (w:World),
 (∀j V,ops[j]? =some V->j≠i->L.getD j true=false->(∀e∈V.after,Region.binds .any e=true->e.on≠i)->W.apart ops V=true)->
 i∈Region.ready .any ops L->noneOf B L->YieldsIf P ops Su W v a->S L w->wpS P ops Q S f (L.setIfInBounds i true) (a.put W.dst v) w->wpS P ops Q S (f+1) L a w:=by
 intro f;induction f with
 | zero=>
   intro L a w _ g l n hs H;refine ⟨λh=>(by rw[h]at g;cases g),λj m=>?_⟩;by_cases d:j=i
   ·subst d;exact n.wpOp hi (hS L w l hs) ⟨(U L w).2 hs,H⟩
   ·have:=ready_mono m d;rw[H.1]at this;trivial
 | succ f ih=>
   intro L a w s g l n hs H;refine ⟨λh=>(by rw[h]at g;cases g),λj m=>?_⟩;by_cases d:j=i
   ·subst d;exact n.wpOp hi (hS L w l hs) ⟨(U L w).2 hs,H⟩
   ·have x:=H.2 j (ready_mono m d);obtain ⟨y,V,o,J⟩:=mem_ready.1 m;have z:L.getD i false=false:=by have K:=(mem_ready.1 g).1;grind
    have A: ∀e∈V.after,Region.binds .any e=true->e.on≠i:=λe M l N=>by grind
    have C:=wpOp_putIf o (s j V o d y A) (λcs b=>Region.noSelect_spec q i W cs b hi) (λcs b=>Region.noSelect_spec q j V cs b o) hQ n x;refine wpOp_mono (λa' w' D=>?_) C;obtain ⟨E,p,t⟩:=D;rw[Array.setIfInBounds_comm _ _ (Ne.symm d)]at p t;refine ⟨(U _ _).1 p,ih (L.setIfInBounds j true) a' w' (λk ok F G O I=>?_) (ready_mono g (Ne.symm d)) (l.set u Z z m) E ((U _ _).1 p) t⟩;refine s k ok F G ?_ I;by_cases R:j=k
    ·simp_all
    ·simp_all
end
def bm (n L:Nat):Array Bool:=⟨(List.range n).map L.testBit⟩
def zwJ (n:Nat):bm n 0=Array.replicate n false:=by
 apply Array.ext
 ·simp[bm]
 ·intro i a b;simp[bm]
theorem zow (n L i:Nat):(bm n L).setIfInBounds i true=bm n (L ||| 2 ^ i):=by
 apply Array.ext
 ·simp[bm]
 ·intro j a b;rw[Array.getElem_setIfInBounds (by simpa using a)];simp only[bm,List.getElem_toArray,List.getElem_map,List.getElem_range,Cx,Cj];grind
def zkw {a b:Nat} :Bf a b=true↔a<b:=by unfold Bf;rw[Nat.ble_eq];exact Iff.rfl
def zuV {a b:Nat} :Bf a b=false↔b<=a:=by rw[<-Bool.not_eq_true,zkw];omega
def zuW (n L j:Nat):(bm n L).getD j false=(Bf j n&&L.testBit j):=by
 by_cases h:j<n
 ·have:=zkw.2 h;simp[bm,h,this]
 ·have:=zuV.2 (Nat.le_of_not_lt h);simp[bm,h,this]
abbrev Hd:=List (Item × Nat)
variable {H:Hd}
def hl' (n L:Nat):Hd->List Item
 | []=>[]
 | (i,b)::H=>bif Bf b n&&L.testBit b then hl' n L H else i::hl' n L H
def hlA (L:Array Bool) (H:Hd):List Item:=(H.filter λp=>!L.getD p.2 false).map Prod.fst
theorem zoG (n L:Nat) (H:Hd):hlA (bm n L) H=hl' n L H:=by
 induction H with
 | nil=>rfl
 | cons p H ih=>obtain ⟨i,b⟩:=p;unfold hl';rw[<-ih];unfold hlA;rw[Bm];simp only[zuW];grind
def hb' (n B:Nat):Hd->List Item
 | []=>[]
 | (i,b)::H=>bif Bf b n&& !B.testBit b then hb' n B H else i::hb' n B H
def nob (i:Nat):Hd->Bool
 | []=>true
 | (_,b)::H=>!Nat.beq b i&&nob i H
theorem zjx {w:World} : ∀{is js:List Item} {S:List Nat},is.Sublist js->sats w js S->∃T,sats w is T/\T.Sublist S
 | _,_,_,.slnil,h=>⟨_,h,.refl _⟩
 | _,_,_,.cons _ h,⟨A,B,rfl,_,a⟩=>by obtain ⟨T,b,c⟩:=zjx h a;grind
 | _,_,_,.cons_cons _ h,⟨A,B,rfl,d,a⟩=>by obtain ⟨T,b,c⟩:=zjx h a;exact ⟨A++T,⟨A,T,rfl,d,b⟩,(List.append_sublist_append_left A).2 c⟩
def St.sublist {js:List Item} (h:is.Sublist js) (hs:St w0 S0 js w):St w0 S0 is w:=by obtain ⟨os,tape,output,size,base,S,A,c,d⟩:=hs;obtain ⟨T,B,a⟩:=zjx h A;exact ⟨os,tape,output,size,base,T,B,a.nodup c,λb e=>d b (a.subset e)⟩
def sfx (is js:List Item):List Item:=is.drop (is.length - js.length)
def St.sfx {w0 w:World} {S0:List Nat} {is js:List Item} (h:Sl.sfx is js=js) (hs:St w0 S0 is w):St w0 S0 js w:=by rw[<-h];exact hs.sublist (List.drop_sublist ..)
def zve {n B:Nat} {L:Array Bool} (hl:L.size=n) (c:noneOf B L): ∀H:Hd,(hb' n B H).Sublist (hlA L H)
 | []=>.slnil
 | (i,b)::H=>by
   have ih:=zve hl c H;unfold hb' hlA;rw[Bm];cases a:Bf b n&& !B.testBit b with
   | true=>
     simp only[cond_true];split
     ·exact .cons _ ih
     ·trivial
   | false=>
     have:L.getD b false=false:=by
      rw[Bool.and_eq_false_iff]at a;rcases a with a | a
      ·have:=zuV.1 a;simp_all
      ·exact c b (by simpa using a)
     simp only[this,Bool.not_false,if_true,cond_false,Bo];exact .cons_cons _ ih
theorem ztJ {i:Nat} {L:Array Bool} : ∀{H:Hd},nob i H=true->hlA (L.setIfInBounds i true) H=hlA L H
 | [],_=>rfl
 | (j,b)::H,h=>by
   unfold nob at h;rw[Ba]at h;have a:i≠b:=by intro e;simp_all
   have ih:=ztJ (L:=L) h.2;unfold hlA at ih |-
   rw[Bm,Bm,getD_set_ne false a];grind
section
variable (P w0 S0) in
def TA (m:Option R) (n:Nat) (fr:Fr) (is:List Item) (H:Hd) (ops:Array Oper) (fuel L:Nat) (Q:R->Exit->Act->World->Prop):Prop:=
 ∀r,m=some r->∀a w,FrOk n fr a->St w0 S0 is w->wpS P ops (NoPanic (Q r)) (λL=>St w0 S0 (hlA L H)) fuel (bm ops.size L) a w
def TW.draw {id:Nat} (b:P.follows .mixedOrders=true) (h:TA P w0 S0 m n fr is H ops ops.size 0 Q):
    TW P w0 S0 m n fr is (.region id ops true) Q:=by intro r c a w d hs;refine wp_region_noPanic (wp_region_any b ?_);rw[<-zwJ];exact (h r c a _ d (hs.same (Chg.drew w []))).any
def TA.bind {X:Type} {p:Option X} {k:X->Option R} {H:Hd} {ops:Array Oper} {fuel L:Nat} (h: ∀x,p=some x->TA P w0 S0 (k x) n fr is H ops fuel L Q):
    TA P w0 S0 (p.bind k) n fr is H ops fuel L Q:=by
 intro r b a w c hs;cases p with
 | none=>cases b
 | some x=>exact h x rfl r b a w c hs
theorem TA.ite {b:Bool} {m1 m2:Option R} (a:b=true->TA P w0 S0 m1 n fr is H ops fuel L Q) (c:b=false->TA P w0 S0 m2 n fr is H ops fuel L Q):
 TA P w0 S0 (if b=true then m1 else m2) n fr is H ops fuel L Q:=by grind
def NoPanic.keep {Q:Exit->Act->World->Prop} {d:Option Nat} : ∀c a w,NoPanic Q (.panic c) (a.put d v) w->NoPanic Q (.panic c) a w:=λ_ _ _ h=>h.elim
def rdyB (ops:Array Oper) (i L B:Nat):Bool:=Region.noSelect ops&&(Region.free .any ops (bm ops.size L) i&&((Region.ready .any ops (bm ops.size L)).contains i&&(waits ops i B&&(Bf B (2 ^ ops.size)&&Cy (L &&& B) 0))))
theorem TA.first {H:Hd} {ops:Array Oper} {fuel L i B:Nat} {o:Oper} {v:Value} {Q:Exit->Act->World->Prop} {a:Act} {w:World} (hi:ops[i]? =some o) (b:rdyB ops i L B=true) (d:nob i H=true) (e:YieldsIf P ops (St w0 S0 (hb' ops.size B H)) o v a) (hs:St w0 S0 (hl' ops.size L H) w) (h:wpS P ops (NoPanic Q) (λL=>St w0 S0 (hlA L H)) fuel (bm ops.size (L ||| 2 ^ i)) (a.put o.dst v) w):wpS P ops (NoPanic Q) (λL=>St w0 S0 (hlA L H)) (fuel+1) (bm ops.size L) a w:=by
 unfold rdyB at b;simp only[Ba]at b;obtain ⟨g,l,m,n,p,q⟩:=b;have s:=zkw.1 p;have t:L &&& B=0:=by simpa using q
 have A: ∀j,B.testBit j=true->j<ops.size:=λj c=>Nat.lt_of_not_le λu=>by rw[Nat.testBit_lt_two_pow (Nat.lt_of_lt_of_le s (Nat.pow_le_pow_right (by decide) u))]at c;cases c
 have key:wpS P ops (NoPanic Q) (λL w=>L.size=ops.size/\St w0 S0 (hlA L H) w) (fuel+1) (bm ops.size L) a w:=by
  refine wpS.first (B:=B) (Su:=St w0 S0 (hb' ops.size B H)) hi g NoPanic.keep n A (λL w x hs=>hs.2.sublist (zve hs.1 x H)) (λL w=>?_) fuel _ a w (Region.free_spec hi l) (by simpa using m) (λj c=>?_) e ⟨by simp[bm],by rw[zoG];exact hs⟩ ?_
  ·rw[Array.size_setIfInBounds,ztJ d]
  ·rw[zuW];have:=congrArg (·.testBit j) t;grind
  ·rw[zow];have: ∀(f:Nat) (L:Array Bool) (a:Act) (w:World),L.size=ops.size->wpS P ops (NoPanic Q) (λL=>St w0 S0 (hlA L H)) f L a w->wpS P ops (NoPanic Q) (λL w=>L.size=ops.size/\St w0 S0 (hlA L H) w) f L a w:=by
    intro f;induction f with
    | zero=>exact λL a w _ h=>h
    | succ f ih=>exact λL a w hl h=>⟨h.1,λi hi=>wpOp_mono (λD w' k=>⟨⟨by simpa using hl,k.1⟩,ih _ _ _ (by simpa using hl) k.2⟩) (h.2 i hi)⟩
   exact this _ _ _ _ (by simp[bm]) h
 have: ∀(f:Nat) (L:Array Bool) (a:Act) (w:World),wpS P ops (NoPanic Q) (λL w=>L.size=ops.size/\St w0 S0 (hlA L H) w) f L a w->wpS P ops (NoPanic Q) (λL=>St w0 S0 (hlA L H)) f L a w:=by
  intro f;induction f with
  | zero=>exact λL a w h=>h
  | succ f ih=>exact λL a w h=>⟨h.1,λi hi=>wpOp_mono (λD w' k=>⟨k.1.2,ih _ _ _ k.2⟩) (h.2 i hi)⟩
 simp_all
def TA.y (i B:Nat) (hi:ops[i]? =some o) (e:Y P w0 S0 n fr (hb' ops.size B H) o v) (f:Gd ops fr o true) (g:o.dst=some d) (j:Bf d n=true) (k:rdyB ops i L B=true) (l:nob i H=true) (A:sfx is (hl' ops.size L H)=hl' ops.size L H) (h:TA P w0 S0 m n ((d,v)::fr) is H ops fuel (L ||| 2 ^ i) Q):TA P w0 S0 m n fr is H ops (fuel+1) L Q:=by intro r p a w b c;refine TA.first hi k l (.inl ⟨f.wanted b,λw' q=>e a w' b q⟩) (c.sfx A) ?_;rw[g];exact h r p _ w (b.put j v) c
def TA.off (i:Nat) (hi:ops[i]? =some o) (e:Gd ops fr o false) (f:o.dst=some d) (g:Bf d n=true) (j:rdyB ops i L 0=true) (k:nob i H=true) (A:sfx is (hl' ops.size L H)=hl' ops.size L H) (h:TA P w0 S0 m n ((d,undef)::fr) is H ops fuel (L ||| 2 ^ i) Q):TA P w0 S0 m n fr is H ops (fuel+1) L Q:=by intro r l a w b c;refine TA.first (B:=0) hi j k (.inr ⟨e.wanted b,rfl⟩) (c.sfx A) ?_;rw[f];exact h r l _ w (b.put g undef) c
def TX (P:Program) (w0:World) (S0:List Nat) (m:Option R) (n:Nat) (fr:Fr) (is:List Item) (H:Hd) (ops:Array Oper) (fuel L:Nat) (Q:R->Exit->Act->World->Prop) (i:Nat):Prop:=
 ∀r,m=some r->∀a w,FrOk n fr a->St w0 S0 is w->
  wpOp P ops (NoPanic (Q r)) i (λh w'=>St w0 S0 (hl' ops.size (L ||| 2 ^ i) H) w'/\wpS P ops (NoPanic (Q r)) (λL=>St w0 S0 (hlA L H)) fuel (bm ops.size (L ||| 2 ^ i)) h w') a w
def TX.ef {val:X->Value} (hi:ops[i]? =some o) (c:Ef P w0 S0 n fr is o val is') (e:Gd ops fr o true) (f:o.dst=some d) (g:Bf d n=true) (A: ∀x,sfx (is' x) (hl' ops.size (L ||| 2 ^ i) H)=hl' ops.size (L ||| 2 ^ i) H) (h: ∀x,TA P w0 S0 m n ((d,val x)::fr) (is' x) H ops fuel (L ||| 2 ^ i) Q):TX P w0 S0 m n fr is H ops fuel L Q i:=by intro r j a w b hs;unfold wpOp;simp only[hi,e.wanted b,if_true];refine .inl (c a w _ _ b hs λx w' hs'=>?_);rw[f];exact ⟨hs'.sfx (A x),h x r j _ _ (b.put g _) hs'⟩
def TX.ef0 {val:X->Value} (hi:ops[i]? =some o) (c:Ef P w0 S0 n fr is o val is') (d:Gd ops fr o true) (e:o.dst=none) (A: ∀x,sfx (is' x) (hl' ops.size (L ||| 2 ^ i) H)=hl' ops.size (L ||| 2 ^ i) H) (h: ∀x,TA P w0 S0 m n fr (is' x) H ops fuel (L ||| 2 ^ i) Q):TX P w0 S0 m n fr is H ops fuel L Q i:=by intro r f a w b hs;unfold wpOp;simp only[hi,d.wanted b,if_true];refine .inl (c a w _ _ b hs λx w' hs'=>?_);rw[e];exact ⟨hs'.sfx (A x),h x r f _ _ b hs'⟩
def TX.y (hi:ops[i]? =some o) (c:Y P w0 S0 n fr is o v) (e:Gd ops fr o true) (f:o.dst=some d) (g:Bf d n=true) (A:sfx is (hl' ops.size (L ||| 2 ^ i) H)=hl' ops.size (L ||| 2 ^ i) H) (h:TA P w0 S0 m n ((d,v)::fr) is H ops fuel (L ||| 2 ^ i) Q):TX P w0 S0 m n fr is H ops fuel L Q i:=by intro r j a w b hs;unfold wpOp;simp only[hi,e.wanted b,if_true];refine .inl ?_;unfold Oper.wp;rw[c a w b hs];refine ⟨hs.sfx A,?_⟩;rw[f];exact h r j _ _ (b.put g _) hs
def TA.all {H:Hd} {ops:Array Oper} {fuel L:Nat} (A:List Nat) (b:Region.ready .any ops (bm ops.size L)=A) (c:A≠[]) (h: ∀i∈A,TX P w0 S0 m n fr is H ops fuel L Q i):
    TA P w0 S0 m n fr is H ops (fuel+1) L Q:=by intro r d a w e hs;refine wpS.all (by rw[b];exact c) λi hi=>?_;rw[b]at hi;rw[zow,zoG];exact h i hi r d a w e hs
def TA.one (i:Nat) (a:Region.ready .any ops (bm ops.size L)= [i]) (h:TX P w0 S0 m n fr is H ops fuel L Q i):
    TA P w0 S0 m n fr is H ops (fuel+1) L Q:=
 TA.all [i] a (by simp) λj b=>by rw[Cq.1 b];exact h
theorem TA.two (i j:Nat) (a:Region.ready .any ops (bm ops.size L)= [i,j]) (b:TX P w0 S0 m n fr is H ops fuel L Q i) (c:TX P w0 S0 m n fr is H ops fuel L Q j):
 TA P w0 S0 m n fr is H ops (fuel+1) L Q:=
 TA.all [i,j] a (by simp) λk d=>by grind
def TA.nil (b:Region.ready .any ops (bm ops.size L)= []) (h:TE w0 S0 m n fr is .normal Q):TA P w0 S0 m n fr is H ops fuel L Q:=
 λr c a w d hs=>wpS.done b (NoPanic.normal (h r c a w d hs)) fuel
end
theorem zvC {js:List Item} (h:is.Perm js): ∀S,sats w is S->∃T,sats w js T/\T.Perm S:=by
 induction h with
 | nil=>exact λS E=>⟨S,E,.refl _⟩
 | cons i _ ih=>rintro S ⟨A,B,rfl,a,b⟩;obtain ⟨T,c,d⟩:=ih B b;exact ⟨A++T,⟨A,T,rfl,a,c⟩,List.Perm.append_left A d⟩
 | swap i j l=>rintro S ⟨A,_,rfl,a,B,D,rfl,b,c⟩;refine ⟨B++(A++D),⟨B,_,rfl,b,A,D,rfl,a,c⟩,?_⟩;grind
 | trans _ _ F G=>grind
def St.permL {js:List Item} (c:is.Perm js) (h:St w0 S0 is w):St w0 S0 js w:=by obtain ⟨os,tape,output,size,base,S,A,d,e⟩:=h;obtain ⟨T,B,a⟩:=zvC c S A;exact ⟨os,tape,output,size,base,T,B,a.nodup_iff.2 d,λb f=>e b (a.mem_iff.1 f)⟩
def EfA (P:Program) (w0:World) (S0:List Nat) (n:Nat) (fr:Fr) (is:List Item) (o:Oper) (val:X->Value) (is':X->List Item):Prop:=
 ∀a h,(∀{v c},Base w0 S0 v c->Base a h v c)->Ef P a h n fr is o val is'
def EfA.frame {P:Program} {w0:World} {S0:List Nat} {n:Nat} {fr:Fr} {is:List Item} {o:Oper} {X:Type} {val:X->Value} {is':X->List Item} (h:EfA P w0 S0 n fr is o val is') (Z:List Item):Ef P w0 S0 n fr (is++Z) o val (λx=>is' x++Z):=by intro a w K Q b hs D;obtain ⟨A,B,d,e⟩:=hs.frame;exact h w A (λ{v c} f=>d v c f.can) a w K Q b B λx w' hs'=>D x w' (e _ _ hs')
structure Side where
 i:Nat
 d:Nat
 X:Type
 val:X->Value
 new:X->List Item
abbrev Tau:=List (Σ s:Side,Option s.X)
def tIt:Tau->List Item
 | []=>[]
 | ⟨s,some x⟩::τ=>s.new x++tIt τ
 | ⟨_,none⟩::τ=>tIt τ
def tBit:Tau->Nat->Nat
 | [],L=>L
 | ⟨s,some _⟩::τ,L=>tBit τ (L ||| 2 ^ s.i)
 | ⟨_,none⟩::τ,L=>tBit τ L
def tNo:Tau->List Nat
 | []=>[]
 | ⟨_,some _⟩::τ=>tNo τ
 | ⟨s,none⟩::τ=>s.i::tNo τ
def tFr (a:Act):Tau->Prop
 | []=>True
 | ⟨s,some x⟩::τ=>a.tmps[s.d]? =some (s.val x)/\tFr a τ
 | ⟨_,none⟩::τ=>tFr a τ
def zk4 (i:Nat): ∀(τ:Tau) (L:Nat),tBit τ (L ||| 2 ^ i)=tBit τ L ||| 2 ^ i
 | [],_=>rfl
 | ⟨s,some _⟩::τ,L=>by show tBit τ (L ||| 2 ^ i ||| 2 ^ s.i)=_;rw[Da,Nat.or_comm (2 ^ i),<-Da,zk4 i τ];rfl
 | ⟨_,none⟩::τ,L=>zk4 i τ L
theorem zou (i:Nat): ∀(τ:Tau),i∈tNo τ->∃s∈τ.map Sigma.fst,s.i=i/\∀x:s.X,∃τ':Tau,τ'.map Sigma.fst=τ.map Sigma.fst/\(tNo τ').length+1=(tNo τ).length/\(∀L,tBit τ' L=tBit τ L ||| 2 ^ i)/\(s.new x++tIt τ).Perm (tIt τ')/\
 ∀a F:Act,(∀k,k≠s.d->F.tmps[k]? =a.tmps[k]?)->F.tmps[s.d]? =some (s.val x)->(∀t∈τ.map Sigma.fst,t.i=s.i\/t.d≠s.d)->(τ.map λp=>p.1.i).Nodup->tFr a τ->tFr F τ'
 | [],h=>by cases h
 | ⟨s,none⟩::τ,h=>by
   by_cases hs:s.i=i
   ·refine ⟨s,by simp,hs,λx=>⟨⟨s,some x⟩::τ,by simp,by simp[tNo],λL=>?_,.refl _,λa F c f g j e=>⟨f,?_⟩⟩⟩
    ·show tBit τ (L ||| 2 ^ s.i)=_;rw[zk4,hs];rfl
    ·have key: ∀τ:Tau,(∀p∈τ,p.1.d≠s.d)->tFr a τ->tFr F τ:=by
      intro τ;induction τ with
      | nil=>exact λ_ _=>trivial
      | cons p τ ih=>
        intro l b;obtain ⟨t,o⟩:=p;cases o with
        | none=>exact ih (λq m=>l q (An _ m)) b
        | some y=>exact ⟨by rw[c _ (l ⟨t,some y⟩ (Bh ..))];exact b.1,ih (λq m=>l q (An _ m)) b.2⟩
     refine key τ (λp l=>?_) e;simp_all
   ·have E:i∈tNo τ:=by
     rcases Bp.1 h with h | h
     ·omega
     ·exact h
    obtain ⟨t,b,n,v⟩:=zou i τ E;refine ⟨t,by simp at b |-;exact .inr b,n,λx=>?_⟩;obtain ⟨τ',w,D,z,A,B⟩:=v x;refine ⟨⟨s,none⟩::τ',by simp[w],by simp[tNo];omega,z,A,λa F c f g j e=>B a F c f (λu C=>g u (An _ C)) (Bz.1 j).2 e⟩
 | ⟨s,some y⟩::τ,h=>by
   obtain ⟨t,b,n,v⟩:=zou i τ h;refine ⟨t,by simp at b |-;exact .inr b,n,λx=>?_⟩;obtain ⟨τ',w,D,z,A,B⟩:=v x;refine ⟨⟨s,some y⟩::τ',by simp[w],D,λL=>z _,?_,λa F c f g j e=>⟨?_,B a F c f (λu C=>g u (An _ C)) (Bz.1 j).2 e.2⟩⟩
   ·show (t.new x++(s.new y++tIt τ)).Perm (s.new y++tIt τ');rw[<-Bl];exact (List.Perm.append_right _ Bt).trans (by rw[Bl];exact List.Perm.append_left _ A)
   ·rw[c s.d ?_]
    ·exact e.1
    ·grind
def nokey (d:Nat):Fr->Bool
 | []=>true
 | (k,_)::fr=>!Nat.beq k d&&nokey d fr
def zso {d k:Nat} {v:Value} : ∀{fr:Fr},nokey d fr=true->lk k fr=some v->k≠d
 | [],_,h=>by cases h
 | (j,u)::fr,h,a=>by
   unfold nokey at h;rw[Ba,Bw]at h;unfold lk at a;cases b:Cy k j with
   | true=>intro e;simp_all
   | false=>rw[b]at a;exact zso h.2 a
theorem zmG {k:Nat} (h:k≠d):(a.put (some d) v).tmps[k]? =a.tmps[k]?:=by simp only[Act.put];grind
def FrOk.stay (h:FrOk n fr a) (c:nokey d fr=true) (v:Value):FrOk n fr (a.put (some d) v):=
 ⟨by simp[Act.put,h.size],h.defers,λk u b=>by rw[zmG (zso c b)];exact h.get k u b⟩
def othr (i d:Nat):List Side->Bool
 | []=>true
 | t::σ=>!Nat.beq t.i i&&(!Nat.beq t.d d&&othr i d σ)
def sideC (fr fr0:Fr) (H:Hd):List Side->Bool
 | []=>true
 | s::σ=>nokey s.d fr&&(nokey s.d fr0&&(nob s.i H&&(othr s.i s.d σ&&sideC fr fr0 H σ)))
def zhO {i d:Nat} : ∀{σ:List Side},othr i d σ=true->∀t∈σ,t.i≠i/\t.d≠d
 | t::σ,h,u,a=>by
   unfold othr at h;simp only[Ba,Bw]at h;obtain ⟨b,c,f⟩:=h;rcases Bp.1 a with rfl | a
   ·exact ⟨λe=>(by rw[e,Cr]at b;cases b),λe=>(by rw[e,Cr]at c;cases c)⟩
   ·exact zhO f u a
theorem zkc {fr fr0:Fr} {H:Hd} : ∀{σ:List Side},sideC fr fr0 H σ=true->(∀s∈σ,nokey s.d fr=true/\nokey s.d fr0=true/\nob s.i H=true)/\(∀s∈σ,∀t∈σ,t.i=s.i\/t.d≠s.d)/\(σ.map (·.i)).Nodup
 | [],_=>⟨λs h=>(by cases h),λs h=>(by cases h),List.nodup_nil⟩
 | s::σ,h=>by
   unfold sideC at h;simp only[Ba]at h;obtain ⟨n,o,p,g,j⟩:=h;obtain ⟨a,b,c⟩:=zkc j;refine ⟨λt f=>?_,λt f u k=>?_,Bz.2 ⟨λh=>?_,c⟩⟩
   ·grind
   ·rcases Bp.1 f with e | l<;>rcases Bp.1 k with A | m
    ·simp_all
    ·rw[e];exact .inr (zhO g u m).2
    ·rw[A];exact .inr (Ne.symm (zhO g t l).2)
    ·simp_all
   ·obtain ⟨t,f,e⟩:=List.mem_map.1 h;exact (zhO g t f).1 e
def hl_or {n i L:Nat} : ∀{H:Hd},nob i H=true->hl' n (L ||| 2 ^ i) H=hl' n L H
 | [],_=>rfl
 | (j,b)::H,h=>by
   unfold nob at h;rw[Ba,Bw]at h;have a:i≠b:=λe=>by rw[e,Cr]at h;cases h.1
   unfold hl';rw[hl_or h.2,Cx,Cj,decide_eq_false a,Bool.or_false]
def zmf {n:Nat} {H:Hd} : ∀{τ:Tau} {L:Nat},(∀s∈τ.map Sigma.fst,nob s.i H=true)->hl' n (tBit τ L) H=hl' n L H
 | [],_,_=>rfl
 | ⟨s,some _⟩::τ,L,h=>by show hl' n (tBit τ (L ||| 2 ^ s.i)) H=_;rw[zmf (λt a=>h t (An _ a)),hl_or (h s (Bh ..))]
 | ⟨_,none⟩::τ,L,h=>zmf (τ:=τ) λt a=>h t (An _ a)
def chkT (ops:Array Oper) (j:Option Nat):List Nat->List Nat->Nat->Bool
 | pend,[],L=>!(Region.ready .any ops (bm ops.size L)).isEmpty&&(Region.ready .any ops (bm ops.size L)).all λi=>pend.contains i||decide (j=some i)
 | pend,i::σ,L=>chkT ops j (i::pend) σ L&&chkT ops j pend σ (L ||| 2 ^ i)
def zmY {ops:Array Oper} {j:Option Nat} : ∀{τ:Tau} {pend:List Nat} {L:Nat},chkT ops j pend (τ.map λp=>p.1.i) L=true->
    Region.ready .any ops (bm ops.size (tBit τ L))≠[]/\∀i∈Region.ready .any ops (bm ops.size (tBit τ L)),i∈tNo τ\/i∈pend\/j=some i
 | [],pend,L,h=>by
   simp only[List.map_nil,chkT,Ba,Ct,Cu,decide_eq_true_eq]at h
   exact ⟨λe=>(by have:=h.1;rw[show Region.ready .any ops (bm ops.size L)= [] from e]at this;cases this),λi hi=>.inr ((h.2 i hi).imp (λh=>by simpa using h) id)⟩
 | ⟨s,some _⟩::τ,pend,L,h=>by
   simp only[Bo,chkT,Ba]at h
   exact zmY (τ:=τ) h.2
 | ⟨s,none⟩::τ,pend,L,h=>by
   simp only[Bo,chkT,Ba]at h
   obtain ⟨a,b⟩:=zmY (τ:=τ) h.1
   refine ⟨a,λi hi=>?_⟩
   rcases b i hi with h | h | h
   ·exact .inl (An _ h)
   ·rcases Bp.1 h with rfl | h
    ·exact .inl (Bh ..)
    ·simp_all
   ·simp_all
def chkR (ops:Array Oper) (i B:Nat):List Nat->Nat->Bool
 | [],L=>rdyB ops i L B
 | j::σ,L=>chkR ops i B σ L&&chkR ops i B σ (L ||| 2 ^ j)
def zpO {ops:Array Oper} {i B:Nat} : ∀{τ:Tau} {L:Nat},chkR ops i B (τ.map λp=>p.1.i) L=true->rdyB ops i (tBit τ L) B=true
 | [],_,h=>h
 | ⟨s,some _⟩::τ,L,h=>by simp only[Bo,chkR,Ba]at h;exact zpO (τ:=τ) h.2
 | ⟨s,none⟩::τ,L,h=>by simp only[Bo,chkR,Ba]at h;exact zpO (τ:=τ) h.1
def zm9 {a:Act} {d:Nat} {v:Value} : ∀{τ:Tau},(∀t∈τ.map Sigma.fst,t.d≠d)->tFr a τ->tFr (a.put (some d) v) τ
 | [],_,_=>trivial
 | ⟨_,none⟩::τ,b,c=>zm9 (τ:=τ) (λq e=>b q (An _ e)) c
 | ⟨t,some y⟩::τ,b,c=>⟨by rw[zmG (b t (Bh ..))];exact c.1,zm9 (τ:=τ) (λq e=>b q (An _ e)) c.2⟩
section
variable {fr0:Fr} {σ:List Side}
def Side.ok (P:Program) (w0:World) (S0:List Nat) (n:Nat) (fr:Fr) (ops:Array Oper) (s:Side):Prop:=
 ∃o ty pos aft,ops[s.i]? =some (⟨some s.d,o,ty,pos,aft,none⟩:Oper)/\Bf s.d n=true/\EfA P w0 S0 n fr [] ⟨some s.d,o,ty,pos,aft,none⟩ s.val s.new
variable (P w0 S0) in
def TM (m:Option R) (n:Nat) (fr0:Fr) (σ:List Side) (fr:Fr) (is:List Item) (H:Hd) (ops:Array Oper) (fuel L:Nat) (Q:R->Exit->Act->World->Prop):Prop:=
 (∀s∈σ,s.ok P w0 S0 n fr0 ops)->∀r,m=some r->∀τ:Tau,τ.map Sigma.fst=σ->∀a w,FrOk n fr a->FrOk n fr0 a->tFr a τ->St w0 S0 (is++tIt τ) w->
   wpS P ops (NoPanic (Q r)) (λL=>St w0 S0 (hlA L H)) (fuel+(tNo τ).length) (bm ops.size (tBit τ L)) a w
def St.left {js:List Item} (h:St w0 S0 (is++js) w):St w0 S0 is w:=h.sublist (List.sublist_append_left ..)
def TM.side (m: ∀s∈σ,s.ok P w0 S0 n fr0 ops) (p:sideC fr fr0 H σ=true) {Q':Exit->Act->World->Prop} {τ:Tau} (M:τ.map Sigma.fst=σ) {f:Nat} (hi:i∈tNo τ) (O: ∀w,St w0 S0 is w->St w0 S0 (hl' ops.size L H) w) (ih: ∀τ':Tau,τ'.map Sigma.fst=σ->(tNo τ').length+1=(tNo τ).length->∀a w,FrOk n fr a->FrOk n fr0 a->tFr a τ'->St w0 S0 (is++tIt τ') w->wpS P ops Q' (λL=>St w0 S0 (hlA L H)) f (bm ops.size (tBit τ' L)) a w) (g:FrOk n fr a) (c:FrOk n fr0 a) (b:tFr a τ) (hs:St w0 S0 (is++tIt τ) w):
    wpOp P ops Q' i (λN w'=>St w0 S0 (hlA ((bm ops.size (tBit τ L)).setIfInBounds i true) H) w'/\wpS P ops Q' (λL=>St w0 S0 (hlA L H)) f ((bm ops.size (tBit τ L)).setIfInBounds i true) N w') a w:=by
 obtain ⟨h,q,u⟩:=zkc p;obtain ⟨s,v,rfl,y⟩:=zou i τ hi;have e:s∈σ:=M ▸ v;obtain ⟨o,ty,pos,aft,z,A,B⟩:=m s e;obtain ⟨C,D,K⟩:=h s e;unfold wpOp;simp only[z,(show Gd ops fr0 (⟨some s.d,o,ty,pos,aft,none⟩:Oper) true from rfl).wanted c,if_true];refine .inl (B.frame (is++tIt τ) a w _ _ c hs λx w' hs'=>?_);obtain ⟨τ',j,E,F,G,I⟩:=y x;have l:St w0 S0 (is++tIt τ') w':=hs'.permL (by show (s.new x++(is++tIt τ)).Perm (is++tIt τ');rw[<-Bl];exact (List.Perm.append_right _ Bt).trans (by rw[Bl];exact List.Perm.append_left _ G));rw[zow,<-F L,zoG,zmf (by rw[j,M];exact λt b=>(h t b).2.2)];refine ⟨O _ l.left,ih τ' (j.trans M) E _ _ (g.stay C _) (c.stay D _) ?_ l⟩;refine I a _ (λk J=>zmG J) ?_ (by rw[M];exact λt b=>q s e t b) (by have:=u;rw[<-M,By]at this;exact this) b;have:s.d<a.tmps.size:=by rw[g.size];exact zkw.1 A
 simp[Act.put,this]
def TM.start (σ:List Side) (c: ∀s∈σ,s.ok P w0 S0 n fr ops) (h:TM P w0 S0 m n fr σ fr is H ops fuel L Q):TA P w0 S0 m n fr is H ops (fuel+σ.length) L Q:=by
 intro r d a w b hs;have e: ∀σ:List Side,(σ.map λs=>(⟨s,none⟩:Σ s:Side,Option s.X)).map Sigma.fst=σ:=λσ=>by induction σ with | nil=>rfl | cons s σ ih=>exact congrArg (s:: ·) ih
 have:=h c r d (σ.map λs=>⟨s,none⟩) (e σ) a w b b;have f: ∀σ:List Side,tIt (σ.map λs=>⟨s,none⟩)= []:=λσ=>by induction σ with | nil=>rfl | cons s σ ih=>exact ih
 have g: ∀(σ:List Side) L,tBit (σ.map λs=>⟨s,none⟩) L=L:=λσ=>by induction σ with | nil=>exact λ_=>rfl | cons s σ ih=>exact ih
 have i: ∀(σ:List Side),(tNo (σ.map λs=>⟨s,none⟩)).length=σ.length:=λσ=>by induction σ with | nil=>rfl | cons s σ ih=>exact congrArg (·+ 1) ih
 have j: ∀(σ:List Side),tFr a (σ.map λs=>⟨s,none⟩):=λσ=>by induction σ with | nil=>trivial | cons s σ ih=>exact ih
 simp_all
def TM.nil (h:TA P w0 S0 m n fr is H ops fuel L Q):TM P w0 S0 m n fr0 [] fr is H ops fuel L Q:=by
 intro _ r b τ hτ a w c _ _ hs;obtain rfl:τ= []:=by simpa using hτ
 rw[tIt,List.append_nil]at hs;exact h r b a w c hs
def TM.bind {X:Type} {p:Option X} {k:X->Option R} (h: ∀x,p=some x->TM P w0 S0 (k x) n fr0 σ fr is H ops fuel L Q):TM P w0 S0 (p.bind k) n fr0 σ fr is H ops fuel L Q:=by
 intro b r a;cases p with
 | none=>cases a
 | some x=>exact h x rfl b r a
theorem TM.ef {j:Nat} {o:Go.Op} {ty:TypeId} {pos:String} {aft:Array Edge} {val:X->Value} (hi:ops[j]? =some ⟨some d,o,ty,pos,aft,none⟩) (q:EfA P w0 S0 n fr is ⟨some d,o,ty,pos,aft,none⟩ val is') (s:Bf d n=true) (g:sideC fr fr0 H σ=true) (u:nokey d fr0=true) (v:othr ops.size d σ=true) (y:chkT ops (some j) [] (σ.map (·.i)) L=true) (N:sfx is (hl' ops.size L H)=hl' ops.size L H) (M: ∀x,sfx (is' x) (hl' ops.size (L ||| 2 ^ j) H)=hl' ops.size (L ||| 2 ^ j) H) (h: ∀x,TM P w0 S0 m n fr0 σ ((d,val x)::fr) (is' x) H ops fuel (L ||| 2 ^ j) Q):TM P w0 S0 m n fr0 σ fr is H ops (fuel+1) L Q:=by
 intro l r z;have key: ∀(k:Nat) (τ:Tau),τ.map Sigma.fst=σ->(tNo τ).length=k->∀a w,FrOk n fr a->FrOk n fr0 a->tFr a τ->St w0 S0 (is++tIt τ) w->wpS P ops (NoPanic (Q r)) (λL=>St w0 S0 (hlA L H)) (fuel+1+k) (bm ops.size (tBit τ L)) a w:=by
  intro k;induction k using Cv with
  | ind k ih=>
    intro τ hτ F a w f p b hs;obtain ⟨A,B⟩:=zmY (τ:=τ) (pend:=[]) (j:=some j) (ops:=ops) (L:=L) (by rw[<-y,<-hτ,By];rfl);rw[show fuel+1+k=(fuel+k)+1 by omega];refine wpS.all A λi C=>?_;rcases B i C with c | c | c
    ·obtain ⟨k',rfl⟩: ∃k',k=k'+1:=⟨k - 1,by have:=List.length_pos_of_mem c;omega⟩;refine TM.side l g hτ c (λw D=>D.sfx N) (λτ' G I a w=>?_) f p b hs;grind
    ·trivial
    ·cases c;obtain ⟨E,J,K⟩:=zkc g;have e:tBit τ (L ||| 2 ^ j)=tBit τ L ||| 2 ^ j:=zk4 j τ L;unfold wpOp;simp only[hi,(show Gd ops fr (⟨some d,o,ty,pos,aft,none⟩:Oper) true from rfl).wanted f,if_true];refine .inl (q.frame (tIt τ) a w _ _ f hs λx w' hs'=>?_);rw[zow,<-e,zoG,zmf (by rw[hτ];exact λt b=>(E t b).2.2)];refine ⟨hs'.left.sfx (M x),?_⟩;have:=h x l r z τ hτ (a.put (some d) (val x)) w' (f.put s _) (p.stay u _) ?_ hs'
     ·simp_all
     ·exact zm9 (by rw[hτ];exact λt b=>(zhO v t b).2) b
 simp_all
def TM.y (B:Nat) (hi:ops[i]? =some o) (e:Y P w0 S0 n fr (hb' ops.size B H) o v) (f:Gd ops fr o true) (g:o.dst=some d) (j:Bf d n=true) (k:sideC fr fr0 H σ=true) (l:nokey d fr0=true) (p:othr ops.size d σ=true) (q:chkR ops i B (σ.map (·.i)) L=true) (s:nob i H=true) (D:sfx is (hl' ops.size L H)=hl' ops.size L H) (h:TM P w0 S0 m n fr0 σ ((d,v)::fr) is H ops fuel (L ||| 2 ^ i) Q):TM P w0 S0 m n fr0 σ fr is H ops (fuel+1) L Q:=by intro u r x τ hτ a w c z b hs;have A:=(zkc k).1;rw[show fuel+1+(tNo τ).length=(fuel+(tNo τ).length)+1 by omega];refine TA.first hi (zpO (τ:=τ) (by rw[<-q,<-hτ,By];rfl)) s (.inl ⟨f.wanted c,λw' C=>e a w' c C⟩) (by rw[zmf (by rw[hτ];exact λt b=>(A t b).2.2)];exact hs.left.sfx D) ?_;rw[g,<-zk4];exact h u r x τ hτ _ w (c.put j v) (z.stay l v) (zm9 (by rw[hτ];exact λt b=>(zhO p t b).2) b) hs
def TM.close {s:Side} (q:sideC fr fr0 H (s::σ)=true) (v:chkT ops none [s.i] (σ.map (·.i)) L=true) (J:sfx is (hl' ops.size L H)=hl' ops.size L H) (h: ∀x,TM P w0 S0 m n fr0 σ ((s.d,s.val x)::fr) (s.new x++is) H ops fuel (L ||| 2 ^ s.i) Q):TM P w0 S0 m n fr0 (s::σ) fr is H ops fuel L Q:=by
 intro o r y;have key: ∀(k:Nat) (τ:Tau),τ.map Sigma.fst=s::σ->(tNo τ).length=k->∀a w,FrOk n fr a->FrOk n fr0 a->tFr a τ->St w0 S0 (is++tIt τ) w->wpS P ops (NoPanic (Q r)) (λL=>St w0 S0 (hlA L H)) (fuel+k) (bm ops.size (tBit τ L)) a w:=by
  intro k;induction k using Cv with
  | ind k ih=>
    intro τ hτ c a w g p b hs
    match τ,hτ,c,b,hs with
    | [],hτ,_,_,_=>cases hτ
    | ⟨s',some x⟩::τ',hτ,c,b,hs=>
      obtain ⟨rfl,I⟩:s'=s/\τ'.map Sigma.fst=σ:=by simpa using hτ
      have z:FrOk n ((s'.d,s'.val x)::fr) a:=⟨g.size,g.defers,λk u e=>by
       unfold lk at e;cases l:Cy k s'.d with
       | true=>rw[l]at e;cases e;rw[Cg l];exact b.1
       | false=>rw[l]at e;exact g.get k u e⟩
      have:=h x (λt b=>o t (An _ b)) r y τ' I a w z p b.2 (hs.permL (by show (is++(s'.new x++tIt τ')).Perm (s'.new x++is++tIt τ');rw[<-Bl];exact List.Perm.append_right _ Bt));rw[show (tNo τ').length=k from c]at this;trivial
    | ⟨s',none⟩::τ',hτ,c,b,hs=>
      obtain ⟨rfl,I⟩:s'=s/\τ'.map Sigma.fst=σ:=by simpa using hτ
      obtain ⟨A,B⟩:=zmY (τ:=τ') (pend:=[s'.i]) (j:=none) (ops:=ops) (L:=L) (by rw[<-v,<-I,By];rfl);obtain ⟨k',rfl⟩: ∃k',k=k'+1:=⟨(tNo τ').length,by rw[<-c];rfl⟩;refine wpS.all A λi C=>?_;have D:i∈tNo (⟨s',none⟩::τ'):=by
       rcases B i C with f | f | f
       ·exact An _ f
       ·rw[Cq]at f;subst f;exact Bh ..
       ·trivial
      refine TM.side o q hτ D (λw E=>E.sfx J) (λτ'' F G a w=>?_) g p b hs;simp_all
 simp_all
end
section
def Mid (w0:World) (S0:List Nat) (n:Nat) (frf:τ->X->Fr) (isf:τ->X->List Item) (t:τ) (a:Act) (w:World):Prop:=
 ∃x,FrOk n (frf t x) a/\St w0 S0 (isf t x) w
def jn (M:τ->Act->World->Prop) (Q:R->Exit->Act->World->Prop):Ctl τ R->Exit->Act->World->Prop
 | .go t,e,a,w=>e= .normal/\M t a w
 | .done r,e,a,w=>Q r e a w
def jb (M:τ->Act->World->Prop):τ->Exit->Act->World->Prop:=λt e a w=>e= .normal/\M t a w
def lp (I:σ->Act->World->Prop) (Q:ρ->Exit->Act->World->Prop):Ctl σ ρ->Exit->Act->World->Prop
 | .go s,e,a,w=>e= .normal/\I s a w
 | .done r,e,a,w=>e≠.normal/\Q r e a w
def TW.joinX {m:Option (Ctl τ R)} (frf:τ->X->Fr) (isf:τ->X->List Item) (f:TW P w0 S0 m n fr is c (jn (Mid w0 S0 n frf isf) Q)) (g: ∀t x,TE w0 S0 (k t) n (frf t x) (isf t x) .normal Q):TW P w0 S0 (bindC m k) n fr is c Q:=by
 refine TW.join (Mid w0 S0 n frf isf) ?_ ?_
 ·intro r b a w d hs;refine wp_mono (f r b a w d hs) λe a w h=>?_;cases r with
  | go t=>exact h
  | done r=>exact h
 ·rintro t a w ⟨x,d,hs⟩ r b;exact g t x r b a w d hs
def TW.joinBX {m:Option τ} (frf:τ->X->Fr) (isf:τ->X->List Item) (b:TW P w0 S0 m n fr is c (jb (Mid w0 S0 n frf isf))) (d: ∀t x,TE w0 S0 (k t) n (frf t x) (isf t x) .normal Q):TW P w0 S0 (m.bind k) n fr is c Q:=by refine TW.joinB (Mid w0 S0 n frf isf) b ?_;rintro t a w ⟨x,e,hs⟩ r f;exact d t x r f a w e hs
def TW.joinU (frf:Unit->X->Fr) (isf:Unit->X->List Item) (a:TW P w0 S0 (some ()) n fr is c (jb (Mid w0 S0 n frf isf))) (b: ∀t x,TE w0 S0 m n (frf t x) (isf t x) .normal Q):TW P w0 S0 m n fr is c Q:=
 TW.joinBX (τ:=Unit) (m:=some ()) (k:=λ_=>m) frf isf a b
def TW.loopX {body:σ->Option (Ctl σ ρ)} {s0:σ} {Q:ρ->Exit->Act->World->Prop} (frf:σ->X->Fr) (isf:σ->X->List Item) (b:X) (A:List Nat) (f:Sub (frf s0 b) fr) (g:pulls A is=some (isf s0 b)) (i: ∀s x,TW P w0 S0 (body s) n (frf s x) (isf s x) c (lp (Mid w0 S0 n frf isf) Q)):
    TW P w0 S0 (loopO body s0) n fr is (.loop c) Q:=by
 refine TW.loop (Mid w0 S0 n frf isf) (λa w d hs=>⟨b,d.sub f,hs.pulls A g⟩) ?_;rintro s x j a w ⟨y,d,hs⟩;refine wp_mono (i s y x j a w d hs) λe a w h=>?_;cases x with
 | go t=>exact h
 | done r=>exact h
def TE.jn_go {frf:τ->X->Fr} {isf:τ->X->List Item} {t:τ} (x:X) (h:List Nat) (a:Sub (frf t x) fr) (b:pulls h is=some (isf t x)):
    TE w0 S0 (some (.go t)) n fr is .normal (jn (Mid w0 S0 n frf isf) Q):=
 TE.leaf λ_ _ c hs=>⟨rfl,x,c.sub a,hs.pulls h b⟩
def TE.jn_done {M:τ->Act->World->Prop} {r:R} {e:Exit} (h:TE w0 S0 (some r) n fr is e Q):TE w0 S0 (some (.done r)) n fr is e (jn M Q):=by intro A b a w c hs;cases b;exact h r rfl a w c hs
def TE.jb_go {frf:τ->X->Fr} {isf:τ->X->List Item} {t:τ} (x:X) (h:List Nat) (a:Sub (frf t x) fr) (b:pulls h is=some (isf t x)):
    TE w0 S0 (some t) n fr is .normal (jb (Mid w0 S0 n frf isf)):=
 TE.leaf λ_ _ c hs=>⟨rfl,x,c.sub a,hs.pulls h b⟩
def TE.lp_go {Q:ρ->Exit->Act->World->Prop} {frf:σ->X->Fr} {isf:σ->X->List Item} {t:σ} (x:X) (h:List Nat) (a:Sub (frf t x) fr) (b:pulls h is=some (isf t x)):
    TE w0 S0 (some (.go t)) n fr is .normal (lp (Mid w0 S0 n frf isf) Q):=
 TE.leaf λ_ _ c hs=>⟨rfl,x,c.sub a,hs.pulls h b⟩
def TE.lp_exit {Q:ρ->Exit->Act->World->Prop} {I:σ->Act->World->Prop} {r:ρ} {id:Nat} (h:TE w0 S0 (some r) n fr is (.exit id) Q):TE w0 S0 (some (.done r)) n fr is (.exit id) (lp I Q):=by intro A b a w c hs;cases b;exact ⟨λh=>(by cases h),h r rfl a w c hs⟩
def TE.lp_ret {Q:ρ->Exit->Act->World->Prop} {I:σ->Act->World->Prop} {r:ρ} (h:TE w0 S0 (some r) n fr is .ret Q):TE w0 S0 (some (.done r)) n fr is .ret (lp I Q):=by intro A b a w c hs;cases b;exact ⟨λh=>(by cases h),h r rfl a w c hs⟩
def TE.block_normal {id:Nat} (h:TE w0 S0 m n fr is .normal Q):TE w0 S0 m n fr is .normal (λr=>Exit.inBlock id (Q r)):=h
def TE.block_exit {id:Nat} (h:TE w0 S0 m n fr is .normal Q):TE w0 S0 m n fr is (.exit id) (λr=>Exit.inBlock id (Q r)):=by
 intro r b a w c hs;show if id=id then _ else _
 rw[if_pos rfl];exact h r b a w c hs
def TE.bind {X:Type} {p:Option X} {k:X->Option R} {e:Exit} (h: ∀x,p=some x->TE w0 S0 (k x) n fr is e Q):TE w0 S0 (p.bind k) n fr is e Q:=by
 intro r b a w c hs;cases p with
 | none=>cases b
 | some x=>exact h x rfl r b a w c hs
def TE.nilItem {e:Exit} (sz:Nat) (h:TE w0 S0 m n fr (.own (.slice none 0 0) (.sl sz 0 [])::is) e Q):TE w0 S0 m n fr is e Q:=
 λr b a w c hs=>h r b a w c (hs.nilItem sz)
def TW.nilItem {c:Code} (sz:Nat) (h:TW P w0 S0 m n fr (.own (.slice none 0 0) (.sl sz 0 [])::is) c Q):TW P w0 S0 m n fr is c Q:=
 λr b a w d hs=>h r b a w d (hs.nilItem sz)
end
end Go.Proofs.YtmenicbkddagmaaGreat.Sl
end
section
open List renaming replicate->An,flatMap_cons->Bf,length_replicate->Bh,getElem?_append->Bp,ext_getElem?->Bt,mapM_cons->Cg
open Array renaming length_toList->Ba
open Nat renaming mul_le_mul_right->Bl,le_of_ble_eq_true->Bo,le_refl->Bw,succ_mul->Cj,beq->Cq,ble->Cr
open Option.some renaming injEq->Bm
open Option renaming bind_some->By,map_some->Bz
namespace Go.Proofs.YtmenicbkddagmaaGreat.Sl
open Go Go.RowKit
variable {x:Operand} {α:Type} {sz by_ t e c:Nat} {k k':IntKind} {z:α} {l:List α} {v zv:Value} {s:List UInt8} {lo hi:Int}
theorem znH (cur us:List Value) (off N:Nat) (h:off+us.length<=N) (A:N<=cur.length):(splice cur off us).take N=splice (cur.take N) off us:=by apply Bt;intro k;simp only[splice,List.getElem?_take,Bp,List.length_take,List.getElem?_drop,List.append_assoc];grind
theorem zk3 (x r us:List Value) (c:Nat) (h:c+us.length<=x.length):splice (x++r) c us=splice x c us++r:=by simp only[splice];grind
def zfO (x r us:List Value) (c:Nat):splice (x++r) (x.length+c) us=x++splice r c us:=by simp only[splice];rw[List.take_length_add_append,show x.length+c+us.length=x.length+(c+us.length) by omega,List.drop_length_add_append];simp
def znG {α:Type} [Flat α]: ∀(l:List α) (k c:Nat) (z A:α) (us:List Value),l[k]? =some z->c+us.length<=Enc.sz α->splice (Flat.vals z) c us=Flat.vals A->
    splice (l.flatMap Flat.vals) (k*Enc.sz α+c) us=(l.set k A).flatMap Flat.vals
 | [],_,_,_,_,_,h,_,_=>by simp at h
 | y::l,0,c,z,A,us,h,a,hs=>by
   simp only[List.getElem?_cons_zero,Bm]at h
   subst h
   simp only[Nat.zero_mul,Nat.zero_add,Bf,List.set_cons_zero]
   rw[zk3 _ _ _ _ (by rw[zf3];exact a),hs]
 | y::l,k+1,c,z,A,us,h,a,hs=>by
   simp only[List.getElem?_cons_succ]at h
   simp only[Bf,List.set_cons_succ]
   rw[<-znG l k c z A us h a hs,show (k+1)*Enc.sz α+c=(Flat.vals y).length+(k*Enc.sz α+c) by rw[zf3,Nat.add_mul];omega,zfO]
section
variable {P:Program} {w0:World} {S0:List Nat} {R:Type} {m:Option R} {n:Nat} {fr:Fr} {is:List Item} {Q:R->Exit->Act->World->Prop}
variable {dst:Option Nat} {ty:TypeId} {pos:String} {aft:Array Edge} {gd:Option (Nat × Bool)}
theorem Ef.store_el [Flat α] {y:Operand} {k s:Nat} {u:Value} {us:List Value} {ag:Bool} (z':α) (i:Nat) (D:kindB P t=some (ag,s)) (E:Enc.sz α=sz) (hi:is[i]? =some (.own v (lc l))) (F:l[k]? =some z) (h:ev fr x=some (elP v (k*sz+c))) (G:ev fr y=some u) (H:Cel w0 S0 is u us) (hl:Cq us.length s=true) (I:Cr (c+us.length) sz=true) (hs:splice (Flat.vals z) c us=Flat.vals z') {is':List Item} (J:is.set i (.own v (lc (l.set k z')))=is'):
 Ef P w0 S0 n fr is ⟨none,.store t x y,ty,pos,aft,gd⟩ (λ_:Unit=>undef) (λ_=>is'):=by
 subst E;have L:c+us.length<=Enc.sz α:=Bo I;intro a w K Q o j hK;obtain ⟨M,N⟩:=H w j;have O:k<l.length:=by grind
 have Z:k*Enc.sz α+Enc.sz α<=l.length*Enc.sz α:=by rw[<-Cj];exact Bl _ O
 obtain ⟨A0,hA0,_⟩:=zcc hi j.own.choose_spec.1;have R: ∃b cap cur e',v= .slice (some ⟨b,0,none⟩) l.length cap/\w.heap[b]? =some (.cells cur e' (0,0))/\l.length<=cap/\cap<=maxLen/\cap*Enc.sz α<=cur.size/\cur.toList.take (l.length*Enc.sz α)=l.flatMap Flat.vals:=by
  have hA0':Ow w v (.sl (Enc.sz α) l.length (l.flatMap Enc.enc)) A0:=hA0;generalize f:l.flatMap (Enc.enc (α:=α))=cs at hA0';generalize hn:l.length=ln at hA0';cases hA0' with
  | nil=>omega
  | row b n cap e sz cur vs cs S d p q hs g m=>subst f;refine ⟨b,cap,cur,e,rfl,d,p,q,hs,?_⟩;rw[g];exact m.vals (zbb l)
 obtain ⟨b,cap,cur,e',rfl,d,B,T,f,g⟩:=R;have U:l.length*Enc.sz α<=cap*Enc.sz α:=Bl _ B;have C:k*Enc.sz α+c+us.length<=cur.toList.length:=by rw[Ba (xs:=cur)];omega
 have V:=zeY (P:=P) (off:=k*Enc.sz α+c) D d M hl N (by rw[<-Ba (xs:=cur)];exact C);have W:(execOp a.eval ⟨none,.store t x y,ty,pos,aft,gd⟩).run P w= .ok .skip (w.setRow b (splice cur.toList (k*Enc.sz α+c) us).toArray):=by simp[execOp,o.eval h,o.eval G,elP,Instr.storeAt,Instr.sureAddr,add_lit,V]
 unfold Oper.wp;rw[W];refine hK () _ ?_;subst J;refine j.upd hi λA hA a0=>?_;have hAb:A= [b]:=by
  have hA':Ow w (.slice (some ⟨b,0,none⟩) l.length cap) (.sl (Enc.sz α) l.length (l.flatMap Enc.enc)) A:=hA;generalize X:l.flatMap (Enc.enc (α:=α))=cs at hA';cases hA' with
  | row b n cap e sz cur vs cs S d p q hs g m=>subst X;rw[m.noS (zbb l)]
 refine ⟨[b],?_,?_,by simp,λx h=>.inl (by rw[hAb];exact h)⟩
 ·rw[hAb];exact Chg.setRow w b _
 ·show Ow _ _ (.sl (Enc.sz α) (l.set k z').length ((l.set k z').flatMap Enc.enc)) [b];have Y:(splice cur.toList (k*Enc.sz α+c) us).length=cur.size:=by rw[zgo _ _ _ C,Ba]
  rw[List.length_set];refine .row b l.length cap e' (Enc.sz α) _ ((l.set k z').flatMap Flat.vals) _ [] (setRow_heap w b _ _ e' _ d) B T (by simpa[Y] using f) ?_ (Ows.of_vals (zbb _));rw[List.toList_toArray,znH _ _ _ _ (by omega) (by rw[Ba (xs:=cur)];exact Nat.le_trans U f),g,znG l k c z z' us F L hs]
def zW {i:Int} {A:α} (h:idx l i=some z):idx (l.set i.toNat A) i=some A:=by obtain ⟨a,b,_⟩:=zbP h;unfold idx;simp_all
def mkLen (by_:Nat) (n:Int):Option Nat:=if 0<=n/\by_*n<=281474976710656/\n<=9223372036854775807 then some n.toNat else none
theorem zsn {n:Int} {k:Nat} (h:mkLen by_ n=some k):n=(k:Int)/\(by_:Int)*n<=281474976710656/\n<=9223372036854775807:=by unfold mkLen at h;grind
theorem zqT [Flat α] (z:α) (k:Nat):(madeCells (Flat.vals z).toArray (k*Enc.sz α)).toList=(An k z).flatMap Flat.vals:=by
 have b:=zf3 z;have c:=Enc.pos (α:=α);apply Bt;intro j;unfold madeCells;simp only[Array.toList_map,Array.toList_range,List.getElem?_map];have key: ∀k j:Nat,((An k z).flatMap (Flat.vals (α:=α)))[j]? =if j<k*Enc.sz α then (Flat.vals z)[j % Enc.sz α]? else none:=by
  intro k;induction k with
  | zero=>intro j;simp
  | succ k ih=>
    intro j;simp only[List.replicate_succ,Bf,Bp,b];by_cases a:j<Enc.sz α
    ·rw[if_pos a,if_pos (by rw[Cj];omega),Nat.mod_eq_of_lt a]
    ·rw[if_neg a,ih];have:(j - Enc.sz α) % Enc.sz α=j % Enc.sz α:=(Nat.mod_eq_sub_mod (by omega)).symm;grind
 rw[key];by_cases d:j<k*Enc.sz α
 ·have e:j % Enc.sz α<(Flat.vals z).length:=by rw[b];exact Nat.mod_lt _ c
  simp_all
 ·grind
def Ef.mk [Flat α] {y:Operand} {len F:Int} {l:Nat} (j:mkLen by_ F=some c) (hl:len=(l:Int)) (f:l<=c) (b:elemB P t=some (e,sz,by_)) (d:zeroB P e=some zv) (m:zv.cells=(Flat.vals z).toArray) (o:Enc.sz α=sz) (p:ev fr x=some (.int k len)) (q:ev fr y=some (.int k' F)):
    Ef P w0 S0 n fr is ⟨dst,.makeSlice t x y,ty,pos,aft,gd⟩ (λv:Value=>v) (λv=>.own v (lc (An l z))::is):=by
 obtain ⟨s,G,g,u,A⟩:=zC b;subst o;obtain ⟨rfl,B,C⟩:=zsn j;subst hl;have D:G.zero=some zv:=by unfold zeroB at d;rw[g]at d;simpa using d
 intro a w K Q h hs I;have i:=run_make (P:=P) w t e G zv s g D k k' l c (by omega) (by omega) (by rw[A];exact B) C;simp only[Int.toNat_natCast,u,m]at i;have b:(execOp a.eval ⟨dst,.makeSlice t x y,ty,pos,aft,gd⟩).run P w= .ok (.value (.slice (some ⟨w.heap.size,0,none⟩) l c)) (w.alloc (.cells (madeCells (Flat.vals z).toArray (c*Enc.sz α)) e)):=by simp[execOp,h.eval p,h.eval q,i]
 unfold Oper.wp;rw[b];refine I _ _ ?_;refine hs.add (Chg.alloc w _ []) _ [w.heap.size] ?_ (by simp) (by simp);show Ow _ _ (.sl (Enc.sz α) (An l z).length _) _;rw[Bh];have E:l*Enc.sz α<=c*Enc.sz α:=Bl _ f;refine .row w.heap.size l c e _ _ ((An l z).flatMap Flat.vals) _ [] (heap_alloc_new w _) f (by simp only[maxLen];omega) (Nat.le_of_eq (size_madeCells _ _).symm) ?_ (Ows.of_vals (zbb _));rw[zqT,show c=l+(c - l) by omega,<-List.replicate_append_replicate,List.flatMap_append,List.take_append_of_le_length (by rw[z7,Bh];exact Bw _),List.take_of_length_le (by rw[z7,Bh];exact Bw _)]
def Ef.make [Flat α] {y:Operand} {len:Int} (a:mkLen by_ len=some c) (b:elemB P t=some (e,sz,by_)) (d:zeroB P e=some zv) (f:zv.cells=(Flat.vals z).toArray) (g:Enc.sz α=sz) (h:ev fr x=some (.int k len)) (i:ev fr y=some (.int k' len)):
    Ef P w0 S0 n fr is ⟨dst,.makeSlice t x y,ty,pos,aft,gd⟩ (λv:Value=>v) (λv=>.own v (lc (An c z))::is):=
 Ef.mk a (zsn a).1 (Bw _) b d f g h i
def Ef.make0 [Flat α] {y:Operand} {len:Int} (a:mkLen by_ len=some c) (b:elemB P t=some (e,sz,by_)) (d:zeroB P e=some zv) (f:zv.cells=(Flat.vals z).toArray) (g:Enc.sz α=sz) (h:ev fr x=some (.int k 0)) (i:ev fr y=some (.int k' len)):
    Ef P w0 S0 n fr is ⟨dst,.makeSlice t x y,ty,pos,aft,gd⟩ (λv:Value=>v) (λv=>.own v (lc ([]:List α))::is):=
 Ef.mk (α:=α) (z:=z) (l:=0) a rfl (Nat.zero_le _) b d f g h i
def placesB (P:Program) (t:TypeId):Option (List (Nat × Nat)):=
 match P.underlying t with
 | some (.struct fs)=>fs.toList.mapM λf=>(P.info? f.type).map λi=>(f.offset,i.size)
 | _=>none
def zpa {P:Program} {w:World} : ∀{A:List Field} {ps:List (Nat × Nat)},(A.mapM λf=>(P.info? f.type).map λi=>(f.offset,i.size))=some ps->
    (A.mapM λf=>do pure (f.offset,<-sizeOf f.type):Sem (List (Nat × Nat))).run P w= .ok ps w
 | [],ps,h=>by
   simp_all
 | f::A,ps,h=>by
   rw[Cg]at h
   cases hi:P.info? f.type with
   | none=>rw[hi]at h;simp at h
   | some i=>
     rw[hi]at h
     simp only[Bz,Option.bind_eq_bind,By]at h
     cases a:(A.mapM λf=>(P.info? f.type).map λi=>(f.offset,i.size)) with
     | none=>rw[a]at h;simp at h
     | some qs=>
       rw[a]at h
       simp only[By,Option.pure_def,Bm]at h
       subst h
       have ih:=zpa (w:=w) a
       rw[Cg]
       have b:(sizeOf f.type).run P w= .ok i.size w:=by simp[sizeOf,typeInfo,hi]
       simp_all
def fills (place:List (Nat × Nat)):List Value->List (Nat × List Value)->Option (List Value)
 | cells,[]=>some cells
 | cells,(i,us)::r=>match place[i]? with
   | none=>none
   | some (off,sz)=>bif Cq us.length sz&&Cr (off+us.length) cells.length then fills place (splice cells off us) r else none
def Parts (w0:World) (S0:List Nat) (is:List Item) (fr:Fr):List (Nat × Operand)->List (Nat × List Value)->Prop
 | [],[]=>True
 | (i,o)::r,(j,us)::q=>j=i/\(∃v,ev fr o=some v/\Cel w0 S0 is v us)/\Parts w0 S0 is fr r q
 | _,_=>False
def znR {place:List (Nat × Nat)} {w:World} {a:Act} (c:FrOk n fr a) (hs:St w0 S0 is w): ∀{ps:List (Nat × Operand)} {qs:List (Nat × List Value)} {cur cells:List Value},Parts w0 S0 is fr ps qs->fills place cur qs=some cells->
    Instr.fill (place.toArray[·]?) cur.toArray (ps.map λ(i,x)=>(i,a.eval x))=some cells.toArray
 | [],[],cur,cells,_,h=>by simp only[fills,Bm]at h;subst h;rfl
 | (i,o)::ps,(j,us)::qs,cur,cells,hP,h=>by
   obtain ⟨rfl,⟨v,e,f⟩,g⟩:=hP
   unfold fills at h
   simp only[List.map_cons,Instr.fill,c.eval e]
   cases d:place[j]? with
   | none=>rw[d]at h;cases h
   | some x=>
     obtain ⟨off,sz⟩:=x
     rw[d]at h
     simp only at h
     cases b:(Cq us.length sz&&Cr (off+us.length) cur.length) with
     | false=>rw[b]at h;cases h
     | true=>
       rw[b]at h
       simp only[Bool.and_eq_true]at b
       have l:us.length=sz:=by simpa using b.1
       have k:off+us.length<=cur.length:=Bo b.2
       obtain ⟨m,_⟩:=f w hs
       have p:=zme off us 0 cur.toArray (by simpa using k)
       have ih:=znR (place:=place) c hs g (by simpa using h)
       simp_all
def Y.build {t:TypeId} {ps:List (Nat × Operand)} {place:List (Nat × Nat)} {zs cells:List Value} (qs:List (Nat × List Value)) (b:placesB P t=some place) (c:zeroB P t=some (.agg zs.toArray)) (d:Parts w0 S0 is fr ps qs) (e:fills place zs qs=some cells):Y P w0 S0 n fr is ⟨dst,.build t ps.toArray,ty,pos,aft,gd⟩ (.agg cells.toArray):=by
 intro a w g hs;unfold placesB at b;split at b
 ·rename_i A h;have j:=zpa (P:=P) (w:=w) b;have k:(A.mapM λf=>do pure (f.offset,<-sizeOf f.type):Sem (Array (Nat × Nat))).run P w= .ok place.toArray w:=by rw[<-Array.toArray_toList (xs:=A),List.mapM_toArray,Sem.run_map,j];rfl
  have l:=znR (place:=place) g hs d e;have m:(Instr.build t (ps.toArray.map λ(i,x)=>(i,a.eval x))).run P w= .ok (.agg cells.toArray) w:=by simp only[Instr.build,Sem.run_bind,zgL c,run_underlying h,Result.andThen_ok,k,Value.cells,List.map_toArray,l,Sem.run_pure]
  simp only[execOp,Sem.run_bind,m,Result.andThen_ok,Sem.run_pure]
 ·trivial
def Y.toStr {E D:Nat} {l:List UInt8} (s:elemB P E=some (e,sz,by_)) (f:intB P e=some .u8) (g:isStrB P D=true) (h:Can w0 S0 is v (lc l)) (c:ev fr x=some v):
    Y P w0 S0 n fr is ⟨dst,.convert E D x,ty,pos,aft,gd⟩ (strV l):=by
 obtain ⟨i,_⟩:=zC s;have k:P.underlying D=some .string:=by unfold isStrB at g;split at g<;>simp_all
 have m:P.underlying e=some (.int .u8):=by unfold intB at f;split at f<;>simp_all
 intro a w o hs;rcases h.row hs with ⟨d,_,rfl⟩ | ⟨t,cap,vs,S,rfl,u,y,p,q⟩
 ·have:l= []:=List.eq_nil_of_length_eq_zero d;subst this;simp[execOp,o.eval c,convert,run_underlying i,run_underlying k,run_underlying m,Conv.bytesToString];rfl
 ·have z:=q.vals (zbb l);subst z;have A:=run_convert_bytes_back (P:=P) w E D e t cap l i m k (by
   intro j B;have d:Enc.sz UInt8=1:=rfl;rw[p j (by rw[d];omega)];have:l.flatMap (Flat.vals (α:=UInt8))=l.map λb=>Value.int .u8 b.toNat:=by
    clear h c u y p q B;induction l with
    | nil=>rfl
    | cons x l ih=>rw[Bf,ih];rfl
   simp_all)
  simp only[execOp,o.eval c,Sem.run_bind,A,Result.andThen_ok,Sem.run_pure];rfl
def zjk (s:List UInt8) (i j:Nat):(ByteArray.mk s.toArray).extract i j=ByteArray.mk ((s.drop i).take (j - i)).toArray:=by apply ByteArray.ext;simp
def zqy {z:List UInt8} (h:ssub s lo hi=some z):0<=lo/\lo<=hi/\hi<=s.length/\z=(s.drop lo.toNat).take (hi.toNat - lo.toNat):=by unfold ssub at h;simp_all
def Y.ssub_both {y A:Operand} {t:TypeId} {z:List UInt8} (f:ssub s lo hi=some z) (c:isStrB P t=true) (g:ev fr x=some (strV s)) (h:ev fr y=some (.int k lo)) (i:ev fr A=some (.int k' hi)):
    Y P w0 S0 n fr is ⟨dst,.slice t x (some y) (some A) none,ty,pos,aft,gd⟩ (strV z):=by
 have d:P.underlying t=some .string:=by unfold isStrB at c;split at c<;>simp_all
 obtain ⟨j,l,m,rfl⟩:=zqy f;intro a w b hs;have e:=run_slice_string_if (P:=P) w t ⟨s.toArray⟩ k k' lo hi d;rw[if_pos ⟨by omega,by simpa[ByteArray.size_mk'] using m⟩,if_pos ⟨j,l⟩,zjk]at e;simp only[execOp,b.eval g,b.eval h,b.eval i,Bz,Option.map_none,strV,Instr.sliceAt,run_underlying d,Sem.run_bind,e,Result.andThen_ok,Sem.run_pure]
def Y.ssub_from {y:Operand} {t:TypeId} {z:List UInt8} (d:ssub s lo (s.length:Int)=some z) (b:isStrB P t=true) (e:ev fr x=some (strV s)) (f:ev fr y=some (.int k lo)):
    Y P w0 S0 n fr is ⟨dst,.slice t x (some y) none none,ty,pos,aft,gd⟩ (strV z):=by
 have g:P.underlying t=some .string:=by unfold isStrB at b;split at b<;>simp_all
 obtain ⟨h,i,l,rfl⟩:=zqy d;intro a w c hs;have j:(ByteArray.mk s.toArray).size=s.length:=by simp[ByteArray.size_mk']
 simp[execOp,c.eval e,c.eval f,strV,Instr.sliceAt,Instr.slice,Instr.sliceBounds,Instr.sliceBound,asIntOf,run_underlying g,j,h,i,zjk]
def Y.ssub_to {y:Operand} {t:TypeId} {z:List UInt8} (d:ssub s 0 hi=some z) (b:isStrB P t=true) (e:ev fr x=some (strV s)) (f:ev fr y=some (.int k hi)):
    Y P w0 S0 n fr is ⟨dst,.slice t x none (some y) none,ty,pos,aft,gd⟩ (strV z):=by
 have g:P.underlying t=some .string:=by unfold isStrB at b;split at b<;>simp_all
 obtain ⟨_,h,i,rfl⟩:=zqy d;intro a w c hs;have j:(ByteArray.mk s.toArray).size=s.length:=by simp[ByteArray.size_mk']
 simp[execOp,c.eval e,c.eval f,strV,Instr.sliceAt,Instr.slice,Instr.sliceBounds,Instr.sliceBound,asIntOf,run_underlying g,j,h,i,zjk]
def Y.min2 {x y:Operand} {k:IntKind} {p q:Int} {ats:Array TypeId} (c:ev fr x=some (.int k p)) (d:ev fr y=some (.int k q)):
    Y P w0 S0 n fr is ⟨dst,.call {callee:=.builtin .min,args:=#[x,y],argTypes:=ats},ty,pos,aft,gd⟩ (.int k (goMin p q)):=by intro a w b hs;simp[execOp,resolve,invoke,builtin,b.eval c,b.eval d,Builtin.min_,Builtin.min2,goMin]
def Y.max2 {x y:Operand} {k:IntKind} {p q:Int} {ats:Array TypeId} (c:ev fr x=some (.int k p)) (d:ev fr y=some (.int k q)):
    Y P w0 S0 n fr is ⟨dst,.call {callee:=.builtin .max,args:=#[x,y],argTypes:=ats},ty,pos,aft,gd⟩ (.int k (goMax p q)):=by intro a w b hs;simp[execOp,resolve,invoke,builtin,b.eval c,b.eval d,Builtin.max_,Builtin.max2,goMax]
def nilB (v:Value):Bool:=match v with | .slice none _ _=>true | _=>false
def Y.nileq [Enc α] {y:Operand} {t':TypeId} (k:elemB P t=some (e,sz,by_)) (m:Can w0 S0 is v (lc l)) (g:ev fr x=some v) (h:ev fr y=some (.slice none 0 0)):
    Y P w0 S0 n fr is ⟨dst,.binOp .eql t x y t',ty,pos,aft,gd⟩ (.bool (nilB v)):=by
 obtain ⟨i,_⟩:=zC k;intro a w c hs;have j: ∀u w',binOp .eql t u w'=(do pure (.bool (<-Op.equal t u w')):Sem Value)\/True:=λ_ _=>.inr trivial;rcases m.row hs with ⟨_,_,rfl⟩ | ⟨b,cap,vs,S,rfl,_⟩
 ·have d:(binOp .eql t (.slice none 0 0) (.slice none 0 0)).run P w= .ok (.bool true) w:=by have:=run_equal_slice_nil (P:=P) w t e none 0 0 i;have j:binOp .eql t (.slice none 0 0) (.slice none 0 0)=(do pure (.bool (<-Op.equal t (.slice none 0 0) (.slice none 0 0)))):=rfl;simp_all
  have f:eqGuard .eql t x y (.slice none 0 0) (.slice none 0 0)=pure ():=rfl;simp only[execOp,c.eval g,c.eval h,f,Sem.run_bind,Sem.run_pure,Result.andThen_ok,d];rfl
 ·have d:(binOp .eql t (.slice (some b) l.length cap) (.slice none 0 0)).run P w= .ok (.bool false) w:=by have:=run_equal_slice_nil (P:=P) w t e (some b) l.length cap i;have j:binOp .eql t (.slice (some b) l.length cap) (.slice none 0 0)=(do pure (.bool (<-Op.equal t (.slice (some b) l.length cap) (.slice none 0 0)))):=rfl;simp_all
  have f:eqGuard .eql t x y (.slice (some b) l.length cap) (.slice none 0 0)=pure ():=rfl;simp only[execOp,c.eval g,c.eval h,f,Sem.run_bind,Sem.run_pure,Result.andThen_ok,d];rfl
def TW.cond_nil [Enc α] {c:Operand} {x y:Code} (g:Can w0 S0 is v (lc l)) (h:ev fr c=some (.bool (nilB v))) (i:l= []->TW P w0 S0 m n fr is x Q) (j:TW P w0 S0 m n fr is y Q):
    TW P w0 S0 m n fr is (.cond c x y) Q:=by
 intro r e a w d hs;have b:=d.eval h;cases f:nilB v with
 | false=>rw[f]at b;exact wp_cond_false b (j r e a w d hs)
 | true=>
   rw[f]at b;refine wp_cond_true b (i ?_ r e a w d hs);rcases g.row hs with ⟨k,_,_⟩ | ⟨o,cap,vs,S,rfl,_⟩
   ·simp_all
   ·trivial
def Y.makeFunc {g:FuncId} {h:List Operand} {cs:List Value} (b:evs fr h=some cs):Y P w0 S0 n fr is ⟨dst,.makeFunc (.func g) #[] h.toArray,ty,pos,aft,gd⟩ (.func (.func g) #[] cs.toArray):=by intro a w c hs;have:=c.evals b;simp[execOp,Instr.makeFunc,<-this]
end
end Go.Proofs.YtmenicbkddagmaaGreat.Sl
end
section
open List renaming take_append_drop->An,getElem?_eq_some_iff->Ba,length_take->Bl,getElem?_take->Bm,getElem?_drop->Bo,nodup_append->Bz,mem_append->Cg,toList_toArray->Cj,map_toArray->Cr,append_nil->Cu
open Nat renaming mul_le_mul_right->Bf,beq->Bp,le_of_ble_eq_true->Bw,succ_mul->By,le_refl->Cq,min_eq_left->Ct,blt->Cx
open Array renaming length_toList->Bh,range->Cv
open Option.some renaming injEq->Bt
namespace Go.Proofs.YtmenicbkddagmaaGreat.Sl
open Go Go.RowKit
variable {α X:Type} {l:List α} {k sz t c by_:Nat} {v u:Value} {x:α} {w:World} {gd:Option (Nat × Bool)} {is':X->List Item} {is:List Item} {zs:List C} {ag:Bool} {d:Option Nat}
def slN:List C->Nat
 | []=>0
 | c::r=>(match c with | .sl ..=>1 | _=>0)+slN r
def opnC:List C->List Value->List C
 | [],_=>[]
 | c::r,Vs=>match c with
   | .sl _ _ _=>match Vs with
     | V::Vs=>.raw V::opnC r Vs
     | []=>c::opnC r []
   | _=>c::opnC r Vs
def opnI:List C->List Value->List Item
 | [],_=>[]
 | c::r,Vs=>match c with
   | .sl _ _ _=>match Vs with
     | V::Vs=>.own V c::opnI r Vs
     | []=>opnI r []
   | _=>opnI r Vs
def Ows.opn {w:World} : ∀{us:List Value} {cs:List C} {S:List Nat},Ows w us cs S->∃Vs,Vs.length=slN cs/\Ows w us (opnC cs Vs) []/\sats w (opnI cs Vs) S
 | _,[],_,h=>by cases h;exact ⟨[],rfl,.nil,rfl⟩
 | _,c::cs,_,h=>by
   cases h with
   | cons u c S us cs T a g=>
     obtain ⟨Vs,hl,d,e⟩:=Ows.opn g;cases c with
     | sl sz n ds=>exact ⟨u::Vs,by simp[slN,hl,Nat.add_comm],.cons u _ [] _ _ [] (.raw u a.oneCell) d,S,T,rfl,a,e⟩
     | int k n=>cases a;exact ⟨Vs,by simp[slN,hl],.cons _ _ [] _ _ [] (.int k n) d,e⟩
     | bool b=>cases a;exact ⟨Vs,by simp[slN,hl],.cons _ _ [] _ _ [] (.bool b) d,e⟩
     | str s=>cases a;exact ⟨Vs,by simp[slN,hl],.cons _ _ [] _ _ [] (.str s) d,e⟩
     | raw v=>cases a with | raw _ f=>exact ⟨Vs,by simp[slN,hl],.cons _ _ [] _ _ [] (.raw _ f) d,e⟩
     | any=>cases a with | any _ f=>exact ⟨Vs,by simp[slN,hl],.cons _ _ [] _ _ [] (.any _ f) d,e⟩
def goneC:C->Bool
 | .sl ..=>false
 | _=>true
def Ow.gone {c:C} {S:List Nat} (h:Ow w u c S) (a:goneC c=true):S= []:=by cases h<;>first | rfl | cases a
inductive Cls:List C->List Item->List C->Prop
 | nil:Cls [] [] []
 | keep {c:C} {cs:List C} {is:List Item} {ds:List C} :Cls cs is ds->Cls (c::cs) is (c::ds)
 | fill {V:Value} {c:C} {cs:List C} {is:List Item} {ds:List C} :Cls cs is ds->Cls (.raw V::cs) (.own V c::is) (c::ds)
 | drop {c:C} {cs:List C} {is:List Item} {ds:List C} :goneC c=true->Cls cs is ds->Cls (c::cs) is (.any::ds)
theorem Ows.cls {cs:List C} {ds:List C} (f:Cls cs is ds): ∀{us:List Value} {S A:List Nat},Ows w us cs S->sats w is A->∃B,Ows w us ds B/\B.Perm (S++A):=by
 induction f with
 | nil=>intro us S A h D;cases h;rw[show A= [] from D];exact ⟨[],.nil,.refl _⟩
 | keep _ ih=>
   intro us S A h D;cases h with
   | cons u c E us cs T a b=>obtain ⟨B,d,e⟩:=ih b D;exact ⟨E++B,.cons u _ E us _ B a d,by rw[List.append_assoc];exact List.Perm.append_left _ e⟩
 | fill _ ih=>
   intro us S A h D;obtain ⟨A1,A2,rfl,F,G⟩:=D;cases h with
   | cons u c E us cs T a b=>
     obtain ⟨B,d,e⟩:=ih b G;cases a with
     | raw v j=>refine ⟨A1++B,.cons _ _ A1 us _ B F d,?_⟩;grind
 | drop g _ ih=>
   intro us S A h D;cases h with
   | cons u c E us cs T a b=>obtain ⟨B,d,e⟩:=ih b D;have i:=a.gone g;subst i;exact ⟨B,.cons u .any [] us _ B (.any _ a.oneCell) d,e⟩
def St.trade {w0:World} {S0:List Nat} {js r:List Item} (h:St w0 S0 (is++r) w) (hs: ∀A,sats w is A->∃B,sats w js B/\B.Perm A):St w0 S0 (js++r) w:=
 h.step λA D c=>by obtain ⟨B,d,a⟩:=hs A D;exact ⟨B,Chg.refl w A,d,a.symm.nodup c,λb e=>.inl (a.mem_iff.1 e)⟩
theorem St.opn {w0 w:World} {S0:List Nat} {v:Value} {sz n:Nat} {pre cs post:List C} {r:List Item} (h:St w0 S0 (.own v (.sl sz n (pre++(cs++post)))::r) w):
 ∃Vs,Vs.length=slN cs/\St w0 S0 (.own v (.sl sz n (pre++(opnC cs Vs++post)))::(opnI cs Vs++r)) w:=by
 have key: ∀A,Ow w v (.sl sz n (pre++(cs++post))) A->∃Vs,Vs.length=slN cs/\∃A1 A2,Ow w v (.sl sz n (pre++(opnC cs Vs++post))) A1/\sats w (opnI cs Vs) A2/\(A1++A2).Perm A:=by
  intro A D;generalize f:pre++(cs++post)=ds at D;cases D with
  | nil=>
    have a:pre= []:=by cases pre<;>simp_all
    have c:cs= []:=by subst a;cases cs<;>simp_all
    have d:post= []:=by subst a c;simpa using f
    subst a c d;exact ⟨[],rfl,[],[],.nil sz,rfl,.refl _⟩
  | row b n cap e sz cur vs _ S g i j hs k l=>
    subst f;obtain ⟨E,M,rfl,a,c⟩:=l.split;obtain ⟨F,G,rfl,d,m⟩:=c.split;obtain ⟨Vs,hl,o,p⟩:=d.opn;refine ⟨Vs,hl,b::(E++([]++G)),F,?_,p,?_⟩
    ·refine .row b n cap e sz cur vs _ _ g i j hs k ?_;have:=a.append (o.append m)
     rwa [An,An]at this
    ·grind
 obtain ⟨os,tape,output,size,base,S,J,q,s⟩:=h;obtain ⟨A,B,rfl,D,I⟩:=J;obtain ⟨Vs,hl,A1,A2,a,c,t⟩:=key A D;refine ⟨Vs,hl,os,tape,output,size,base,A1++(A2++B),⟨A1,A2++B,rfl,a,zb5.2 ⟨A2,B,rfl,c,I⟩⟩,?_,?_⟩
 ·grind
 ·grind
theorem Ow.cls {w:World} {v:Value} {sz n:Nat} {pre cs post ds:List C} {js:List Item} {A B:List Nat} (f:Cls cs js ds) (E:Ow w v (.sl sz n (pre++(cs++post))) A) (F:sats w js B):
 ∃D,Ow w v (.sl sz n (pre++(ds++post))) D/\D.Perm (A++B):=by
 generalize g:pre++(cs++post)=xs at E;cases E with
 | nil=>
   have a:pre= []:=by cases pre<;>simp_all
   have c:cs= []:=by subst a;cases cs<;>simp_all
   have d:post= []:=by subst a c;simpa using g
   subst a c d;cases f;rw[show B= [] from F];exact ⟨[],.nil sz,.refl _⟩
 | row b n cap e sz cur vs _ S i j k hs l m=>
   subst g;obtain ⟨G,J,rfl,a,c⟩:=m.split;obtain ⟨M,I,rfl,d,o⟩:=c.split;obtain ⟨D,h,q⟩:=Ows.cls f d F;refine ⟨b::(G++(D++I)),?_,?_⟩
   ·refine .row b n cap e sz cur vs _ _ i j k hs l ?_;have s:=h.length;have p:=a.append (h.append o);have t:=d.length
    rwa [An,An]at p
   ·grind
def St.cls {w0 w:World} {S0:List Nat} {v:Value} {sz n:Nat} {pre cs post ds:List C} {js r:List Item} (a:Cls cs js ds) (h:St w0 S0 (.own v (.sl sz n (pre++(cs++post)))::(js++r)) w):
    St w0 S0 (.own v (.sl sz n (pre++(ds++post)))::r) w:=by have b:St w0 S0 ((.own v (.sl sz n (pre++(cs++post)))::js)++r) w:=h;refine St.trade (js:=[.own v (.sl sz n (pre++(ds++post)))]) b λA D=>?_;obtain ⟨A1,A2,rfl,c,d⟩:=D;obtain ⟨B,e,f⟩:=Ow.cls a c d;exact ⟨B,⟨B,[],by simp,e,rfl⟩,f⟩
def hl [Enc α] (l:List α) (k:Nat) (zs:List C):C:=.sl (Enc.sz α) l.length ((l.take k).flatMap Enc.enc++(zs++(l.drop (k+1)).flatMap Enc.enc))
theorem ztF [Enc α] (a:l[k]? =some x):l.flatMap (Enc.enc (α:=α))=(l.take k).flatMap Enc.enc++(Enc.enc x++(l.drop (k+1)).flatMap Enc.enc):=by
 obtain ⟨b,rfl⟩:=Ba.1 a;have h:l=l.take k++l[k]::l.drop (k+1):=by rw[<-List.drop_eq_getElem_cons b,An]
 grind
def zpV [Enc α] (a:l[k]? =some x):lc l=hl l k (Enc.enc x):=by unfold lc hl;rw[ztF a]
def zvf [Enc α] {y:α} (a:l[k]? =some x):lc (l.set k y)=hl l k (Enc.enc y):=by
 have b:=(Ba.1 a).1;have c:(l.set k y)[k]? =some y:=by rw[List.getElem?_set,if_pos rfl,if_pos b]
 unfold lc hl;rw[ztF c,List.length_set,List.drop_set_of_lt (by omega),List.take_set_of_le (Cq _)]
def Tup:Nat->Type
 | 0=>Unit
 | 1=>Value
 | n+2=>Value × Tup (n+1)
def tupL:(n:Nat)->Tup n->List Value
 | 0,_=>[]
 | 1,(v:Value)=>[v]
 | n+2,(x:Value × Tup (n+1))=>x.1::tupL (n+1) x.2
def zqB: ∀(n:Nat) (Vs:List Value),Vs.length=n->∃X:Tup n,tupL n X=Vs
 | 0,Vs,h=>⟨(),by simp only[List.length_eq_zero_iff]at h;rw[h];rfl⟩
 | 1,[V],_=>⟨(V:Value),rfl⟩
 | n+2,V::Vs,h=>by obtain ⟨X,A⟩:=zqB (n+1) Vs (by simpa using h);exact ⟨((V,X):Value × Tup (n+1)),by show V::tupL (n+1) X=_;rw[A]⟩
section
variable {P:Program} {w0:World} {S0:List Nat} {R:Type} {m:Option R} {n:Nat} {fr:Fr} {Q:R->Exit->Act->World->Prop}
variable {dst:Option Nat} {ty:TypeId} {pos:String} {aft:Array Edge}
def Gh (w0:World) (S0:List Nat) (is:List Item) (is':X->List Item):Prop:=∀w,St w0 S0 is w->∃x,St w0 S0 (is' x) w
def TO.ghost {ops:Array Oper} {l:List Oper} (g:Gh w0 S0 is is') (h: ∀x,TO P w0 S0 m n fr (is' x) ops l Q):TO P w0 S0 m n fr is ops l Q:=by intro r b a w c hs;obtain ⟨x,d⟩:=g w hs;exact h x r b a w c d
def TW.ghost {c:Code} (g:Gh w0 S0 is is') (h: ∀x,TW P w0 S0 m n fr (is' x) c Q):TW P w0 S0 m n fr is c Q:=by intro r b a w d hs;obtain ⟨x,e⟩:=g w hs;exact h x r b a w d e
def TE.ghost {e:Exit} (g:Gh w0 S0 is is') (h: ∀x,TE w0 S0 m n fr (is' x) e Q):TE w0 S0 m n fr is e Q:=by intro r b a w c hs;obtain ⟨x,d⟩:=g w hs;exact h x r b a w c d
def TA.ghost {H:Hd} {ops:Array Oper} {fuel L:Nat} (g:Gh w0 S0 is is') (h: ∀x,TA P w0 S0 m n fr (is' x) H ops fuel L Q):TA P w0 S0 m n fr is H ops fuel L Q:=by intro r b a w c hs;obtain ⟨x,d⟩:=g w hs;exact h x r b a w c d
def Gh.close [Enc α] {y:α} {ys:List C} {js r:List Item} (A:List Nat) (a:pulls A is=some (.own v (hl l k zs)::(js++r))) (b:l[k]? =some x) (c:Cls zs js ys) (d:Enc.enc y=ys):
    Gh w0 S0 is (λ_:Unit=>.own v (lc (l.set k y))::r):=by intro w h;subst d;refine ⟨(),?_⟩;rw[zvf b];exact St.cls c (h.pulls A a)
def Gh.nilItem (sz:Nat):Gh w0 S0 is (λ_:Unit=>.own (.slice none 0 0) (.sl sz 0 [])::is):=λ_ h=>⟨(),h.nilItem sz⟩
theorem Y.load_hole [Enc α] {z:α} {x:Operand} {s i:Nat} {us:List Value} (g:kindB P t=some (ag,s)) (C:Enc.sz α=sz) (hi:is[i]? =some (.own v (hl l k zs))) (D:l[k]? =some z) (h:ev fr x=some (elP v (k*sz+c))) (E:valsR ((zs.drop c).take s)=some us) (F:Bp us.length s=true) (m:(ag||Bp s 1)=true) (b:loaded ag us=some u) (G:Bp zs.length sz=true):
 Y P w0 S0 n fr is ⟨dst,.load t x,ty,pos,aft,gd⟩ u:=by
 subst C;intro a w o hs;have H:=(Ba.1 D).1;have I:k*Enc.sz α+Enc.sz α<=l.length*Enc.sz α:=by rw[<-By];exact Bf _ H
 have Z:zs.length=Enc.sz α:=by simpa using G
 have J:((l.take k).flatMap (Enc.enc (α:=α))).length=k*Enc.sz α:=by rw[zbj,Bl,Ct (by omega)]
 obtain ⟨A,hA,_⟩:=zcc hi hs.own.choose_spec.1;obtain ⟨T,hT,_⟩:=Ow.rd hA;unfold hl at hT;generalize K:(l.take k).flatMap (Enc.enc (α:=α))++(zs++(l.drop (k+1)).flatMap Enc.enc)=cs at hT;generalize a1:l.length=ln at hT I;cases hT with
 | nil=>omega
 | row p n' cap _ vs _ S L h2 h3 y=>
   subst K;have h5:=y.length;obtain ⟨S1,S2,rfl,_,e⟩:=y.split;rw[J]at e;have M:zs++(l.drop (k+1)).flatMap (Enc.enc (α:=α))=zs.take c++((zs.drop c).take s++((zs.drop c).drop s++(l.drop (k+1)).flatMap Enc.enc)):=by
    conv=>lhs;rw[<-An c zs,<-An s (zs.drop c)]
    simp
   rw[M]at e;obtain ⟨S3,S4,rfl,_,N⟩:=e.split;obtain ⟨S5,S6,rfl,f,_⟩:=N.split;have d:=f.valsR E;have hl':us.length=s:=by simpa using F
   have B:=f.length;rw[<-d]at hl' b;by_cases O:s=0
   ·subst O;have:ag=true:=by simpa using m
    subst this;have Q:us= []:=List.eq_nil_of_length_eq_zero (by rw[d]at hl';exact hl');subst Q;have:=zci (P:=P) (w:=w) (a:=p.add (k*Enc.sz α+c)) (us:=[]) (v:=.agg #[]) g (by simp) (.inl ⟨rfl,rfl,rfl⟩);rw[d]at b;simp only[loaded,cond_true,Bt]at b;subst b;simp[execOp,o.eval h,elP,Instr.loadAt,Instr.sureAddr,this]
   ·have a2:c<=zs.length:=by grind
    have R:(zs.take c).length=c:=by rw[Bl];omega
    rw[R]at f hl' d B b;have U:(ag=true/\us.length=s/\u= .agg us.toArray)\/(ag=false/\us= [u]):=by
     rw[<-d];unfold loaded at b;cases ag with
     | true=>left;simp only[cond_true,Bt]at b;exact ⟨rfl,hl',b.symm⟩
     | false=>
       right;simp only[cond_false]at b;have L:s=1:=by simpa using m
       refine ⟨rfl,?_⟩;generalize hq:List.take ((zs.drop c).take s).length (List.drop c (List.drop (k*Enc.sz α) vs))=q at hl' b
       match q,hl',b with
       | [q],_,b=>simp at b;rw[b]
       | [],hl',_=>simp at hl';omega
       | _::_::_,hl',_=>simp at hl';omega
    have V: ∀j,j<us.length->w.cell? ((p.add (k*Enc.sz α+c)).add j)=us[j]?:=by
     intro j W;have X:j<((zs.drop c).take s).length:=by rw[<-B,d];exact W
     rw[add_add,<-d,Bm,if_pos X,Bo,Bo];grind
    have:=zci (P:=P) g V U;simp[execOp,o.eval h,elP,Instr.loadAt,Instr.sureAddr,this]
def Ows.of_valsR {w:World} : ∀{cs:List C} {vs:List Value},valsR cs=some vs->(∀v∈vs,v.oneCell'=true)->Ows w vs cs []
 | [],vs,h,_=>by simp[valsR]at h;subst h;exact .nil
 | c::cs,vs,h,f=>by
   unfold valsR at h;cases d:valR c with
   | none=>rw[d]at h;simp at h
   | some u=>
     cases e:valsR cs with
     | none=>rw[d,e]at h;simp at h
     | some A=>
       rw[d,e]at h;simp only[Bt]at h;subst h;have g:Ow w u c []:=by
        cases c with
        | int k n=>simp[valR]at d;subst d;exact .int k n
        | bool b=>simp[valR]at d;subst d;exact .bool b
        | str s=>simp[valR]at d;subst d;exact .str s
        | raw v=>simp[valR]at d;subst d;exact .raw v (f v (by simp))
        | any=>simp[valR]at d
        | sl a b c=>simp[valR]at d
       exact .cons u c [] A cs [] g (Ows.of_valsR e λv i=>f v (by simp[i]))
def Ow.noSR {c:C} {S:List Nat} (h:Ow w u c S) (a:valR c=some v):S= []:=by cases h<;>simp_all[valR]
def Ows.noSR {w:World} : ∀{us vs:List Value} {cs:List C} {S:List Nat},Ows w us cs S->valsR cs=some vs->S= []
 | _,_,[],_,h,_=>by cases h;rfl
 | _,vs,c::cs,_,h,a=>by
   cases h with
   | cons v c S B cs T e f=>
     unfold valsR at a;cases b:valR c with
     | none=>rw[b]at a;simp at a
     | some u=>
       cases d:valsR cs with
       | none=>rw[b,d]at a;simp at a
       | some A=>rw[e.noSR b,Ows.noSR f d];rfl
def zuM (p z q us:List Value) (c:Nat) (h:c+us.length<=z.length):splice (p++(z++q)) (p.length+c) us=p++(splice z c us++q):=by rw[zfO,zk3 _ _ _ _ h]
theorem Ef.store_hole [Enc α] {z:α} {x y:Operand} {s:Nat} {zs':List C} {us zv:List Value} (i:Nat) (Y:kindB P t=some (ag,s)) (Z:Enc.sz α=sz) (hi:is[i]? =some (.own v (hl l k zs))) (hz:l[k]? =some z) (f:ev fr x=some (elP v (k*sz+c))) (hy:ev fr y=some u) (hv:Cel w0 S0 is u us) (a0:Bp us.length s=true) (a1:Bp zs.length sz=true) (a2:Nat.ble (c+us.length) sz=true) (o:valsR zs=some zv) (a3:valsR zs'=some (splice zv c us)) {is':List Item} (a4:is.set i (.own v (hl l k zs'))=is'):
 Ef P w0 S0 n fr is ⟨none,.store t x y,ty,pos,aft,gd⟩ (λ_:Unit=>undef) (λ_=>is'):=by
 subst Z;have b9:c+us.length<=Enc.sz α:=Bw a2;have a5:zs.length=Enc.sz α:=by simpa using a1
 intro a w K Q H E hK;obtain ⟨a6,h1⟩:=hv w E;have a7:=(Ba.1 hz).1;have c0:k*Enc.sz α+Enc.sz α<=l.length*Enc.sz α:=by rw[<-By];exact Bf _ a7
 have c1:((l.take k).flatMap (Enc.enc (α:=α))).length=k*Enc.sz α:=by rw[zbj,Bl,Ct (by omega)]
 have I: ∀A,Ow w v (hl l k zs) A->∃b cap cur e' p q S1 S2,v= .slice (some ⟨b,0,none⟩) l.length cap/\A=b::(S1++S2)/\w.heap[b]? =some (.cells cur e' (0,0))/\l.length<=cap/\cap<=maxLen/\cap*Enc.sz α<=cur.size/\
  cur.toList.take (l.length*Enc.sz α)=p++(zv++q)/\p.length=k*Enc.sz α/\(∀u∈zv,u.oneCell'=true)/\Ows w p ((l.take k).flatMap Enc.enc) S1/\Ows w q ((l.drop (k+1)).flatMap Enc.enc) S2:=by
  intro A hA
  unfold hl at hA
  generalize hg:(l.take k).flatMap (Enc.enc (α:=α))++(zs++(l.drop (k+1)).flatMap Enc.enc)=cs at hA
  generalize J:l.length=ln at hA
  cases hA with
  | nil=>omega
  | row b n cap e sz cur vs cs S j hc hm hs m hr=>
    subst hg;subst J;obtain ⟨S1,S2,rfl,B,D⟩:=hr.split;obtain ⟨S3,S4,rfl,g,F⟩:=D.split;have k5:=g.length;obtain ⟨T,hT,_⟩:=g.rds;have L:=hT.valsR o;have k7:=g.noSR o;subst k7;rw[L]at g;refine ⟨b,cap,cur,e,_,_,S1,S4,rfl,by simp,j,hc,hm,hs,?_,?_,g.oneCells,B,F⟩
    ·rw[m,<-L,An,An]
    ·grind
 obtain ⟨A0,hA0,_⟩:=zcc hi E.own.choose_spec.1;obtain ⟨b,cap,cur,e',p,q,S1,S2,rfl,_,j,M,a8,N,m,a9,O,_,_⟩:=I A0 hA0;have c2:zv.length=Enc.sz α:=by have h2:=congrArg List.length m;have:(Ows.of_valsR (w:=w) o O).length=_:=rfl;rw[(Ows.of_valsR (w:=w) o O).length,a5]
 have b0:l.length*Enc.sz α<=cap*Enc.sz α:=Bf _ M;have R:k*Enc.sz α+c+us.length<=cur.toList.length:=by rw[Bh (xs:=cur)];omega
 have b1:=zeY (P:=P) (off:=k*Enc.sz α+c) Y j a6 a0 h1 (by rw[<-Bh (xs:=cur)];exact R);have he:(execOp a.eval ⟨none,.store t x y,ty,pos,aft,gd⟩).run P w= .ok .skip (w.setRow b (splice cur.toList (k*Enc.sz α+c) us).toArray):=by simp[execOp,H.eval f,H.eval hy,elP,Instr.storeAt,Instr.sureAddr,add_lit,b1]
 unfold Oper.wp;rw[he];refine hK () _ ?_;subst a4;refine E.upd hi λA hA b3=>?_;obtain ⟨d,cap2,cur2,G,U,V,T1,T2,c3,rfl,W,_,_,_,b4,c4,_,B,D⟩:=I A hA;obtain ⟨rfl,rfl⟩:d=b/\cap2=cap:=by simp_all
 obtain ⟨rfl,rfl⟩:cur2=cur/\G=e':=by rw[j]at W;cases W;exact ⟨rfl,rfl⟩
 have b5:U=p:=by have h2:=congrArg (List.take (k*Enc.sz α)) (b4.symm.trans m);grind
 subst b5;have b6:V=q:=by simp_all
 subst b6;have b7: ∀x∈T1++T2,x≠d:=by grind
 have X: ∀x∈T1++T2,(w.setRow d (splice cur2.toList (k*Enc.sz α+c) us).toArray).heap[x]? =w.heap[x]?:=λx f=>(Chg.setRow w d _).keep x (by
  rcases Cg.1 f with h | h
  ·exact B.lt x h
  ·exact D.lt x h) (by simpa using b7 x f)
 refine ⟨d::(T1++([]++T2)),?_,?_,by simpa using b3,λx f=>.inl (by simpa using f)⟩
 ·refine ⟨(Chg.setRow w d _).os,(Chg.setRow w d _).tape,(Chg.setRow w d _).output,(Chg.setRow w d _).size,λx f J=>(Chg.setRow w d _).keep x f ?_⟩;simp_all
 ·have b8:(splice cur2.toList (k*Enc.sz α+c) us).length=cur2.size:=by rw[zgo _ _ _ R,Bh]
  show Ow _ _ (hl l k zs') _;unfold hl;refine .row d l.length cap2 G (Enc.sz α) _ (U++(splice zv c us++V)) _ _ (setRow_heap w d _ _ G _ j) M a8 (by simpa[b8] using N) ?_ ?_
  ·rw[Cj,znH _ _ _ _ (by omega) (by rw[Bh (xs:=cur2)];exact Nat.le_trans b0 N),m,<-a9,zuM _ _ _ _ _ (by omega)]
  ·have g:=B.keep (w':=w.setRow d (splice cur2.toList (k*Enc.sz α+c) us).toArray) λx f=>X x (by simp[f]);have F:=D.keep (w':=w.setRow d (splice cur2.toList (k*Enc.sz α+c) us).toArray) λx f=>X x (by simp[f]);refine g.append ((Ows.of_valsR a3 ?_).append F);intro u hu;simp only[splice,Cg]at hu;grind
def elv (w:World) (v:Value) (j:Nat):Value:=match v with
 | .slice (some a) _ _=>(w.cell? (a.add j)).getD undef
 | _=>undef
def bvals (w:World) (v:Value) (b:Nat):Nat->List C->List Value
 | _,[]=>[]
 | j,c::r=>(match valR c with | some u=>u | none=>elv w v (b+j))::bvals w v b (j+1) r
theorem zrV {w w':World} {v:Value} {b:Nat} : ∀{us:List Value} {cs:List C} {S:List Nat} {j:Nat},Rds w' us cs S->(∀i u,us[i]? =some u->elv w v (b+(j+i))=u)->us=bvals w v b j cs
 | _,[],_,_,h,_=>by cases h;rfl
 | _,c::cs,_,j,h,a=>by
   cases h with
   | cons u c S us cs T d e=>
     unfold bvals;have ih:=zrV (w:=w) (v:=v) (b:=b) (j:=j+1) e λi u hi=>by have:=a (i+1) u (by simpa using hi);grind
     rw[<-ih];congr 1;cases f:valR c with
     | some q=>exact d.valR f
     | none=>exact (a 0 u (by simp)).symm
theorem Base.row {v:Value} {sz k:Nat} {cs:List C} (h:Base w0 S0 v (.sl sz k cs)) (c:0<k*sz): ∃a cap vs S,v= .slice (some a) k cap/\vs.length=k*sz/\(∀j,j<k*sz->w0.cell? (a.add j)=vs[j]?)/\Rds w0 vs cs S/\(∀b∈S,b∉S0)/\a.block<w0.heap.size/\a.block∉S0:=by
 obtain ⟨F,A,d⟩:=h;have e:=A.lt;cases A with
 | nil=>omega
 | row a n cap sz vs cs S f g i l=>grind
theorem Rds.at {w:World} : ∀{vs:List Value} {cs:List C} {S:List Nat} {j:Nat} {c:C},Rds w vs cs S->cs[j]? =some c->∃v T,vs[j]? =some v/\Rd w v c T/\∀b∈T,b∈S
 | _,[],_,_,_,_,h=>by simp at h
 | _,c::cs,_,0,d,h,a=>by
   cases h with
   | cons u c S us cs T f e=>grind
 | _,c::cs,_,j+1,d,h,a=>by
   cases h with
   | cons u c S us cs T f e=>simp only[List.getElem?_cons_succ]at a;obtain ⟨v,U,g,i,k⟩:=Rds.at e a;grind
theorem Base.el [Enc α] {d:C} (e:Base w0 S0 v (lc l)) (f:l[k]? =some x) (g:Enc.sz α=sz) (h:(Enc.enc x)[c]? =some d):Base w0 S0 (elv w0 v (k*sz+c)) d:=by
 subst g;have i:=(Ba.1 f).1;have j:c<Enc.sz α:=by rw[<-Enc.len x];exact (Ba.1 h).1
 have t:k*Enc.sz α+Enc.sz α<=l.length*Enc.sz α:=by rw[<-By];exact Bf _ i
 obtain ⟨a,cap,vs,S,rfl,w,y,m,n,_,_⟩:=e.row (by omega);obtain ⟨r,o⟩:=zjQ l k c x f (Nat.le_of_lt j);have p:(l.flatMap (Enc.enc (α:=α)))[k*Enc.sz α+c]? =some d:=by have:=congrArg (λq:List C=>q[0]?) o;grind
 obtain ⟨u,T,z,A,s⟩:=m.at p;refine ⟨T,?_,λb e=>n b (s b e)⟩;have:elv w0 (.slice (some a) l.length cap) (k*Enc.sz α+c)=u:=by unfold elv;grind
 simp_all
theorem Y.load_base [Enc α] {x:Operand} {s:Nat} {z:α} (o:kindB P t=some (ag,s)) (p:Enc.sz α=sz) (y:Base w0 S0 v (lc l)) (h:l[k]? =some z) (A:ev fr x=some (elP v (k*sz+c))) (hl:Bp (((Enc.enc z).drop c).take s).length s=true) (B:Cx 0 s=true) (C:(ag||Bp s 1)=true) (b:loaded ag (bvals w0 v (k*sz) c (((Enc.enc z).drop c).take s))=some u):
 Y P w0 S0 n fr is ⟨dst,.load t x,ty,pos,aft,gd⟩ u:=by
 subst p;intro a w D hs;have E:=(Ba.1 h).1;have U:k*Enc.sz α+Enc.sz α<=l.length*Enc.sz α:=by rw[<-By];exact Bf _ E
 have V:0<s:=by simpa using B
 have hl':(((Enc.enc z).drop c).take s).length=s:=by simpa using hl
 have W:c+s<=Enc.sz α:=by rw[Bl,List.length_drop,Enc.len]at hl';omega
 obtain ⟨f,cap,vs,S,rfl,F,G,m,X,H,I⟩:=y.row (by omega);have Z:=hs.base _ H I;have J: ∀j,j<l.length*Enc.sz α->w.cell? (f.add j)=vs[j]?:=by intro j g;rw[<-G j g];refine zl7 ?_;rw[add_block];trivial
 obtain ⟨r,K⟩:=zjQ l k c z h (by omega);have L:l.flatMap (Enc.enc (α:=α))=(l.flatMap (Enc.enc (α:=α))).take (k*Enc.sz α+c)++(((Enc.enc z).drop c).take s++(((Enc.enc z).drop c).drop s++r)):=by
  conv=>lhs;rw[<-An (k*Enc.sz α+c) (l.flatMap (Enc.enc (α:=α)))]
  rw[K];conv=>lhs;rw[<-An s ((Enc.enc z).drop c)]
  simp
 have M:((l.flatMap (Enc.enc (α:=α))).take (k*Enc.sz α+c)).length=k*Enc.sz α+c:=by rw[Bl,zbj];omega
 rw[L]at m;obtain ⟨S1,S2,rfl,_,N⟩:=m.split;obtain ⟨S3,S4,rfl,e,_⟩:=N.split;rw[M]at e;have d:=e.length;rw[hl']at e d;have O:((vs.drop (k*Enc.sz α+c)).take s)=bvals w0 (.slice (some f) l.length cap) (k*Enc.sz α) c (((Enc.enc z).drop c).take s):=by
  refine zrV e λi q hi=>?_;have Q:i<s:=by grind
  rw[Bm,if_pos Q,Bo]at hi;unfold elv;grind
 rw[<-O]at b;have R:(ag=true/\((vs.drop (k*Enc.sz α+c)).take s).length=s/\u= .agg ((vs.drop (k*Enc.sz α+c)).take s).toArray)\/(ag=false/\((vs.drop (k*Enc.sz α+c)).take s)= [u]):=by
  generalize hq:(vs.drop (k*Enc.sz α+c)).take s=q at b d;unfold loaded at b;cases ag with
  | true=>left;simp only[cond_true,Bt]at b;exact ⟨rfl,d,b.symm⟩
  | false=>
    right;simp only[cond_false]at b;have F:s=1:=by simpa using C
    refine ⟨rfl,?_⟩
    match q,d,b with
    | [q],_,b=>simp at b;rw[b]
    | [],d,_=>simp at d;omega
    | _::_::_,d,_=>simp at d;omega
 have:=zci (P:=P) (a:=f.add (k*Enc.sz α+c)) o (λj g=>by
  have T:j<s:=by simp only[Bl]at g;omega
  rw[add_add,J _ (by omega),Bm,if_pos T,Bo]) R
 simp[execOp,D.eval A,elP,Instr.loadAt,Instr.sureAddr,this]
def Cels (w0:World) (S0:List Nat) (is:List Item):List Value->List (List Value)->Prop
 | [],[]=>True
 | V::Vs,us::uss=>Cel w0 S0 is V us/\Cels w0 S0 is Vs uss
 | _,_=>False
theorem Cels.get {w:World} (hs:St w0 S0 is w): ∀{Vs:List Value} {uss:List (List Value)},Cels w0 S0 is Vs uss->Vs.map (λV=>V.cells.toList)=uss/\∀us∈uss,∀u∈us,u.oneCell'=true
 | [],[],_=>⟨rfl,by simp⟩
 | V::Vs,us::uss,h=>by obtain ⟨a,b⟩:=h;obtain ⟨c,d⟩:=a w hs;obtain ⟨e,f⟩:=Cels.get hs b;grind
 | [],_::_,h=>h.elim
 | _::_,[],h=>h.elim
theorem Ef.buildSliceR {e len:Nat} {ps:List (Nat × Operand)} {Vs:List Value} {z:Value} (uss:List (List Value)) (cs:List C) (v:elemB P t=some (e,sz,by_)) (y:zeroB P e=some z) (A:partVs fr 0 ps=some Vs) (B:Bp Vs.length len=true) (D:uss.all (λus=>Bp us.length sz)=true) (f:Nat.ble (len*sz) 16777216=true) (E:Cx 0 sz=true) (F:Cels w0 S0 is Vs uss) (G:valsR cs=some uss.flatten):
 Ef P w0 S0 n fr is ⟨d,.buildSlice t len ps.toArray,ty,pos,aft,gd⟩ (λb:Nat=>.slice (some ⟨b,0,none⟩) len len) (λb=>.own (.slice (some ⟨b,0,none⟩) len len) (.sl sz len cs)::is):=by
 obtain ⟨c,ti,g,j,_⟩:=zC v;have Z:Vs.length=len:=by simpa using B
 intro a w K Q H hs hK;obtain ⟨k,L⟩:=F.get hs;have M: ∀us∈uss,us.length=sz:=λus h=>by simpa using List.all_eq_true.1 D us h
 have hVs: ∀V∈Vs,V.cells.size=sz:=by
  intro V W;have:V.cells.toList∈uss:=by rw[<-k];exact List.mem_map.2 ⟨V,W,rfl⟩
  grind
 have m:Vs.flatMap (λV=>V.cells.toList)=uss.flatten:=by rw[List.flatMap_def,k]
 have o:uss.flatten.length=len*sz:=by
  rw[<-m];have: ∀(l:List Value),(∀V∈l,V.cells.size=sz)->(l.flatMap (λV=>V.cells.toList)).length=l.length*sz:=by
   intro l;induction l with
   | nil=>intro _;simp
   | cons x l ih=>intro h;rw[List.flatMap_cons,List.length_append,ih λV W=>h V (by simp[W]),Bh,h x (by simp),List.length_cons,By];omega
  grind
 have p: ¬len*sz>2 ^ 24:=by have:=Bw f;omega
 have N: ∀U:Array Value,((Cv (len*sz)).map (U[·% U.size]!)).size=len*sz:=λU=>by simp
 have q: ∀U:Array Value,Instr.fill (λi=>some (i*sz,sz)) ((Cv (len*sz)).map (U[·% U.size]!)) (ps.map λ(i,x)=>(i,a.eval x))=some (uss.flatten).toArray:=by intro U;rw[zlp H A,zmc sz Vs 0 _ hVs (by simp[Z])];congr 2;rw[m];simp only[splice,Nat.zero_mul,List.take_zero,List.nil_append,Nat.zero_add];simp_all
 have I:(execOp a.eval ⟨d,.buildSlice t len ps.toArray,ty,pos,aft,gd⟩).run P w= .ok (.value (.slice (some ⟨w.heap.size,0,none⟩) len len)) (w.alloc (.cells (uss.flatten).toArray e)):=by
  by_cases s:len*sz=0
  ·simp only[execOp,Instr.buildSlice,Sem.run_bind,run_underlying c,Result.andThen_ok,sizeOf,typeInfo,run_program,g,Sem.run_pure,j,if_neg p,if_pos s];have:=q #[];simp only[Cr];rw[this];rfl
  ·simp only[execOp,Instr.buildSlice,Sem.run_bind,run_underlying c,Result.andThen_ok,sizeOf,typeInfo,run_program,g,Sem.run_pure,j,if_neg p,if_neg s,zgL y];have:=q z.cells;simp only[Cr];rw[this];rfl
 unfold Oper.wp;rw[I];refine hK w.heap.size _ ?_;have J:len<=maxLen:=by have O:=Bw f;have R:len<=len*sz:=Nat.le_mul_of_pos_right _ (by simpa using E);simp only[maxLen];omega
 refine hs.add (Chg.alloc w _ []) _ [w.heap.size] ?_ (by simp) (by simp);refine .row w.heap.size len len e _ _ _ _ [] (heap_alloc_new w _) (Cq _) J (Nat.le_of_eq (by rw[List.size_toArray,o]:_=_).symm) rfl ?_;rw[Cj,List.take_of_length_le (by rw[o];exact Cq _)];refine Ows.of_valsR G λu c=>?_;grind
theorem Ef.appendN {e j:Nat} {x y:Operand} {z:Value} {cs ds:List C} {is':List Item} (ks:List Nat) (J:(k+j)*by_<=140737488355328) (L:k+j<=9223372036854775807) (M:elemB P t=some (e,sz,by_)) (g:zeroB P e=some z) (N:Bp z.cells.size sz=true) (O:Cx 0 sz=true) (R:pulls ks is=some (.own v (.sl sz k cs):: .own u (.sl sz j ds)::is')) (S:ev fr x=some v) (T:ev fr y=some u):
 Ef P w0 S0 n fr is ⟨d,.call {callee:=.builtin .append,args:=#[x,y],argTypes:=#[t,t]},ty,pos,aft,gd⟩ (λv':Value=>v') (λv'=>.own v' (.sl sz (k+j) (cs++ds))::is'):=by
 obtain ⟨s,ti,h,U,V⟩:=zC M;have W:ti.zero=some z:=by unfold zeroB at g;rw[h]at g;simpa using g
 intro a w K Q D hs hK;have hs':St w0 S0 ([.own v (.sl sz k cs),.own u (.sl sz j ds)]++is') w:=hs.pulls ks R;have key: ∀A,sats w [.own v (.sl sz k cs),.own u (.sl sz j ds)] A->A.Nodup->
  ∃v' w',(Builtin.append_ #[t,t] ty #[v,u]).run P w= .ok v' w'/\∃A',Chg w w' A/\sats w' [.own v' (.sl sz (k+j) (cs++ds))] A'/\A'.Nodup/\∀b∈A',b∈A\/w.heap.size<=b:=by
  rintro A ⟨A1,A2,rfl,l,A3,A4,rfl,X,Y⟩ m
  rw[show A4= [] from Y,Cu]at m |-
  obtain ⟨us,T1,e1,E,F,rfl⟩:=Ow.ownsRow l
  cases X with
  | nil=>have o:=append_none_any (P:=P) (ty:=ty) s h v k us E;refine ⟨v,w,o,v.ownBlock.toList++T1,Chg.refl _ _,⟨v.ownBlock.toList++T1,[],by rw[Cu],?_,rfl⟩,by simpa using m,λb Z=>.inl (by simpa using Z)⟩;simp_all
  | row b n2 cap2 e2 sz2 cur vs _ T2 hh hc hm a5 G p=>
    have a6:j*sz<=cap2*sz:=Bf _ hc;have H:vs.length=j*sz:=by rw[<-G,Bl,Bh];omega
    have a0: ∀i q,vs[i]? =some q->w.cell? ((⟨b,0,none⟩:Addr).add i)=some q:=by
     intro i q c;have hi:i<j*sz:=by rw[<-H];exact (Ba.1 c).1
     have a1:(⟨b,0,none⟩:Addr).add i=⟨b,i,none⟩:=by unfold Addr.add;split<;>simp_all
     rw[a1,cell_of_row w b i cur e2 (0,0) hh,<-c,<-G,Bm,if_pos hi];simp
    obtain ⟨v',w',f,r1,r2,I,r4⟩:=append_raw (P:=P) (ty:=ty) s h W U V (by simpa using N) (by simpa using O) E ⟨b,0,none⟩ j cap2 vs H a0 p.oneCells L J;obtain ⟨hndL,hndR,a7⟩:=Bz.1 m;obtain ⟨hndV,hndT,hdisV⟩:=Bz.1 hndL;obtain ⟨a8,hndT2⟩:=List.nodup_cons.1 hndR;have a9:=F.lt;have b0:=p.lt;have a2: ∀q∈T1++T2,w'.heap[q]? =w.heap[q]?:=by
     intro q c;refine I.block q ?_ ?_
     ·grind
     ·grind
    have hO:=(F.append p).keep a2;have a3:Chg w w' ((v.ownBlock.toList++T1)++(b::T2)):=Chg.of_grown I _ λq c=>by simp only[Cg];exact .inl (.inl c)
    refine ⟨v',w',r1,v'.ownBlock.toList++(T1++T2),a3,⟨_,[],by simp,Ow.of_ownsRow r2 hO,rfl⟩,?_,?_⟩
    ·grind
    ·grind
 obtain ⟨SA,hSA⟩:=hs'.own;obtain ⟨A,B,rfl,hA,hB⟩:=zb5.1 hSA.1;obtain ⟨v',w',l,_⟩:=key A hA (Bz.1 hSA.2.1).1;have a4:St w0 S0 ([.own v' (.sl sz (k+j) (cs++ds))]++is') w':=hs'.step λA hA hn=>by grind
 have o:(execOp a.eval ⟨d,.call {callee:=.builtin .append,args:=#[x,y],argTypes:=#[t,t]},ty,pos,aft,gd⟩).run P w= .ok (.value v') w':=by simp[execOp,resolve,invoke,builtin,D.eval S,D.eval T,l]
 unfold Oper.wp;rw[o];exact hK v' w' a4
def Ef.appN [Enc α] {e:Nat} {x y:Operand} {z:Value} {k r:List α} {is':List Item} (B:List Nat) (a:app by_ l k=some r) (b:elemB P t=some (e,sz,by_)) (c:zeroB P e=some z) (f:Bp z.cells.size sz=true) (g:Enc.sz α=sz) (h:pulls B is=some (.own v (lc l):: .own u (lc k)::is')) (i:ev fr x=some v) (j:ev fr y=some u):
    Ef P w0 S0 n fr is ⟨d,.call {callee:=.builtin .append,args:=#[x,y],argTypes:=#[t,t]},ty,pos,aft,gd⟩ (λA:Value=>A) (λA=>.own A (lc r)::is'):=by subst g;obtain ⟨rfl,m,o⟩:=zku a;have:=Ef.appendN (P:=P) (w0:=w0) (S0:=S0) (n:=n) (fr:=fr) (is:=is) (ty:=ty) (pos:=pos) (aft:=aft) (d:=d) (gd:=gd) (t:=t) (e:=e) (x:=x) (y:=y) (cs:=l.flatMap Enc.enc) (ds:=k.flatMap Enc.enc) B m o b c f (by simpa using Enc.pos (α:=α)) h i j;unfold lc;simp_all
end
end Go.Proofs.YtmenicbkddagmaaGreat.Sl
end
section
open List renaming eq_nil_of_length_eq_zero->An,flatMap_append->Ba,take_append_drop->Bf,length_take->Bl,length_drop->Bm,getElem?_take->Bp,getElem?_drop->Bt,length_append->Bw,mem_append->Bz,append_nil->Cg,nodup_cons->Cj,drop_drop->Cq
open Nat renaming mul_le_mul_right->Bh,add_mul->Bo
open Option renaming map_some->By
namespace Go.Proofs.YtmenicbkddagmaaGreat.Sl
open Go Go.RowKit
variable {α:Type} {l z:List α} {v:Value} {t e sz by_:Nat} {lo hi:Int} {x:Operand} {cs:List C}
def piece (l:List α) (lo hi:Int):Option (List α):=if 0<=lo/\lo<=hi/\hi<=l.length then some ((l.drop lo.toNat).take (hi.toNat - lo.toNat)) else none
def zbB (h:piece l lo hi=some z):0<=lo/\lo<=hi/\hi<=l.length/\z=(l.drop lo.toNat).take (hi.toNat - lo.toNat):=by unfold piece at h;simp_all
def subV (v:Value) (sz lo n:Nat):Value:=match v with
 | .slice a _ cap=>.slice (if cap=lo then a else a.map (·.add (lo*sz))) n (cap - lo)
 | _=>undef
theorem Rd.sub [Enc α] {w:World} {F:List Nat} (h:Rd w v (lc l) F) (hs:piece l lo hi=some z):
 ∃G,Rd w (subV v (Enc.sz α) lo.toNat (hi.toNat - lo.toNat)) (lc z) G/\∀b∈G,b∈F:=by
 obtain ⟨u,x,m,rfl⟩:=zbB hs;have d:((l.drop lo.toNat).take (hi.toNat - lo.toNat)).length=hi.toNat - lo.toNat:=by rw[Bl,Bm];omega
 have hl:l=l.take lo.toNat++((l.drop lo.toNat).take (hi.toNat - lo.toNat)++(l.drop lo.toNat).drop (hi.toNat - lo.toNat)):=by rw[Bf,Bf]
 unfold lc at h |-
 rw[d];generalize y:(l.drop lo.toNat).take (hi.toNat - lo.toNat)=z at d hl;generalize A:l.length=ln at h m;generalize o:l.flatMap (Enc.enc (α:=α))=cs at h;cases h with
 | nil=>
   have p:lo.toNat=0:=by omega
   have e:hi.toNat - lo.toNat=0:=by omega
   have:z= []:=An (by omega);subst this;rw[e,p];exact ⟨[],.nil _,by simp⟩
 | row a n cap sz vs cs S B C q g=>
   by_cases i:cap=lo.toNat
   ·have e:hi.toNat - lo.toNat=0:=by omega
    have:z= []:=An (by omega);subst this;rw[e];simp only[subV,if_pos i];have:=Rd.row (w:=w) a 0 (cap - lo.toNat) (Enc.sz α) [] [] [] (by simp) (Nat.zero_le _) (λj f=>by simp at f) .nil;grind
   ·subst o;simp only[subV,if_neg i,By];rw[hl,Ba,Ba]at g;obtain ⟨I,J,rfl,_,s⟩:=g.split;obtain ⟨M,N,rfl,k,_⟩:=s.split;have t:((l.take lo.toNat).flatMap (Enc.enc (α:=α))).length=lo.toNat*Enc.sz α:=by rw[zbj,Bl];congr 1;omega
    rw[t,zbj,d]at k;have D:lo.toNat*Enc.sz α+(hi.toNat - lo.toNat)*Enc.sz α<=ln*Enc.sz α:=by rw[<-Bo];exact Bh _ (by omega)
    refine ⟨_,Rd.row (a.add (lo.toNat*Enc.sz α)) (hi.toNat - lo.toNat) (cap - lo.toNat) (Enc.sz α) _ _ _ ?_ (by omega) ?_ k,?_⟩
    ·simp;omega
    ·intro j f;rw[add_add,q _ (by omega),Bp,if_pos f,Bt]
    ·intro b c;rcases Bz.1 c with c | c
     ·refine Bz.2 (.inl ?_);split at c
      ·trivial
      ·rename_i E;rw[add_block]at c;rw[if_neg]
       ·trivial
       ·omega
     ·grind
theorem Can.sub {α:Type} [Enc α] {w0:World} {S0:List Nat} {is:List Item} {v:Value} {l z:List α} {lo hi:Int} {sz:Nat} (hs:piece l lo hi=some z) (a:Enc.sz α=sz) (h:Can w0 S0 is v (lc l)):
 Can w0 S0 is (subV v sz lo.toNat (hi.toNat - lo.toNat)) (lc z):=by subst a;intro w S B b;obtain ⟨F,A,c⟩:=h w S B b;obtain ⟨D,d,e⟩:=A.sub hs;grind
def Base.sub {α:Type} [Enc α] {w0:World} {S0:List Nat} {v:Value} {l z:List α} {lo hi:Int} {sz:Nat} (hs:piece l lo hi=some z) (a:Enc.sz α=sz) (h:Base w0 S0 v (lc l)):
    Base w0 S0 (subV v sz lo.toNat (hi.toNat - lo.toNat)) (lc z):=by subst a;obtain ⟨F,B,c⟩:=h;obtain ⟨A,d,e⟩:=B.sub hs;exact ⟨A,d,λb f=>c b (e b f)⟩
def bOp (fr:Fr) (o:Option Operand) (n d:Int):Prop:=match o with
 | some x=>∃k,ev fr x=some (.int k n)
 | none=>n=d
section
variable {P:Program} {w0:World} {S0:List Nat} {n:Nat} {fr:Fr} {is:List Item}
variable {dst:Option Nat} {ty:TypeId} {pos:String} {aft:Array Edge} {gd:Option (Nat × Bool)}
def Y.subs {sz':Nat} {L H:Option Operand} (hs:piece l lo hi=some z) (p:elemB P t=some (e,sz,by_)) (q:Can w0 S0 is v (.sl sz' l.length cs)) (h:ev fr x=some v) (I:bOp fr L lo 0) (G:bOp fr H hi l.length):Y P w0 S0 n fr is ⟨dst,.slice t x L H none,ty,pos,aft,gd⟩ (subV v sz lo.toNat (hi.toNat - lo.toNat)):=by
 obtain ⟨c,M,d,f,_⟩:=zC p;obtain ⟨j,m,D,rfl⟩:=zbB hs;intro a w b s;have key: ∀(A:Option Addr) (cap:Nat),l.length<=cap->(Instr.sliceAt t (.slice A l.length cap) (L.map a.eval) (H.map a.eval) none).run P w= .ok (subV (.slice A l.length cap) sz lo.toNat (hi.toNat - lo.toNat)) w:=by
  intro A cap o;have J: ∀i:Int,0<=i->i<=(cap:Int)->True:=λ_ _ _=>trivial;cases L with
  | none=>
    obtain rfl:lo=0:=I;cases H with
    | none=>obtain rfl:hi=(l.length:Int):=G;simp[Instr.sliceAt,Instr.slice,Instr.sliceBounds,run_underlying c,sizeOf,typeInfo,d,f,subV]
    | some y=>obtain ⟨k,g⟩:=G;simp[Instr.sliceAt,Instr.slice,Instr.sliceBounds,Instr.sliceBound,asIntOf,b.eval g,run_underlying c,sizeOf,typeInfo,d,f,subV,show 0<=hi by omega,show hi<=(cap:Int) by omega]
  | some y=>
    obtain ⟨k,g⟩:=I;cases H with
    | none=>obtain rfl:hi=(l.length:Int):=G;simp[Instr.sliceAt,Instr.slice,Instr.sliceBounds,Instr.sliceBound,asIntOf,b.eval g,run_underlying c,sizeOf,typeInfo,d,f,subV,j,m]
    | some E=>obtain ⟨F,u⟩:=G;simp[Instr.sliceAt,Instr.slice,Instr.sliceBounds,Instr.sliceBound,asIntOf,b.eval g,b.eval u,run_underlying c,sizeOf,typeInfo,d,f,subV,j,show 0<=hi by omega,show hi<=(cap:Int) by omega,show (hi.toNat:Int)=hi by omega,m,show max hi 0=hi by omega]
 rcases q.row s with ⟨B,_,rfl⟩ | ⟨C,cap,vs,S,rfl,o,_⟩
 ·have:=key none 0 (by omega);rw[B]at this;simp[execOp,b.eval h,this]
 ·have:=key (some C) cap o;simp[execOp,b.eval h,this]
def nz (q:Int):Option Unit:=if q=0 then none else some ()
def nz_ne {q:Int} {u:Unit} (h:nz q=some u):q≠0:=by unfold nz at h;simp_all
def capOk (v:Value) (n:Nat):Prop:=match v with | .slice _ _ cap=>n<=cap | _=>False
def delV (v:Value) (n:Nat):Value:=match v with | .slice a _ cap=>.slice a n cap | _=>undef
theorem zib {c a b:List α} {i j:Int} (d:piece l i j=some c) (e:piece l 0 i=some a) (f:piece l j (l.length:Int)=some b):(a++b).length<=l.length:=by obtain ⟨g,h,k,_⟩:=zbB d;obtain ⟨_,_,_,rfl⟩:=zbB e;obtain ⟨_,_,_,rfl⟩:=zbB f;grind
def Can.cap {v:Value} {sz k:Nat} {cs:List C} (a:Can w0 S0 is v (.sl sz k cs)): ∀w,St w0 S0 is w->capOk v k:=by
 intro w hs;rcases a.row hs with ⟨b,_,rfl⟩ | ⟨c,cap,vs,S,rfl,d,_⟩
 ·exact Nat.le_of_eq b
 ·trivial
def TO.fact {R:Type} {m:Option R} {Q:R->Exit->Act->World->Prop} {p:Prop} {ops:Array Oper} {l:List Oper} (g: ∀w,St w0 S0 is w->p) (h:p->TO P w0 S0 m n fr is ops l Q):TO P w0 S0 m n fr is ops l Q:=
 λr b a w c hs=>h (g w hs) r b a w c hs
def TA.fact {R:Type} {m:Option R} {Q:R->Exit->Act->World->Prop} {p:Prop} {H:Hd} {ops:Array Oper} {fuel L:Nat} (g: ∀w,St w0 S0 is w->p) (h:p->TA P w0 S0 m n fr is H ops fuel L Q):TA P w0 S0 m n fr is H ops fuel L Q:=
 λr b a w c hs=>h (g w hs) r b a w c hs
def sub3V (v:Value) (sz lo n m:Nat):Value:=match v with
 | .slice a _ _=>.slice (if m=lo then a else a.map (·.add (lo*sz))) n (m - lo)
 | _=>undef
def Y.subs3 {c d f:Operand} {sz':Nat} {h i j:IntKind} (hs:piece l lo hi=some z) (s:elemB P t=some (e,sz,by_)) (u:Can w0 S0 is v (.sl sz' l.length cs)) (k:ev fr x=some v) (m:ev fr c=some (.int h lo)) (o:ev fr d=some (.int i hi)) (p:ev fr f=some (.int j l.length)):
    Y P w0 S0 n fr is ⟨dst,.slice t x (some c) (some d) (some f),ty,pos,aft,gd⟩ (sub3V v sz lo.toNat (hi.toNat - lo.toNat) l.length):=by
 obtain ⟨y,M,B,C,_⟩:=zC s;obtain ⟨D,E,F,rfl⟩:=zbB hs;intro a w b G;have key: ∀(A:Option Addr) (cap:Nat),l.length<=cap->(Instr.sliceAt t (.slice A l.length cap) (some (.int h lo)) (some (.int i hi)) (some (.int j l.length))).run P w= .ok (sub3V (.slice A l.length cap) sz lo.toNat (hi.toNat - lo.toNat) l.length) w:=by intro A cap g;simp[Instr.sliceAt,Instr.slice,Instr.sliceBounds,Instr.sliceBound,asIntOf,run_underlying y,sizeOf,typeInfo,B,C,sub3V,g,D,F,show 0<=hi by omega,show (hi.toNat:Int)=hi by omega,E,show max hi 0=hi by omega]
 rcases u.row G with ⟨H,_,rfl⟩ | ⟨I,cap,vs,S,rfl,g,_⟩
 ·have J:l= []:=An H;subst J;have:=key none 0 (by simp);have q:=b.eval p;have K:(execOp a.eval ⟨dst,.slice t x (some c) (some d) (some f),ty,pos,aft,gd⟩).run P w= .ok (.value (sub3V (.slice none 0 0) sz lo.toNat (hi.toNat - lo.toNat) 0)) w:=by simp only[List.length_nil]at this q;simp only[execOp,b.eval k,b.eval m,b.eval o,q,By,Sem.run_bind,this,Result.andThen_ok,Sem.run_pure]
  trivial
 ·have:=key (some I) cap g;simp[execOp,b.eval k,b.eval m,b.eval o,b.eval p,this]
theorem Ef.del [Enc α] {d:Option Nat} {y:Operand} {X c f:List α} {i j:Int} {is':List Item} (ks:List Nat) (Y:piece l i j=some X) (Z:piece l 0 i=some c) (E:piece l j (l.length:Int)=some f) (he:elemB P t=some (e,sz,by_)) (a0:Enc.sz α=sz) (hp:pulls ks is=some (.own v (lc l)::is')) (hx:ev fr x=some (subV v sz (0:Int).toNat (i.toNat - (0:Int).toNat))) (hy:ev fr y=some (subV v sz j.toNat ((l.length:Int).toNat - j.toNat))):
 Ef P w0 S0 n fr is ⟨d,.call {callee:=.builtin .append,args:=#[x,y],argTypes:=#[t,t]},ty,pos,aft,gd⟩ (λ_:Unit=>delV v (c++f).length) (λ_=>.own (delV v (c++f).length) (lc (c++f))::is'):=by
 subst a0;obtain ⟨F,ti,G,H,b3⟩:=zC he;obtain ⟨p0,p1,I,_⟩:=zbB Y;obtain ⟨_,_,p3,a1⟩:=zbB Z;obtain ⟨_,_,_,a2⟩:=zbB E;have s:c=l.take i.toNat:=by rw[a1];simp
 have u:f=l.drop j.toNat:=by rw[a2];exact List.take_of_length_le (by simp)
 have J:c.length=i.toNat:=by rw[s,Bl];omega
 have L:f.length=l.length - j.toNat:=by rw[u,Bm]
 have hl:l=c++((l.drop i.toNat).take (j.toNat - i.toNat)++f):=by rw[s,u];conv=>lhs;rw[<-Bf i.toNat l,<-Bf (j.toNat - i.toNat) (l.drop i.toNat),Cq,show i.toNat+(j.toNat - i.toNat)=j.toNat by omega]
 have lm:((l.drop i.toNat).take (j.toNat - i.toNat)).length=j.toNat - i.toNat:=by rw[Bl,Bm];omega
 intro a w K Q M hs hK;have hs':St w0 S0 ([.own v (lc l)]++is') w:=hs.pulls ks hp;have key: ∀A,sats w [.own v (lc l)] A->A.Nodup->∃w',(Builtin.append_ #[t,t] ty #[subV v (Enc.sz α) (0:Int).toNat (i.toNat - (0:Int).toNat),subV v (Enc.sz α) j.toNat ((l.length:Int).toNat - j.toNat)]).run P w= .ok (delV v (c++f).length) w'/\
  ∃A',Chg w w' A/\sats w' [.own (delV v (c++f).length) (lc (c++f))] A'/\A'.Nodup/\∀b∈A',b∈A\/w.heap.size<=b:=by
  rintro A ⟨A1,A2,rfl,hA,hA2⟩ N
  rw[show A2= [] from hA2,Cg]at N |-
  have hA':Ow w v (.sl (Enc.sz α) l.length (l.flatMap Enc.enc)) A1:=hA
  generalize O:l.length=ln at hA' L
  generalize a3:l.flatMap (Enc.enc (α:=α))=cs at hA'
  cases hA' with
  | nil=>
    have a4:l= []:=An O;subst a4;have a5:i.toNat=0:=by simp at I;omega
    have a6:j.toNat=0:=by simp at I;omega
    have hz:c++f= []:=by rw[s,u];simp
    rw[hz,a5,a6];have g:=append_none_any (P:=P) (ty:=ty) F G (.slice none 0 0) 0 [] (OwR.nil w 0 (Enc.sz α));exact ⟨w,by simpa[subV,delV] using g,[],Chg.refl _ _,⟨[],[],rfl,.nil _,rfl⟩,List.nodup_nil,by simp⟩
  | row b nn cap e' sz cur vs _ S z hc hm b4 R C=>
    subst a3;have T:vs.length=ln*Enc.sz α:=by rw[C.length,zbj,O]
    rw[hl,Ba,Ba]at C;obtain ⟨S1,S23,rfl,D,a7⟩:=C.split;obtain ⟨S2,S3,rfl,b5,m⟩:=a7.split;have fl1:(c.flatMap (Enc.enc (α:=α))).length=i.toNat*Enc.sz α:=by rw[zbj,J]
    have flm:(((l.drop i.toNat).take (j.toNat - i.toNat)).flatMap (Enc.enc (α:=α))).length=(j.toNat - i.toNat)*Enc.sz α:=by rw[zbj,lm]
    rw[fl1]at D m;rw[flm,Cq,<-Bo,show i.toNat+(j.toNat - i.toNat)=j.toNat by omega]at m;have b6:ln*Enc.sz α<=cap*Enc.sz α:=Bh _ hc;have b7:i.toNat*Enc.sz α<=j.toNat*Enc.sz α:=Bh _ (by omega);have b8:j.toNat*Enc.sz α+(ln - j.toNat)*Enc.sz α=ln*Enc.sz α:=by rw[<-Bo];congr 1;omega
    have U:(vs.drop (j.toNat*Enc.sz α)).length=(ln - j.toNat)*Enc.sz α:=by rw[Bm,T];omega
    have V:(c++f).length=i.toNat+(ln - j.toNat):=by rw[Bw,J,L]
    have o:subV (.slice (some ⟨b,0,none⟩) ln cap) (Enc.sz α) (0:Int).toNat (i.toNat - (0:Int).toNat)= .slice (some ⟨b,0,none⟩) i.toNat cap:=by
     have:(⟨b,0,none⟩:Addr).add 0=⟨b,0,none⟩:=by simp[Addr.add]
     simp[subV,this]
    have g: ∃ad,(Builtin.append_ #[t,t] ty #[.slice (some ⟨b,0,none⟩) i.toNat cap,.slice (some ad) (ln - j.toNat) (cap - j.toNat)]).run P w= .ok (.slice (some ⟨b,0,none⟩) (i.toNat+(ln - j.toNat)) cap) (w.setRow b (cur.toList.take (i.toNat*ti.size)++vs.drop (j.toNat*Enc.sz α)++cur.toList.drop (i.toNat*ti.size+(vs.drop (j.toNat*Enc.sz α)).length)).toArray)/\
     subV (.slice (some ⟨b,0,none⟩) ln cap) (Enc.sz α) j.toNat ((ln:Int).toNat - j.toNat)= .slice (some ad) (ln - j.toNat) (cap - j.toNat):=by
     refine ⟨if cap=j.toNat then ⟨b,0,none⟩ else ⟨b,j.toNat*Enc.sz α,none⟩,append_room_any (P:=P) (ty:=ty) F G b i.toNat cap cur z _ (ln - j.toNat) (cap - j.toNat) _ (by rw[U,H]) ?_ (λq h=>m.oneCells q h) (by omega) ?_,?_⟩
     ·intro k q h;have hk:=(List.getElem?_eq_some_iff.1 h).1;have a8: ¬cap=j.toNat:=by grind
      rw[if_neg a8,add_lit,cell_of_row w b (j.toNat*Enc.sz α+k) cur e' (0,0) z,<-h,Bt,<-R,Bp,if_pos (by omega)];simp
     ·grind
     ·by_cases e:cap=j.toNat
      ·simp[subV,e]
      ·have:(⟨b,0,none⟩:Addr).add (j.toNat*Enc.sz α)=⟨b,j.toNat*Enc.sz α,none⟩:=by rw[add_lit];simp
       simp[subV,e,this]
    obtain ⟨ad,a9,p⟩:=g;have b9:=D.lt;have c0:=m.lt;obtain ⟨c1,hndS⟩:=Cj.1 N;have b0: ∀q∈S1++S3,(w.setRow b (cur.toList.take (i.toNat*ti.size)++vs.drop (j.toNat*Enc.sz α)++cur.toList.drop (i.toNat*ti.size+(vs.drop (j.toNat*Enc.sz α)).length)).toArray).heap[q]? =w.heap[q]?:=by
     intro q h;refine (Chg.setRow w b _).keep q ?_ ?_
     ·grind
     ·grind
    have hO:=(D.append m).keep b0;refine ⟨_,by rw[o,p,a9,V];rfl,b::(S1++S3),?_,⟨b::(S1++S3),[],by rw[Cg],?_,rfl⟩,?_,?_⟩
    ·refine ⟨(Chg.setRow w b _).os,(Chg.setRow w b _).tape,(Chg.setRow w b _).output,(Chg.setRow w b _).size,λq h W=>(Chg.setRow w b _).keep q h ?_⟩;grind
    ·show Ow _ (.slice (some ⟨b,0,none⟩) (c++f).length cap) (.sl (Enc.sz α) (c++f).length ((c++f).flatMap Enc.enc)) _;rw[Ba];refine .row b _ cap e' (Enc.sz α) _ _ _ _ (setRow_heap w b _ _ e' _ z) (by omega) hm ?_ ?_ hO
     ·simp;omega
     ·have c2:cur.toList.take (i.toNat*ti.size)=vs.take (i.toNat*Enc.sz α):=by rw[H,<-R,List.take_take,Nat.min_eq_left (by omega)]
      have c3:(vs.take (i.toNat*Enc.sz α)++vs.drop (j.toNat*Enc.sz α)).length=(c++f).length*Enc.sz α:=by rw[Bw,U,Bl,T,V,Bo];omega
      grind
    ·grind
    ·grind
 obtain ⟨SA,hSA⟩:=hs'.own;obtain ⟨A,B,rfl,hA,hB⟩:=zb5.1 hSA.1;obtain ⟨w',g,_⟩:=key A hA (List.nodup_append.1 hSA.2.1).1;have b1:St w0 S0 ([.own (delV v (c++f).length) (lc (c++f))]++is') w':=hs'.step λA hA W=>by obtain ⟨w2,E,h3⟩:=key A hA W;grind
 have b2:(execOp a.eval ⟨d,.call {callee:=.builtin .append,args:=#[x,y],argTypes:=#[t,t]},ty,pos,aft,gd⟩).run P w= .ok (.value (delV v (c++f).length)) w':=by have o:=M.eval hx;have p:=M.eval hy;generalize subV v (Enc.sz α) (0:Int).toNat (i.toNat - (0:Int).toNat)=X1 at o g;generalize subV v (Enc.sz α) j.toNat ((l.length:Int).toNat - j.toNat)=Y1 at p g;simp[execOp,resolve,invoke,builtin,o,p,g]
 unfold Oper.wp;rw[b2];exact hK () w' b1
def Y.tail {f g:Operand} {N hi:Nat} {h i:IntKind} (b:capOk v hi) (j:N<=hi) (k:elemB P t=some (e,sz,by_)) (c:ev fr x=some (delV v N)) (l:ev fr f=some (.int h N)) (o:ev fr g=some (.int i hi)):
    Y P w0 S0 n fr is ⟨dst,.slice t x (some f) (some g) none,ty,pos,aft,gd⟩ (subV (delV v N) sz N (hi - N)):=by
 obtain ⟨p,B,q,s,_⟩:=zC k;intro a w d y
 match v,b,c with
 | .slice A m cap,b,c=>have u:hi<=cap:=b;simp[execOp,d.eval c,d.eval l,d.eval o,delV,Instr.sliceAt,Instr.slice,Instr.sliceBounds,Instr.sliceBound,asIntOf,run_underlying p,sizeOf,typeInfo,q,s,subV,u,j,show N<=cap by omega]
theorem Ef.clearTail {z:Value} {y:Operand} {N hi k:Nat} (p:capOk v hi) (a2:N<=hi) (O:elemB P t=some (e,sz,by_)) (R:zeroB P e=some z) (T:Nat.beq z.cells.size sz=true) (a3:z.cells.toList.all (·.oneCell')=true) (j:is[k]? =some (.own (delV v N) (.sl sz N cs))) (l:ev fr y=some (subV (delV v N) sz N (hi - N))):
 Ef P w0 S0 n fr is ⟨none,.call {callee:=.builtin .clear,args:=#[y],argTypes:=#[t]},ty,pos,aft,gd⟩ (λ_:Unit=>.tuple #[]) (λ_=>is):=by
 obtain ⟨s,ti,a4,a5,_⟩:=zC O;have U:z.cells.size=sz:=by simpa using T
 intro a w K Q E u hK
 match v,p,j,l with
 | .slice A m cap,p,j,l=>
   have a6:hi<=cap:=p;by_cases V:hi - N=0
   ·have x:(execOp a.eval ⟨none,.call {callee:=.builtin .clear,args:=#[y],argTypes:=#[t]},ty,pos,aft,gd⟩).run P w= .ok (.value (.tuple #[])) w:=by
     have f:a.eval y= .slice (if cap=N then A else A.map (·.add (N*sz))) 0 (cap - N):=by rw[E.eval l,V];rfl
     by_cases hA:(if cap=N then A else A.map (·.add (N*sz)))=none
     ·simp[execOp,resolve,invoke,builtin,f,hA,Builtin.clear_,run_underlying s]
     ·obtain ⟨q,c⟩:=Option.ne_none_iff_exists'.1 hA;simp[execOp,resolve,invoke,builtin,f,c,Builtin.clear_,run_underlying s]
    unfold Oper.wp;rw[x];exact hK () w u
   ·obtain ⟨A0,hA0,_⟩:=zcc j u.own.choose_spec.1;have F: ∀A1,Ow w (.slice A N cap) (.sl sz N cs) A1->∃b cur e' vs S,A=some ⟨b,0,none⟩/\w.heap[b]? =some (.cells cur e' (0,0))/\N<=cap/\cap<=maxLen/\cap*sz<=cur.size/\cur.toList.take (N*sz)=vs/\Ows w vs cs S/\A1=b::S:=by
     intro A1 h;cases h with
     | nil=>omega
     | row b n cap e' sz cur vs cs S g B o hs G H=>exact ⟨b,cur,e',vs,S,rfl,g,B,o,hs,G,H,rfl⟩
    obtain ⟨b,cur,e',vs,S,rfl,g,B,o,hs,G,H,_⟩:=F A0 hA0;have W:(Builtin.zeroCells z.cells (hi - N)).toList.length=(hi - N)*sz:=by rw[Array.length_toList,size_zeroCells,U]
    have X: ∀q∈(Builtin.zeroCells z.cells (hi - N)).toList,q.oneCell'=true:=by
     intro q c;have a7:q∈(Builtin.zeroCells z.cells (hi - N)):=by simpa using c
     have: ∀n,∀q∈Builtin.zeroCells z.cells n,q∈z.cells:=by
      intro n q c;unfold Builtin.zeroCells at c;simp only[Array.mem_map,Array.mem_range]at c;obtain ⟨i,hi,rfl⟩:=c;have Y:0<z.cells.size:=by grind
      have o:i % z.cells.size<z.cells.size:=Nat.mod_lt _ Y;simp_all
     grind
    have a8:N*sz+(hi - N)*sz<=cap*sz:=by rw[<-Bo];exact Bh _ (by omega)
    have C:=run_storeCells_at P b (N*sz) e' (Builtin.zeroCells z.cells (hi - N)).toList 0 cur w g (by rw[W];omega) X;have x:(execOp a.eval ⟨none,.call {callee:=.builtin .clear,args:=#[y],argTypes:=#[t]},ty,pos,aft,gd⟩).run P w= .ok (.value (.tuple #[])) (w.setRow b (cur.toList.take (N*sz)++(Builtin.zeroCells z.cells (hi - N)).toList++cur.toList.drop (N*sz+(Builtin.zeroCells z.cells (hi - N)).toList.length)).toArray):=by
     have f:a.eval y= .slice (some ⟨b,N*sz,none⟩) (hi - N) (cap - N):=by
      rw[E.eval l];have:(⟨b,0,none⟩:Addr).add (N*sz)=⟨b,N*sz,none⟩:=by rw[add_lit];simp
      simp[delV,subV,show ¬cap=N by omega,this]
     obtain ⟨q,c⟩: ∃q,hi - N=q+1:=⟨hi - N - 1,by omega⟩;simp only[Nat.add_zero]at C;rw[c]at C f |-
     simp[execOp,resolve,invoke,builtin,f,Builtin.clear_,run_underlying s,zgL R,C]
    unfold Oper.wp;rw[x];refine hK () _ ?_;have Z:is.set k (.own (delV (.slice (some ⟨b,0,none⟩) m cap) N) (.sl sz N cs))=is:=by apply List.ext_getElem?;grind
    rw[<-Z];refine u.upd j λA1 hA1 I=>?_;obtain ⟨d,cur2,D,vs2,S2,J,L,_,_,_,a9,M,rfl⟩:=F A1 hA1;obtain rfl:d=b:=by simp at J;exact J.symm
    obtain ⟨rfl,rfl⟩:cur2=cur/\D=e':=by rw[g]at L;cases L;exact ⟨rfl,rfl⟩
    have a0:=(Cj.1 I).1;refine ⟨d::S2,?_,?_,I,λq c=>.inl c⟩
    ·refine ⟨(Chg.setRow w d _).os,(Chg.setRow w d _).tape,(Chg.setRow w d _).output,(Chg.setRow w d _).size,λq c hn=>(Chg.setRow w d _).keep q c ?_⟩;simp_all
    ·refine .row d N cap D sz _ vs2 _ S2 (setRow_heap w d _ _ D _ g) B o ?_ ?_ (M.keep λq c=>(Chg.setRow w d _).keep q (M.lt q c) λa1=>a0 (by rw[List.mem_singleton.1 a1]at c;exact c))
     ·grind
     ·grind
end
end Go.Proofs.YtmenicbkddagmaaGreat.Sl
end
