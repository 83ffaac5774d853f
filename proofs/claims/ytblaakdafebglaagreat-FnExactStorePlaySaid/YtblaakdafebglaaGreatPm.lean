/-
  A small separation logic over the model's heap: what a value reads as, which blocks a call owns, and the rules by which a function's code is walked. Generic: no statement about a given function.
-/
import Derived.WalkKit
import Derived.WalkLawsBesides
import Derived.Laws.AppendOwnNone
import Derived.ArgAppend
import Derived.OrdersHeld
import Derived.Deep.RegionHeld3
import Derived.Laws.MakeOwn
import Derived.Laws.IdiomStrings
import Derived.Laws.DeepStrings4
import Derived.Laws.Cover3
import Derived.Lib.Overlaps
import Derived.Lib.AppendZerosOnto
import Derived.Lib.Builder
import Derived.Lib.UnsafeStr
import Derived.Laws.Externs
import Derived.Laws.StructEq
import Derived.ChangeKeysEq
import Derived.Lib.ConvBytes
import Derived.ProofKit
import Derived.OpenShut
import Derived.ShutString
import Derived.ChangeOld
import Derived.Below
set_option linter.unusedVariables false
set_option linter.unusedSimpArgs false
set_option linter.defProp false
open Decidable renaming decide->Dc
open Nat renaming mul_le_mul_right->An,beq->Bw,le_refl->Bz,add_mul->Cj,le_of_ble_eq_true->Cu,le_trans->Cv,blt->Dj,succ_mul->Do,zero_add->Dy,eq_of_beq_eq_true->Ec,sub_zero->Ed,zero_le->Ei,lt_of_lt_of_le->Ej,min_eq_left->Eo,zero_mul->Ev,add_zero->Ff,ble->Fm,one_pos->Fq,le_of_eq->Fz,mul_one->Gg,le_mul_of_pos_right->Gk,testBit_two_pow->Gu,mod_eq_sub_mod->He,add_comm->Hf,beq_refl->Hg,mod_eq_of_lt->Hn,strongRecOn->Hr,mod_lt->Hy,testBit_or->Ib,or_assoc->Ic,sub_self->If
open Option.some renaming injEq->Ba
open List renaming length_take->Bf,eq_nil_of_length_eq_zero->Bh,take_append_drop->Bl,mem_append->Bm,replicate->Bo,getElem?_eq_some_iff->Bt,getElem?_take->By,length_append->Cq,mem_cons_of_mem->Cr,flatMap_cons->Ct,flatMap_append->Cx,length_drop->Cy,nodup_append->Da,getElem?_eq_getElem->Db,mem_cons->Dd,append_assoc->De,map_cons->Dg,mem_singleton->Dh,getElem?_drop->Di,take_of_length_le->Dk,append_nil->Dl,getElem?_cons_zero->Dn,length_replicate->Dp,drop_eq_getElem_cons->Dq,getElem_mem->Ds,getElem?_cons_succ->Du,toList_toArray->Ea,drop_of_length_le->Eb,ext_getElem?->Ee,map_toArray->Eh,mem_cons_self->Ek,length_set->El,take_append_of_le_length->Em,nodup_cons->En,size_toArray->Ep,nodup_nil->Et,getElem?_append->Ew,all_eq_true->Ey,length_cons->Ez,nil_append->Fc,drop_zero->Fh,getElem?_map->Fi,take_add_one->Fk,filter_cons->Fs,perm_append_comm->Ft,replicate_append_replicate->Fv,sum_cons->Fw,mem_map->Fx,mapM_cons->Gb,drop_drop->Ge,drop_append->Gj,map_map->Gm,take_take->Gq,drop_take->Gr,range->Gs,replicate_succ->Gv,set_cons_zero->Gy,mapM_toArray->Hh,getElem?_set->Hi,zipIdx_cons->Hk,length_nil->Hu,map_append->Hx,take_zero->Hz,map_nil->Ie,length->Ig
open Array renaming length_toList->Bp,getD_eq_getD_getElem?->Eu,size_append->Fj,toList_setIfInBounds->Gf,range->Gn,toList_range->Hb,toList_map->Hl,replicate->Hp
open Bool renaming and_eq_true->Cg,not_eq_true'->Gi,and_eq_false_iff->Gp,false_eq_true->Gx,or_eq_true->Hq
open Option renaming bind_some->Df,map_some->Dm,map_none->Ht
open BitVec renaming ofInt->Dx
open Int renaming toNat_natCast->Eg
open Prod.mk renaming injEq->Fl
open UInt8 renaming ofNat->Hj
open Go renaming Value->Va,World->Wo,Operand->Od,Program->Pm,TypeId->Ti,IntKind->Ik,FuncId->Oe
namespace Go.Proofs.YtblaakdafebglaaGreat.Sl
open Go Go.RowKit
variable {v u zv:Va} {α R X τ ρ σ:Type} {w w':Wo} {sz t e by_ k n b i fuel L s sz' bt j len f src tgt N e' t2:Nat} {x y2:Od} {l:List α} {ops:Array Oper} {m:Option R} {Q:R->Exit->Act->Wo->Prop} {z:α} {gd:Option (Nat × Bool)} {ty t':Ti} {o:Oper} {aft:Array Edge} {d dst:Option Nat} {ag:Bool} {hi lo q zi:Int} {a:Act} {p:Prop} {k' k2:Ik} {rest:List Oper} {ps:List (Nat × Od)} {ti:TypeInfo} {s0:τ}
abbrev J0:Type:=Va × Va × Va × Va
abbrev J1:Type:=Va × Va × Va
abbrev J2:Type:=List UInt8
abbrev J3:Type:=List Va
variable {us vs zs cur:J3}
abbrev J4:Type:=List Nat
variable {S:J4}
abbrev J6:Va:=.slice none 0 0
abbrev J7 (n:Int):Int:=IntKind.i64.wrap n
theorem dF [Decidable p] (h: ¬p:=by omega):decide p=false:=decide_eq_false h
theorem dT [Decidable p] (h:p:=by omega):decide p=true:=decide_eq_true h
def iP.{u} {c:Prop} {_:Decidable c} (h:c:=by simp_all) {α:Sort u} {t e:α} :ite c t e=t:=if_pos h
def iN.{u} {c:Prop} {_:Decidable c} (h: ¬c:=by simp_all) {α:Sort u} {t e:α} :ite c t e=e:=if_neg h
def iF.{u} {α:Sort u} {_:Decidable False} (t e:α):ite False t e=e:=if_neg id
def iT.{u} {α:Sort u} {_:Decidable True} (t e:α):ite True t e=t:=if_pos trivial
def cF.{u} {α:Sort u} (a b:α):cond false a b=b:=rfl
def cT.{u} {α:Sort u} (a b:α):cond true a b=a:=rfl
inductive C where
 | int (k:Ik) (n:Int)
 | bool (b:Bool)
 | str (s:J2)
 | sl (sz:Nat) (n:Nat) (cs:List C)
 | raw (v:Va)
 | any
variable {c:C} {cs ds cs':List C}
def strV (s:J2):Va:=.string ⟨s.toArray⟩
mutual
inductive Rd (w:Wo):Va->C->J4->Prop
 | int (k:Ik) (n:Int):Rd w (.int k n) (.int k n) []
 | bool (b:Bool):Rd w (.bool b) (.bool b) []
 | str (s:J2):Rd w (strV s) (.str s) []
 | raw (v:Va):v.oneCell'=true->Rd w v (.raw v) []
 | any (v:Va):v.oneCell'=true->Rd w v .any []
 | nil (sz:Nat):Rd w (.slice none 0 0) (.sl sz 0 []) []
 | row (a:Addr) (n cap sz:Nat) (vs:J3) (cs:List C) (S:J4):vs.length=n*sz->n<=cap->(∀j,j<n*sz->w.cell? (a.add j)=vs[j]?)->
    Rds w vs cs S->Rd w (.slice (some a) n cap) (.sl sz n cs) ((if n*sz=0 then [] else [a.block])++S)
inductive Rds (w:Wo):J3->List C->J4->Prop
 | nil:Rds w [] [] []
 | cons (v:Va) (c:C) (S:J4) (vs:J3) (cs:List C) (T:J4):Rd w v c S->Rds w vs cs T->Rds w (v::vs) (c::cs) (S++T)
end
mutual
inductive Ow (w:Wo):Va->C->J4->Prop
 | int (k:Ik) (n:Int):Ow w (.int k n) (.int k n) []
 | bool (b:Bool):Ow w (.bool b) (.bool b) []
 | str (s:J2):Ow w (strV s) (.str s) []
 | raw (v:Va):v.oneCell'=true->Ow w v (.raw v) []
 | any (v:Va):v.oneCell'=true->Ow w v .any []
 | nil (sz:Nat):Ow w (.slice none 0 0) (.sl sz 0 []) []
 | row (b n cap e sz:Nat) (cur:Array Va) (vs:J3) (cs:List C) (S:J4):w.heap[b]? =some (.cells cur e (0,0))->n<=cap->cap<=maxLen->cap*sz<=cur.size->
    cur.toList.take (n*sz)=vs->Ows w vs cs S->Ow w (.slice (some ⟨b,0,none⟩) n cap) (.sl sz n cs) (b::S)
inductive Ows (w:Wo):J3->List C->J4->Prop
 | nil:Ows w [] [] []
 | cons (v:Va) (c:C) (S:J4) (vs:J3) (cs:List C) (T:J4):Ow w v c S->Ows w vs cs T->Ows w (v::vs) (c::cs) (S++T)
end
def zmp {a:Addr} (h:w'.heap[a.block]? =w.heap[a.block]?):w'.cell? a=w.cell? a:=World.cell?_of_block h
def add_block (a:Addr) (j:Nat):(a.add j).block=a.block:=by unfold Addr.add;split<;>rfl
mutual
theorem Rd.keep {w w':Wo} {v:Va} {c:C} {S:J4} (h:Rd w v c S) (e: ∀b∈S,w'.heap[b]? =w.heap[b]?):Rd w' v c S:=by
 cases h with
 | int k n=>exact .int k n
 | bool b=>exact .bool b
 | str s=>exact .str s
 | raw v d=>exact .raw v d
 | any v d=>exact .any v d
 | nil sz=>exact .nil sz
 | row a n cap sz vs cs S hl f g i=>refine .row a n cap sz vs cs S hl f ?_ (i.keep λb l=>e b (Bm.2 (.inr l)));intro j m;rw[<-g j m];refine zmp ?_;rw[add_block];grind
theorem Rds.keep {w w':Wo} {vs:J3} {cs:List C} {S:J4} (h:Rds w vs cs S) (d: ∀b∈S,w'.heap[b]? =w.heap[b]?):Rds w' vs cs S:=by
 cases h with
 | nil=>exact .nil
 | cons v c S vs cs T e f=>exact .cons v c S vs cs T (e.keep λb a=>d b (Bm.2 (.inl a))) (f.keep λb a=>d b (Bm.2 (.inr a)))
end
mutual
theorem Ow.keep {w w':Wo} {v:Va} {c:C} {S:J4} (h:Ow w v c S) (d: ∀b∈S,w'.heap[b]? =w.heap[b]?):Ow w' v c S:=by
 cases h with
 | int k n=>exact .int k n
 | bool b=>exact .bool b
 | str s=>exact .str s
 | raw v a=>exact .raw v a
 | any v a=>exact .any v a
 | nil sz=>exact .nil sz
 | row b n cap e sz cur vs cs S f g i hs j l=>exact .row b n cap e sz cur vs cs S ((d b (Dd.2 (.inl rfl))).trans f) g i hs j (l.keep λb m=>d b (Dd.2 (.inr m)))
theorem Ows.keep {w w':Wo} {vs:J3} {cs:List C} {S:J4} (h:Ows w vs cs S) (d: ∀b∈S,w'.heap[b]? =w.heap[b]?):Ows w' vs cs S:=by
 cases h with
 | nil=>exact .nil
 | cons v c S vs cs T e f=>exact .cons v c S vs cs T (e.keep λb a=>d b (Bm.2 (.inl a))) (f.keep λb a=>d b (Bm.2 (.inr a)))
end
def Rds.length {w:Wo} {vs:J3} {cs:List C} {S:J4} (h:Rds w vs cs S):vs.length=cs.length:=by
 induction cs generalizing vs S with
 | nil=>cases h;rfl
 | cons c cs ih=>cases h with | cons v c S vs cs T b a=>simp[ih a]
def Ows.length {w:Wo} {vs:J3} {cs:List C} {S:J4} (h:Ows w vs cs S):vs.length=cs.length:=by
 induction cs generalizing vs S with
 | nil=>cases h;rfl
 | cons c cs ih=>cases h with | cons v c S vs cs T b a=>simp[ih a]
mutual
theorem Ow.rd {w:Wo} {v:Va} {c:C} {S:J4} (h:Ow w v c S): ∃T,Rd w v c T/\∀b∈T,b∈S:=by
 cases h with
 | int k n=>exact ⟨[],.int k n,by simp⟩
 | bool b=>exact ⟨[],.bool b,by simp⟩
 | str s=>exact ⟨[],.str s,by simp⟩
 | raw v a=>exact ⟨[],.raw v a,by simp⟩
 | any v a=>exact ⟨[],.any v a,by simp⟩
 | nil sz=>exact ⟨[],.nil sz,by simp⟩
 | row b n cap e sz cur vs cs S f d o hs g i=>
   obtain ⟨T,A,p⟩:=i.rds;have q:n*sz<=cap*sz:=An _ d;refine ⟨_,.row ⟨b,0,none⟩ n cap sz vs cs T ?_ d ?_ A,?_⟩
   ·grind
   ·intro j l;have m:(⟨b,0,none⟩:Addr).add j=⟨b,j,none⟩:=by unfold Addr.add;split<;>simp_all
    rw[m,cell_of_row w b j cur e (0,0) f,<-g,By,iP l];simp
   ·grind
theorem Ows.rds {w:Wo} {vs:J3} {cs:List C} {S:J4} (h:Ows w vs cs S): ∃T,Rds w vs cs T/\∀b∈T,b∈S:=by
 cases h with
 | nil=>exact ⟨[],.nil,by simp⟩
 | cons v c S vs cs T a d=>obtain ⟨A,D,hs⟩:=a.rd;obtain ⟨B,E,e⟩:=d.rds;refine ⟨_,.cons v c A vs cs B D E,?_⟩;grind
end
def Rds.append {T:J4} (h:Rds w vs cs S) (k:Rds w us ds T):Rds w (vs++us) (cs++ds) (S++T):=by
 induction cs generalizing vs S with
 | nil=>cases h;exact k
 | cons c cs ih=>cases h with | cons v c S vs cs U a b=>rw[De];exact .cons v c S _ _ _ a (ih b)
def Ows.append {T:J4} (h:Ows w vs cs S) (k:Ows w us ds T):Ows w (vs++us) (cs++ds) (S++T):=by
 induction cs generalizing vs S with
 | nil=>cases h;exact k
 | cons c cs ih=>cases h with | cons v c S vs cs U a b=>rw[De];exact .cons v c S _ _ _ a (ih b)
def Rds.split (h:Rds w vs (cs++ds) S):
    ∃S1 A,S=S1++A/\Rds w (vs.take cs.length) cs S1/\Rds w (vs.drop cs.length) ds A:=by
 induction cs generalizing vs S with
 | nil=>exact ⟨[],S,rfl,.nil,by simpa using h⟩
 | cons c cs ih=>
   cases h with
   | cons v c S vs cs' U a b=>obtain ⟨S1,A,rfl,d,k2⟩:=ih b;exact ⟨S++S1,A,by simp,by simpa using Rds.cons v c S _ _ S1 a d,by simpa using k2⟩
def Ows.split (h:Ows w vs (cs++ds) S):
    ∃S1 A,S=S1++A/\Ows w (vs.take cs.length) cs S1/\Ows w (vs.drop cs.length) ds A:=by
 induction cs generalizing vs S with
 | nil=>exact ⟨[],S,rfl,.nil,by simpa using h⟩
 | cons c cs ih=>
   cases h with
   | cons v c S vs cs' U a b=>obtain ⟨S1,A,rfl,d,k2⟩:=ih b;exact ⟨S++S1,A,by simp,by simpa using Ows.cons v c S _ _ S1 a d,by simpa using k2⟩
mutual
theorem Rd.lt {w:Wo} {v:Va} {c:C} {S:J4} (h:Rd w v c S): ∀b∈S,b<w.heap.size:=by
 cases h with
 | int k n=>simp
 | bool b=>simp
 | str s=>simp
 | raw v f=>simp
 | any v f=>simp
 | nil sz=>simp
 | row a n cap sz vs cs S hl l g i=>
   intro b d;rcases Bm.1 d with d | d
   ·split at d
    ·trivial
    ·rename_i m;have e:=g 0 (by omega);have j:vs[0]? =some (vs[0]'(by omega)):=Db (by omega);rw[j]at e;have:=World.block_lt_of_cell? w _ e;rw[add_block]at this;simp_all
   ·exact i.lt b d
theorem Rds.lt {w:Wo} {vs:J3} {cs:List C} {S:J4} (h:Rds w vs cs S): ∀b∈S,b<w.heap.size:=by
 cases h with
 | nil=>simp
 | cons v c S vs cs T d e=>
   intro b a;rcases Bm.1 a with a | a
   ·exact d.lt b a
   ·exact e.lt b a
end
mutual
theorem Ow.lt {w:Wo} {v:Va} {c:C} {S:J4} (h:Ow w v c S): ∀b∈S,b<w.heap.size:=by
 cases h with
 | int k n=>simp
 | bool b=>simp
 | str s=>simp
 | raw v d=>simp
 | any v d=>simp
 | nil sz=>simp
 | row b n cap e sz cur vs cs S g i j hs l f=>
   intro x a;rcases Dd.1 a with rfl | a
   ·grind
   ·exact f.lt x a
theorem Ows.lt {w:Wo} {vs:J3} {cs:List C} {S:J4} (h:Ows w vs cs S): ∀b∈S,b<w.heap.size:=by
 cases h with
 | nil=>simp
 | cons v c S vs cs T d e=>
   intro b a;rcases Bm.1 a with a | a
   ·exact d.lt b a
   ·exact e.lt b a
end
inductive Item where
 | box (b:Nat) (t:Ti) (vs:J3)
 | own (v:Va) (c:C)
 | ows (us:J3) (cs:List C)
 | buf (v:Va) (e:Ti) (l:J2)
 | frz (v:Va) (e:Ti) (l:J2)
 | alt (v:Va) (c:C) (vp:Va) (cp:C)
 | pmap (b:Nat) (l:List (Va × Va)) (p:Prop)
 | pool (Ws:J3) (cs:List C) (ps:List (Va × C))
 | shw (v:Va) (c:C) (ps:List (Va × C))
abbrev J5:Type:=List Item
variable {is is':J5}
structure Pool (w:Wo) (Ws:J3) (cs:List C) (ps:List (Va × C)) (S:J4):Prop where
 lt: ∀b∈S,b<w.heap.size
 rds: ∃F,Rds w Ws cs F/\∀b∈F,b∈S
 prs: ∀p∈ps,∃F,Rd w p.1 p.2 F/\∀b∈F,b∈S
theorem Pool.keep {w w':Wo} {A:J3} {cs:List C} {ps:List (Va × C)} {S:J4} (h:Pool w A cs ps S) (c: ∀b∈S,w'.heap[b]? =w.heap[b]?):Pool w' A cs ps S:=by
 obtain ⟨k,⟨F,f,d⟩,g⟩:=h;refine ⟨λb a=>?_,⟨F,f.keep λb a=>c b (d b a),d⟩,λp i=>?_⟩
 ·grind
 ·obtain ⟨F,j,e⟩:=g p i;exact ⟨F,j.keep λb a=>c b (e b a),e⟩
def Buf (w:Wo) (v:Va) (e:Ti) (l:J2) (S:J4):Prop:=
 (v= .slice none 0 0/\l= []/\S= [])\/∃g cap cur,v= .slice (some ⟨g,0,none⟩) l.length cap/\w.heap[g]? =some (.cells cur e (0,0))/\l.length<=cap/\cap<=maxLen/\cur.size=cap/\
   cur.toList.take l.length=l.map (λx=>Value.int .u8 x.toNat)/\S= [g]
def Frz (w:Wo) (v:Va) (e:Ti) (l:J2) (S:J4):Prop:=
 ∃g cap cur,v= .slice (some ⟨g,0,none⟩) l.length cap/\w.heap[g]? =some (.cells cur e (cap,cap+1))/\l.length<=cap/\cur.size=cap/\cur.toList.take l.length=l.map (λx=>Value.int .u8 x.toNat)/\S= [g]
def Item.sat (w:Wo):Item->J4->Prop
 | .box b t vs,S=>S= [b]/\w.heap[b]? =some (.cells vs.toArray t (0,0))
 | .own v c,S=>Ow w v c S
 | .ows us cs,S=>Ows w us cs S
 | .buf v e l,S=>Buf w v e l S
 | .frz v e l,S=>Frz w v e l S
 | .alt v c vp cp,S=>Ow w v c S\/(S= []/\v=vp/\c=cp)
 | .pmap b l p,S=>S= [b]/\(∃E h,w.heap[b]? =some (.map E h)/\E.toList.map (λe=>(e.key,e.val))=l)/\p
 | .pool D cs ps,S=>Pool w D cs ps S
 | .shw v c ps,S=>∃D cs A B,c= .sl 1 cs.length cs/\S=A++B/\Ow w v (.sl 1 D.length (D.map .raw)) A/\Pool w D cs ps B
def Item.sat_keep {i:Item} (h:i.sat w S) (a: ∀b∈S,w'.heap[b]? =w.heap[b]?):i.sat w' S:=by
 cases i with
 | box b t vs=>exact ⟨h.1,(a b (by rw[h.1];exact Dh.2 rfl)).trans h.2⟩
 | own v c=>exact Ow.keep h a
 | ows us cs=>exact Ows.keep h a
 | buf v e l=>
   rcases h with h | ⟨g,cap,cur,d,k,f,j,n,m,q⟩
   ·exact .inl h
   ·exact .inr ⟨g,cap,cur,d,(a g (by rw[q];exact Dh.2 rfl)).trans k,f,j,n,m,q⟩
 | frz v e l=>obtain ⟨g,cap,cur,d,k,f,j,n,m⟩:=h;exact ⟨g,cap,cur,d,(a g (by rw[m];exact Dh.2 rfl)).trans k,f,j,n,m⟩
 | alt v c I G=>exact h.imp (λh=>Ow.keep h a) id
 | pmap b l p=>obtain ⟨d,⟨F,D,k,f⟩,j⟩:=h;exact ⟨d,⟨F,D,(a b (by rw[d];exact Dh.2 rfl)).trans k,f⟩,j⟩
 | pool E cs ps=>exact Pool.keep h a
 | shw v c ps=>obtain ⟨E,cs,A,B,d,rfl,f,j⟩:=h;exact ⟨E,cs,A,B,d,rfl,f.keep λb o=>a b (Bm.2 (.inl o)),j.keep λb o=>a b (Bm.2 (.inr o))⟩
theorem Item.sat_lt {i:Item} (h:i.sat w S): ∀b∈S,b<w.heap.size:=by
 cases i with
 | box b t vs=>intro x a;rw[h.1,Dh]at a;subst a;exact (Array.getElem?_eq_some_iff.1 h.2).1
 | own v c=>exact Ow.lt h
 | ows us cs=>exact Ows.lt h
 | buf v e l=>
   rcases h with ⟨_,_,h⟩ | ⟨g,cap,cur,j,k,d,f,m,n,o⟩
   ·simp_all
   ·grind
 | frz v e l=>obtain ⟨g,cap,cur,j,k,d,f,m,n⟩:=h;grind
 | alt v c I F=>
   rcases h with h | h
   ·exact Ow.lt h
   ·simp_all
 | pmap b l p=>obtain ⟨j,⟨G,D,k,d⟩,f⟩:=h;grind
 | pool E cs ps=>exact h.lt
 | shw v c ps=>
   obtain ⟨E,cs,A,B,j,rfl,d,f⟩:=h;intro x a;rcases Bm.1 a with a | a
   ·exact d.lt x a
   ·exact f.lt x a
def sats (w:Wo):J5->J4->Prop
 | [],S=>S= []
 | i::r,S=>∃A B,S=A++B/\i.sat w A/\sats w r B
def zgI {w w':Wo} : ∀{is:J5} {S:J4},sats w is S->(∀b∈S,w'.heap[b]? =w.heap[b]?)->sats w' is S
 | [],_,h,_=>h
 | _::_,_,⟨A,B,hS,d,e⟩,c=>⟨A,B,hS,Item.sat_keep d (λb a=>c b (by rw[hS];exact Bm.2 (.inl a))),zgI e (λb a=>c b (by rw[hS];exact Bm.2 (.inr a)))⟩
def zfw {w:Wo} : ∀{is:J5} {S:J4},sats w is S->∀b∈S,b<w.heap.size
 | [],_,h,b,a=>by rw[show _= [] from h]at a;cases a
 | _::_,_,⟨A,B,hS,c,d⟩,b,a=>by
   rw[hS]at a;rcases Bm.1 a with a | a
   ·exact Item.sat_lt c b a
   ·exact zfw d b a
def zb0 {w:Wo} : ∀{is js:J5} {S:J4},sats w (is++js) S↔∃A B,S=A++B/\sats w is A/\sats w js B
 | [],js,S=>⟨λh=>⟨[],S,rfl,rfl,h⟩,λ⟨A,B,E,a,b⟩=>by rw[show A= [] from a]at E;rw[E];exact b⟩
 | i::is,js,S=>by
   constructor
   ·rintro ⟨A,B,rfl,a,b⟩;obtain ⟨D,F,rfl,c,d⟩:=zb0.1 b;exact ⟨A++D,F,by simp,⟨A,D,rfl,a,c⟩,d⟩
   ·rintro ⟨A,B,rfl,⟨A1,A2,rfl,a,b⟩,c⟩;exact ⟨A1,A2++B,by simp,a,zb0.2 ⟨A2,B,rfl,b,c⟩⟩
structure St (w0:Wo) (S0:J4) (is:J5) (w:Wo):Prop where
 os:w.os=w0.os
 tape:w.tape=w0.tape
 output:w.output=w0.output
 size:w0.heap.size<=w.heap.size
 base: ∀b,b<w0.heap.size->b∉S0->w.heap[b]? =w0.heap[b]?
 own: ∃S,sats w is S/\S.Nodup/\∀b∈S,b∈S0\/w0.heap.size<=b
def St.start {w0:Wo} {S0:J4} (h:sats w0 is S0) (a:S0.Nodup):St w0 S0 is w0:=
 ⟨rfl,rfl,rfl,Bz _,λ_ _ _=>rfl,S0,h,a,λ_ b=>.inl b⟩
def St.nil (w0:Wo):St w0 [] [] w0:=St.start rfl Et
structure Chg (w w':Wo) (A:J4):Prop where
 os:w'.os=w.os
 tape:w'.tape=w.tape
 output:w'.output=w.output
 size:w.heap.size<=w'.heap.size
 keep: ∀b,b<w.heap.size->b∉A->w'.heap[b]? =w.heap[b]?
def Chg.refl (w:Wo) (A:J4):Chg w w A:=⟨rfl,rfl,rfl,Bz _,λ_ _ _=>rfl⟩
def Chg.alloc (w:Wo) (o:Obj) (A:J4):Chg w (w.alloc o) A:=
 ⟨rfl,rfl,rfl,by simp,λ_ a _=>heap_alloc_old w o a⟩
def Chg.drew (w:Wo) (A:J4):Chg w w.drew A:=⟨rfl,rfl,rfl,Bz _,λ_ _ _=>rfl⟩
theorem St.step {w0:Wo} {S0:J4} {js r:J5} (h:St w0 S0 (is++r) w) (hs: ∀A,sats w is A->A.Nodup->∃D,Chg w w' A/\sats w' js D/\D.Nodup/\∀b∈D,b∈A\/w.heap.size<=b):St w0 S0 (js++r) w':=by
 obtain ⟨os,tape,output,size,base,S,T,f,j⟩:=h;obtain ⟨A,B,rfl,d,e⟩:=zb0.1 T;obtain ⟨F,I,g⟩:=Da.1 f;obtain ⟨D,a,i,k,M⟩:=hs A d F;have E:=zfw e;have G:=zfw d;have O:sats w' r B:=zgI e λb c=>a.keep b (E b c) (λJ=>g b J b c rfl);refine ⟨a.os.trans os,a.tape.trans tape,a.output.trans output,Cv size a.size,?_,D++B,zb0.2 ⟨D,B,rfl,i,O⟩,?_,?_⟩
 ·intro b c l;rw[a.keep b (Ej c size) ?_]
  ·simp_all
  ·grind
 ·grind
 ·grind
def St.same {w0:Wo} {S0:J4} (h:St w0 S0 is w) (a:Chg w w' []):St w0 S0 is w':=by have:=St.step (is:=[]) (js:=[]) (r:=is) (w':=w') h (λA B _=>⟨[],⟨a.os,a.tape,a.output,a.size,λb c _=>a.keep b c (by simp)⟩,rfl,Et,by simp⟩);trivial
def St.add {w0:Wo} {S0:J4} (h:St w0 S0 is w) (a:Chg w w' []) (i:Item) (B:J4) (hi:i.sat w' B) (d:B.Nodup) (D: ∀b∈B,w.heap.size<=b):
    St w0 S0 (i::is) w':=
 St.step (is:=[]) (js:=[i]) (r:=is) (w':=w') h (λA _ _=>⟨B,⟨a.os,a.tape,a.output,a.size,λb c _=>a.keep b c (by simp)⟩,⟨B,[],by simp,hi,rfl⟩,d,λb c=>.inr (D b c)⟩)
def pull:Nat->J5->Option (Item × J5)
 | _,[]=>none
 | 0,i::r=>some (i,r)
 | k+1,i::r=>match pull k r with
   | some (j,r')=>some (j,i::r')
   | none=>none
theorem zrx: ∀{k:Nat} {is:J5} {i:Item} {r:J5} {S:J4},pull k is=some (i,r)->sats w is S->
 ∃A B,i.sat w A/\sats w r B/\(A++B).Perm S:=by
 intro k;induction k with
 | zero=>
   intro is i r S a hs;cases is with
   | nil=>simp[pull]at a
   | cons j is=>simp only[pull,Ba,Fl]at a;obtain ⟨rfl,rfl⟩:=a;obtain ⟨A,B,rfl,c,d⟩:=hs;grind
 | succ k ih=>
   intro is i r S a hs;cases is with
   | nil=>simp[pull]at a
   | cons j is=>
     obtain ⟨A,B,rfl,c,d⟩:=hs;simp only[pull]at a;cases b:pull k is with
     | none=>rw[b]at a;simp at a
     | some x=>obtain ⟨E,F⟩:=x;rw[b]at a;simp only[Ba,Fl]at a;obtain ⟨rfl,rfl⟩:=a;obtain ⟨D,h,e,f,g⟩:=ih b d;refine ⟨D,A++h,e,⟨A,h,rfl,c,f⟩,?_⟩;grind
def pulls:J4->J5->Option J5
 | [],_=>some []
 | k::ks,is=>match pull k is with
   | some (i,r)=>match pulls ks r with
     | some js=>some (i::js)
     | none=>none
   | none=>none
theorem zpI: ∀{D:J4} {is js:J5} {S:J4},pulls D is=some js->sats w is S->
 ∃A B,sats w js A/\(A++B).Perm S:=by
 intro D;induction D with
 | nil=>intro is js S a hs;simp only[pulls,Ba]at a;subst a;exact ⟨[],S,rfl,.refl _⟩
 | cons k D ih=>
   intro is js S a hs;simp only[pulls]at a;cases b:pull k is with
   | none=>rw[b]at a;simp at a
   | some x=>
     obtain ⟨i,r⟩:=x;rw[b]at a;simp only at a;cases c:pulls D r with
     | none=>rw[c]at a;simp at a
     | some G=>rw[c]at a;simp only[Ba]at a;subst a;obtain ⟨A,B,d,e,g⟩:=zrx b hs;obtain ⟨E,F,f,h⟩:=ih c e;refine ⟨A++E,F,⟨A,E,rfl,d,f⟩,?_⟩;grind
def St.pulls {w0 w:Wo} {S0:J4} {is js:J5} (h:St w0 S0 is w) (E:J4) (c:Sl.pulls E is=some js):St w0 S0 js w:=by obtain ⟨os,tape,output,size,base,S,D,d,e⟩:=h;obtain ⟨A,B,f,a⟩:=zpI c D;have g:(A++B).Nodup:=a.nodup_iff.2 d;exact ⟨os,tape,output,size,base,A,f,(Da.1 g).1,λb i=>e b (a.mem_iff.1 (Bm.2 (.inl i)))⟩
def Base (w0:Wo) (S0:J4) (v:Va) (c:C):Prop:=∃F,Rd w0 v c F/\∀b∈F,b∉S0
def Can (w0:Wo) (S0:J4) (is:J5) (v:Va) (c:C):Prop:=
 ∀w S,sats w is S->(∀b,b<w0.heap.size->b∉S0->w.heap[b]? =w0.heap[b]?)->∃F,Rd w v c F/\∀b∈F,(b<w0.heap.size/\b∉S0)\/b∈S
def Base.can {w0:Wo} {S0:J4} (h:Base w0 S0 v c):Can w0 S0 is v c:=by obtain ⟨F,B,a⟩:=h;exact λw S _ d=>⟨F,B.keep λb A=>d b (B.lt b A) (a b A),λb A=>.inl ⟨B.lt b A,a b A⟩⟩
theorem zcj: ∀{k:Nat} {is:J5} {i:Item} {S:J4},is[k]? =some i->sats w is S->∃A,i.sat w A/\∀b∈A,b∈S:=by
 intro k;induction k with
 | zero=>
   intro is i S hi hs;cases is with
   | nil=>simp at hi
   | cons j is=>simp only[Dn,Ba]at hi;subst hi;obtain ⟨A,B,rfl,a,c⟩:=hs;grind
 | succ k ih=>
   intro is i S hi hs;cases is with
   | nil=>simp at hi
   | cons j is=>simp only[Du]at hi;obtain ⟨A,B,rfl,a,c⟩:=hs;grind
theorem Oc {w0:Wo} {S0:J4} (k:Nat) (h:is[k]? =some (.own v c)):Can w0 S0 is v c:=by intro w S hs _;obtain ⟨A,B,a⟩:=zcj h hs;obtain ⟨T,D,b⟩:=Ow.rd B;grind
theorem Can.alt {w0:Wo} {S0:J4} {is:J5} {v E:Va} {c D:C} (k j:Nat) (h:is[k]? =some (.alt v c E D)) (a:is[j]? =some (.own E D)):Can w0 S0 is v c:=by
 intro w S hs b;obtain ⟨A,B,d⟩:=zcj h hs;rcases B with B | ⟨_,rfl,rfl⟩
 ·obtain ⟨T,F,e⟩:=Ow.rd B;grind
 ·exact Oc j a w S hs b
def Can.plain {w0:Wo} {S0:J4} (h: ∀w,Rd w v c []):Can w0 S0 is v c:=
 λw _ _ _=>⟨[],h w,by simp⟩
theorem Can.get {w0:Wo} {S0:J4} (h:Can w0 S0 is v c) (hs:St w0 S0 is w): ∃F,Rd w v c F:=by obtain ⟨_,_,_,_,base,S,A,_,_⟩:=hs;obtain ⟨F,B,_⟩:=h w S A base;grind
theorem Can.pulls {w0:Wo} {S0:J4} {is js:J5} {v:Va} {c:C} (h:Can w0 S0 js v c) (D:J4) (a:Sl.pulls D is=some js):Can w0 S0 is v c:=by intro w S hs b;obtain ⟨A,B,d,e⟩:=zpI a hs;obtain ⟨F,E,f⟩:=h w A d b;grind
abbrev Fr:=List (Nat × Va)
variable {fr:Fr}
def lk (k:Nat):Fr->Option Va
 | []=>none
 | (j,v)::r=>bif Bw k j then some v else lk k r
structure FrOk (n:Nat) (fr:Fr) (a:Act):Prop where
 size:a.tmps.size=n
 defers:a.defers= []
 get: ∀k v,lk k fr=some v->a.tmps[k]? =some v
def ev (fr:Fr):Od->Option Va
 | .tmp t=>lk t fr
 | .const v=>some v
 | .global g=>some (.pointer (some ⟨g,0,none⟩))
 | .func f=>some (.func (.func f) #[] #[])
def evs (fr:Fr):List Od->Option J3
 | []=>some []
 | o::r=>match ev fr o with
   | some v=>match evs fr r with
     | some vs=>some (v::vs)
     | none=>none
   | none=>none
def FrOk.eval {n:Nat} {fr:Fr} {a:Act} {o:Od} {v:Va} (h:FrOk n fr a) (e:ev fr o=some v):a.eval o=v:=by
 cases o with
 | tmp t=>have:=h.get t v e;simp[Act.eval,Eu,this]
 | _=>simpa[ev,Act.eval] using e
def FrOk.evals {n:Nat} {fr:Fr} {a:Act} : ∀{os:List Od} {vs:J3},FrOk n fr a->evs fr os=some vs->os.map a.eval=vs
 | [],vs,_,e=>by simpa[evs] using e
 | o::os,vs,h,e=>by
   unfold evs at e;cases b:ev fr o with
   | none=>rw[b]at e;cases e
   | some v=>
     cases c:evs fr os with
     | none=>rw[b,c]at e;cases e
     | some us=>rw[b,c]at e;simp only[Ba]at e;subst e;simp[h.eval b,FrOk.evals h c]
theorem FrOk.put {n:Nat} {fr:Fr} {a:Act} (h:FrOk n fr a) {d:Nat} (c:Dj d n=true) (v:Va):FrOk n ((d,v)::fr) (a.put (some d) v):=by
 have g:d<n:=by simpa using c
 refine ⟨by simp[Act.put,h.size],h.defers,?_⟩;intro k u b;simp only[lk]at b;by_cases e:k=d
 ·subst e;have:Bw k k=true:=by simp
  rw[this]at b;simp only[cT,Ba]at b;subst b;have hs:=h.size;simp only[Act.put];simp_all
 ·have:Bw k d=false:=by
   cases f:Bw k d with
   | false=>rfl
   | true=>exact absurd (by simpa using f) e
  rw[this]at b;simp only[cF]at b;have:=h.get k u b;simp only[Act.put];grind
def Sub:Fr->Fr->Prop
 | [],_=>True
 | (k,v)::r,fr=>lk k fr=some v/\Sub r fr
def FrOk.sub {fr':Fr} (h:FrOk n fr a) (hs:Sub fr' fr):FrOk n fr' a:=by
 refine ⟨h.size,h.defers,?_⟩;intro k v b;refine h.get k v ?_;clear h;induction fr' with
 | nil=>simp[lk]at b
 | cons x r ih=>
   obtain ⟨j,u⟩:=x;obtain ⟨c,d⟩:=hs;simp only[lk]at b;cases e:Bw k j with
   | true=>simp_all
   | false=>simp_all
def argFr:Nat->J3->Fr
 | _,[]=>[]
 | k,v::r=>(k,v)::argFr (k+1) r
theorem zsS: ∀(vs:J3) (k j:Nat) (v:Va),lk j (argFr k vs)=some v->k<=j/\vs[j - k]? =some v
 | [],_,_,_,h=>by simp[argFr,lk]at h
 | u::r,k,j,v,h=>by
   simp only[argFr,lk]at h;cases a:Bw j k with
   | true=>simp_all
   | false=>rw[a]at h;simp only[cF]at h;obtain ⟨b,c⟩:=zsS r (k+1) j v h;grind
theorem FrOk.enter (args:J3) (n:Nat) (h:args.length<=n):
 FrOk n (argFr 0 args) {tmps:=args.toArray++Hp (n - args.toArray.size) undef,defers:=[]}:=by refine ⟨by simp;omega,rfl,?_⟩;intro k v a;have:=(zsS args 0 k v a).2;grind
section
variable (P:Pm) (w0:Wo) (S0:J4)
def TW (m:Option R) (n:Nat) (fr:Fr) (is:J5) (c:Code) (Q:R->Exit->Act->Wo->Prop):Prop:=
 ∀r,m=some r->∀a w,FrOk n fr a->St w0 S0 is w->c.wp P (Q r) a w
def TO (m:Option R) (n:Nat) (fr:Fr) (is:J5) (ops:Array Oper) (l:List Oper) (Q:R->Exit->Act->Wo->Prop):Prop:=
 ∀r,m=some r->∀a w,FrOk n fr a->St w0 S0 is w->wpList P ops (Q r) l a w
def TE (m:Option R) (n:Nat) (fr:Fr) (is:J5) (e:Exit) (Q:R->Exit->Act->Wo->Prop):Prop:=
 ∀r,m=some r->∀a w,FrOk n fr a->St w0 S0 is w->Q r e a w
end
section
variable {P:Pm} {w0:Wo} {S0:J4}
def Sq {x y:Code} (h:TW P w0 S0 m n fr is x (λr=>Exit.then (y.wp P (Q r)) (Q r))):TW P w0 S0 m n fr is (.seq x y) Q:=
 λr b a w c hs=>wp_seq (h r b a w c hs)
def Rg {id:Nat} {l:List Oper} (h:TO P w0 S0 m n fr is l.toArray l Q):TW P w0 S0 m n fr is (.region id l.toArray false) Q:=
 λr b a w c hs=>wp_region_lit (h r b a w c hs)
def TO.nil (h:TE w0 S0 m n fr is .normal Q):TO P w0 S0 m n fr is ops [] Q:=h
def TE.next {y:Code} {Q':R->Exit->Act->Wo->Prop} (h:TW P w0 S0 m n fr is y Q):TE w0 S0 m n fr is .normal (λr=>Exit.then (y.wp P (Q r)) (Q' r)):=h
def Wb {id:Nat} {c:Code} (h:TW P w0 S0 m n fr is c (λr=>Exit.inBlock id (Q r))):TW P w0 S0 m n fr is (.block id c) Q:=
 λr b a w d hs=>wp_block (h r b a w d hs)
def Sk (h:TE w0 S0 m n fr is .normal Q):TW P w0 S0 m n fr is .skip Q:=
 λr b a w c hs=>wp_skip (h r b a w c hs)
def Wr (h:TE w0 S0 m n fr is .ret Q):TW P w0 S0 m n fr is .ret Q:=
 λr b a w c hs=>wp_ret (h r b a w c hs)
def Wx {id:Nat} (h:TE w0 S0 m n fr is (.exit id) Q):TW P w0 S0 m n fr is (.exit id) Q:=
 λr b a w c hs=>wp_exit (h r b a w c hs)
def Wc {c:Od} {x y:Code} {b:Bool} {e f:Option R} (i:ev fr c=some (.bool b)) (j:b=true->TW P w0 S0 e n fr is x Q) (k:b=false->TW P w0 S0 f n fr is y Q):
    TW P w0 S0 (if b=true then e else f) n fr is (.cond c x y) Q:=by
 intro r g a w d hs;have h:=d.eval i;cases b with
 | true=>exact wp_cond_true h (j rfl r (by simpa using g) a w d hs)
 | false=>exact wp_cond_false h (k rfl r (by simpa using g) a w d hs)
def TW.cond_true {c:Od} {x y:Code} (d:ev fr c=some (.bool true)) (e:TW P w0 S0 m n fr is x Q):TW P w0 S0 m n fr is (.cond c x y) Q:=
 λr f a w b hs=>wp_cond_true (b.eval d) (e r f a w b hs)
def TW.cond_false {c:Od} {x y:Code} (d:ev fr c=some (.bool false)) (e:TW P w0 S0 m n fr is y Q):TW P w0 S0 m n fr is (.cond c x y) Q:=
 λr f a w b hs=>wp_cond_false (b.eval d) (e r f a w b hs)
def Bi {p:Option X} {k:X->Option R} {l:List Oper} (h: ∀x,p=some x->TO P w0 S0 (k x) n fr is ops l Q):
    TO P w0 S0 (p.bind k) n fr is ops l Q:=by
 intro r b a w c hs;cases p with
 | none=>cases b
 | some x=>exact h x rfl r b a w c hs
def Wi {p:Option X} {k:X->Option R} {c:Code} (h: ∀x,p=some x->TW P w0 S0 (k x) n fr is c Q):
    TW P w0 S0 (p.bind k) n fr is c Q:=by
 intro r b a w d hs;cases p with
 | none=>cases b
 | some x=>exact h x rfl r b a w d hs
def TE.leaf {r:R} {e:Exit} (h: ∀a w,FrOk n fr a->St w0 S0 is w->Q r e a w):TE w0 S0 (some r) n fr is e Q:=by intro A b a w c hs;simp_all
end
inductive Ctl (σ ρ:Type) where
 | go (s:σ)
 | done (r:ρ)
variable {body:τ->Option (Ctl τ ρ)}
def loopN {σ ρ:Type} (body:σ->Option (Ctl σ ρ)):Nat->σ->Option ρ
 | 0,_=>none
 | k+1,s=>match body s with
   | some (.go s')=>loopN body k s'
   | some (.done r)=>some r
   | none=>none
def zlA {σ ρ:Type} {body:σ->Option (Ctl σ ρ)} : ∀{k j:Nat} {s:σ} {r:ρ},loopN body k s=some r->k<=j->loopN body j s=some r
 | 0,_,_,_,h,_=>by simp[loopN]at h
 | k+1,0,_,_,_,a=>by omega
 | k+1,j+1,s,r,h,a=>by
   unfold loopN at h |-
   split at h
   ·exact zlA h (by omega)
   ·exact h
   ·cases h
noncomputable def loopO (body:σ->Option (Ctl σ ρ)) (s:σ):Option ρ:=
 open Classical in if h: ∃k r,loopN body k s=some r then some h.choose_spec.choose else none
theorem zec {body:σ->Option (Ctl σ ρ)} {s:σ} {r:ρ} :loopO body s=some r↔∃k,loopN body k s=some r:=by
 constructor
 ·intro h;unfold loopO at h;split at h
  ·grind
  ·cases h
 ·rintro ⟨k,b⟩;unfold loopO;have a: ∃k r,loopN body k s=some r:=⟨k,r,b⟩;rw[dif_pos a];have c:=zlA a.choose_spec.choose_spec (Nat.le_max_left a.choose k);have d:=zlA b (Nat.le_max_right a.choose k);simp_all
def zG (body:σ->Option (Ctl σ ρ)) (s:σ):
    loopO body s=match body s with
     | some (.go h)=>loopO body h
     | some (.done r)=>some r
     | none=>none:=by
 cases b:body s with
 | none=>
   cases c:loopO body s with
   | none=>rfl
   | some r=>
     obtain ⟨k,a⟩:=zec.1 c
     cases k with
     | zero=>simp[loopN]at a
     | succ k=>unfold loopN at a;rw[b]at a;cases a
 | some x=>
   cases x with
   | done r=>exact zec.2 ⟨1,by unfold loopN;rw[b]⟩
   | go h=>
     simp only
     cases c:loopO body h with
     | some r=>
       obtain ⟨k,a⟩:=zec.1 c
       exact zec.2 ⟨k+1,by unfold loopN;rw[b];exact a⟩
     | none=>
       cases d:loopO body s with
       | none=>rfl
       | some r=>
         obtain ⟨k,a⟩:=zec.1 d
         cases k with
         | zero=>simp[loopN]at a
         | succ k=>
           unfold loopN at a
           rw[b]at a
           rw[zec.2 ⟨k,a⟩]at c
           trivial
def bindC (m:Option (Ctl τ R)) (k:τ->Option R):Option R:=
 m.bind λ| .go t=>k t | .done r=>some r
section
variable {P:Pm} {w0:Wo} {S0:J4}
theorem TW.join {m:Option (Ctl τ R)} {k:τ->Option R} {c:Code} (Mid:τ->Act->Wo->Prop) (f:TW P w0 S0 m n fr is c (λx e a w=>match x with | .go t=>e= .normal/\Mid t a w | .done r=>Q r e a w)) (h: ∀t a w,Mid t a w->∀r,k t=some r->Q r .normal a w):TW P w0 S0 (bindC m k) n fr is c Q:=by
 intro r b a w g hs;unfold bindC at b;cases d:m with
 | none=>rw[d]at b;cases b
 | some x=>rw[d]at b;simp only[Df]at b;refine wp_mono (f x d a w g hs) ?_;grind
def TW.loop {σ ρ:Type} {body:σ->Option (Ctl σ ρ)} {s0:σ} {c:Code} {Q:ρ->Exit->Act->Wo->Prop} (A:σ->Act->Wo->Prop) (i: ∀a w,FrOk n fr a->St w0 S0 is w->A s0 a w) (o: ∀s x,body s=some x->∀a w,A s a w->c.wp P (λe a w=>match x with | .go I=>e= .normal/\A I a w | .done r=>e≠.normal/\Q r e a w) a w):
    TW P w0 S0 (loopO body s0) n fr is (.loop c) Q:=by
 intro r j a w m hs;obtain ⟨k,p⟩:=zec.1 j;clear j;have q:=i a w m hs;clear i m hs;intro b G cs;have key: ∀k s a w,loopN body k s=some r->A s a w->
  ∃e D w',Q r e D w'/\Arrives P (lone (b.at a (.code c:: .inLoop c::G)) cs w) b G cs e D w':=by
  intro k
  induction k with
  | zero=>intro s a w h;simp[loopN]at h
  | succ k ih=>
    intro s a w h U;unfold loopN at h;cases g:body s with
    | none=>rw[g]at h;cases h
    | some x=>
      rw[g]at h;obtain ⟨e,J,M,f,d⟩:=o s x g a w U b (.inLoop c::G) cs;cases x with
      | go I=>obtain ⟨rfl,E⟩:=f;obtain ⟨T,O,V,F,B⟩:=ih I J M h E;exact ⟨T,O,V,F,.of_steps (Steps.trans d (.one step_inLoop)) B⟩
      | done Z=>
        simp only[Ba]at h;subst h;obtain ⟨t,f⟩:=f;refine ⟨e,J,M,f,?_⟩;cases e with
        | normal=>exact absurd rfl t
        | exit id=>exact .pass (x:=.inLoop c) rfl (λ_ _=>.inl (by simp)) d
        | goto l=>exact .pass (x:=.inLoop c) rfl (λ_ _=>.inl (by simp)) d
        | ret=>exact .pass (x:=.inLoop c) rfl (λ_ _=>.inl (by simp)) d
        | panic W=>exact .pass (x:=.inLoop c) rfl (λ_ _=>.inl (by simp)) d
        | outgrown=>exact .pass (x:=.inLoop c) rfl (λ_ _=>.inl (by simp)) d
 obtain ⟨e,D,w',f,d⟩:=key k s0 a w p q;exact ⟨e,D,w',f,.of_steps (.one step_loop) d⟩
end
def kindB (P:Pm) (t:Ti):Option (Bool × Nat):=
 match P.underlying t,P.info? t with
 | some (.struct _),some i | some (.array _ _),some i=>some (true,i.size)
 | some _,some i=>some (false,i.size)
 | _,_=>none
def fieldB (P:Pm) (s i:Nat):Option Nat:=
 match P.underlying s with
 | some (.struct fs)=>match fs[i]? with
   | some f=>match P.info? f.type with
     | some j=>bif Bw j.size 0 then none else some f.offset
     | none=>none
   | none=>none
 | _=>none
def elemB (P:Pm) (t:Ti):Option (Ti × Nat × Nat):=
 match P.underlying t with
 | some (.slice e)=>match P.info? e with
   | some i=>some (e,i.size,i.bytes)
   | none=>none
 | _=>none
def zeroB (P:Pm) (t:Ti):Option Va:=(P.info? t).bind (·.zero)
def isStrB (P:Pm) (t:Ti):Bool:=match P.underlying t with | some .string=>true | _=>false
def intB (P:Pm) (t:Ti):Option Ik:=match P.underlying t with | some (.int k)=>some k | _=>none
theorem zA {P:Pm} (h:elemB P t=some (e,sz,by_)):P.underlying t=some (.slice e)/\∃i,P.info? e=some i/\i.size=sz/\i.bytes=by_:=by unfold elemB at h;grind
def zg9 {P:Pm} (h:kindB P t=some (ag,sz)):
    ∃d i,P.underlying t=some d/\P.info? t=some i/\i.size=sz/\∀w,(isAgg t).run P w= .ok ag w:=by
 unfold kindB at h;split at h
 ·rename_i A i c hi;simp only[Ba,Fl]at h;exact ⟨_,i,c,hi,h.2,λw=>by simp[isAgg,run_underlying c,<-h.1]⟩
 ·rename_i a b i c hi;simp only[Ba,Fl]at h;exact ⟨_,i,c,hi,h.2,λw=>by simp[isAgg,run_underlying c,<-h.1]⟩
 ·rename_i d i e f c hi;simp only[Ba,Fl]at h;refine ⟨d,i,c,hi,h.2,λw=>?_⟩;simp only[isAgg,Sem.run_bind,run_underlying c,Result.andThen_ok,<-h.1];rfl
 ·cases h
def Y (P:Pm) (w0:Wo) (S0:J4) (n:Nat) (fr:Fr) (is:J5) (o:Oper) (v:Va):Prop:=
 ∀a w,FrOk n fr a->St w0 S0 is w->(execOp a.eval o).run P w= .ok (.value v) w
section
variable {P:Pm} {w0:Wo} {S0:J4}
variable {pos:String}
def gdv (v:Va) (want:Bool):Bool:=match v with | .bool b=>b == want | _=>false
def Gd (ops:Array Oper) (fr:Fr) (o:Oper) (q:Bool):Prop:=
 match o.guard with
 | none=>q=true
 | some (j,want)=>∃d v,(ops[j]?).bind (·.dst)=some d/\lk d fr=some v/\gdv v want=q
def Gd.wanted {ops:Array Oper} {fr:Fr} {o:Oper} {q:Bool} {n:Nat} {a:Act} (h:Gd ops fr o q) (f:FrOk n fr a):Region.wanted o (yielded ops a.tmps)=q:=by
 unfold Gd at h;unfold Region.wanted;split at h
 ·simp_all
 ·rename_i j want g;obtain ⟨d,v,i,b,c⟩:=h;rw[g];have e:=f.get d _ b;simp only[yielded,i,Df,e];rw[<-c];clear b c e;cases v<;>rfl
def zbr {b:Bool} (h:b=true):(b == true)=true:=by rw[h];rfl
def zn {b:Bool} (h:b=false):(b == false)=true:=by rw[h];rfl
def Gd.at {q:Bool} (j:Nat) (want:Bool) (d:Nat) (b:Bool) (a:o.guard=some (j,want)) (c:(ops[j]?).bind (·.dst)=some d) (e:lk d fr=some (.bool b)) (f:(b == want)=q):Gd ops fr o q:=by unfold Gd;rw[a];exact ⟨d,.bool b,c,e,f⟩
def Gd.un (j:Nat) (want:Bool) (d:Nat) (a:o.guard=some (j,want)) (b:(ops[j]?).bind (·.dst)=some d) (c:lk d fr=some undef):Gd ops fr o false:=by unfold Gd;rw[a];exact ⟨d,undef,b,c,rfl⟩
def znb {Q:Exit->Act->Wo->Prop} (b:Region.wanted o (yielded ops a.tmps)=true) (h: ∀K:Act->Wo->Prop,(∀a w,wpList P ops Q rest a w->K a w)->o.wp P a w K Q):wpList P ops Q (o::rest) a w:=
 wpList_step λK A=>by rw[b];exact h K A
def TO.y {d:Nat} (c:Y P w0 S0 n fr is o v) (e:Gd ops fr o true) (f:o.dst=some d) (g:Dj d n=true) (h:TO P w0 S0 m n ((d,v)::fr) is ops rest Q):TO P w0 S0 m n fr is ops (o::rest) Q:=by intro r i a w b hs;refine znb (e.wanted b) λK A=>?_;unfold Oper.wp;rw[c a w b hs];show K (a.put o.dst v) w;rw[f];exact A _ _ (h r i _ w (b.put g v) hs)
def TO.off {d:Nat} (c:Gd ops fr o false) (e:o.dst=some d) (f:Dj d n=true) (h:TO P w0 S0 m n ((d,undef)::fr) is ops rest Q):TO P w0 S0 m n fr is ops (o::rest) Q:=by intro r g a w b hs;refine wpList_step λK A=>?_;rw[c.wanted b,e];exact A _ _ (h r g _ w (b.put f undef) hs)
def Y.move {x:Od} {v:Va} (b:ev fr x=some v):Y P w0 S0 n fr is ⟨dst,.move x,ty,pos,aft,gd⟩ v:=by intro a w c _;simp[execOp,c.eval b]
def Y.assign {x:Od} {v:Va} (b:ev fr x=some v):Y P w0 S0 n fr is ⟨dst,.assign x,ty,pos,aft,gd⟩ v:=by intro a w c _;simp[execOp,c.eval b]
def Y.pick {c x y:Od} {b:Bool} {u v:Va} (e:ev fr c=some (.bool b)) (f:ev fr x=some u) (g:ev fr y=some v):
    Y P w0 S0 n fr is ⟨dst,.pick c x y,ty,pos,aft,gd⟩ (if b then u else v):=by intro a w d _;simp[execOp,d.eval e,d.eval f,d.eval g,asBool]
def Y.pick_t {c y:Od} {b:Bool} (e:b=true) (f:ev fr c=some (.bool b)) (g:ev fr x=some u):
    Y P w0 S0 n fr is ⟨dst,.pick c x y,ty,pos,aft,gd⟩ u:=by intro a w d _;simp[execOp,d.eval f,d.eval g,asBool,e]
def Y.pick_f {c y:Od} {b:Bool} (e:b=false) (f:ev fr c=some (.bool b)) (g:ev fr y=some u):
    Y P w0 S0 n fr is ⟨dst,.pick c x y,ty,pos,aft,gd⟩ u:=by intro a w d _;simp[execOp,d.eval f,d.eval g,asBool,e]
section
variable {y:Od} {k:Ik} {p:Int} {t:Ti}
def Y.add (c:ev fr x=some (.int k p)) (d:ev fr y=some (.int k q)):Y P w0 S0 n fr is ⟨dst,.binOp .add t x y t',ty,pos,aft,gd⟩ (.int k (k.wrap (p+q))):=by intro a w b _;simp[execOp,b.eval c,b.eval d,eqGuard,binOp,Op.intArith]
def Y.sub (c:ev fr x=some (.int k p)) (d:ev fr y=some (.int k q)):Y P w0 S0 n fr is ⟨dst,.binOp .sub t x y t',ty,pos,aft,gd⟩ (.int k (k.wrap (p - q))):=by intro a w b _;simp[execOp,b.eval c,b.eval d,eqGuard,binOp,Op.intArith]
def Y.mul (c:ev fr x=some (.int k p)) (d:ev fr y=some (.int k q)):Y P w0 S0 n fr is ⟨dst,.binOp .mul t x y t',ty,pos,aft,gd⟩ (.int k (k.wrap (p*q))):=by intro a w b _;simp[execOp,b.eval c,b.eval d,eqGuard,binOp,Op.intArith]
def Y.quo (c:q≠0) (d:ev fr x=some (.int k p)) (e:ev fr y=some (.int k q)):Y P w0 S0 n fr is ⟨dst,.binOp .quo t x y t',ty,pos,aft,gd⟩ (.int k (k.wrap (p.tdiv q))):=by intro a w b _;simp[execOp,b.eval d,b.eval e,eqGuard,binOp,Op.intDiv,c]
def Y.rem (c:q≠0) (d:ev fr x=some (.int k p)) (e:ev fr y=some (.int k q)):Y P w0 S0 n fr is ⟨dst,.binOp .rem t x y t',ty,pos,aft,gd⟩ (.int k (p.tmod q)):=by intro a w b _;simp[execOp,b.eval d,b.eval e,eqGuard,binOp,Op.intDiv,c]
def Y.lss (c:ev fr x=some (.int k p)) (d:ev fr y=some (.int k q)):Y P w0 S0 n fr is ⟨dst,.binOp .lss t x y t',ty,pos,aft,gd⟩ (.bool (Dc (p<q))):=by intro a w b _;simp[execOp,b.eval c,b.eval d,eqGuard,binOp,Op.intCmp]
def Y.leq (c:ev fr x=some (.int k p)) (d:ev fr y=some (.int k q)):Y P w0 S0 n fr is ⟨dst,.binOp .leq t x y t',ty,pos,aft,gd⟩ (.bool (Dc (p<=q))):=by intro a w b _;simp[execOp,b.eval c,b.eval d,eqGuard,binOp,Op.intCmp]
def Y.gtr (c:ev fr x=some (.int k p)) (d:ev fr y=some (.int k q)):Y P w0 S0 n fr is ⟨dst,.binOp .gtr t x y t',ty,pos,aft,gd⟩ (.bool (Dc (p>q))):=by intro a w b _;simp[execOp,b.eval c,b.eval d,eqGuard,binOp,Op.intCmp]
def Y.geq (c:ev fr x=some (.int k p)) (d:ev fr y=some (.int k q)):Y P w0 S0 n fr is ⟨dst,.binOp .geq t x y t',ty,pos,aft,gd⟩ (.bool (Dc (p>=q))):=by intro a w b _;simp[execOp,b.eval c,b.eval d,eqGuard,binOp,Op.intCmp]
def Y.eql (c:ev fr x=some (.int k p)) (d:ev fr y=some (.int k q)):Y P w0 S0 n fr is ⟨dst,.binOp .eql t x y t',ty,pos,aft,gd⟩ (.bool (Dc (p=q))):=by intro a w b _;simp[execOp,b.eval c,b.eval d,eqGuard,binOp,Op.intCmp];rfl
def Y.neq (c:ev fr x=some (.int k p)) (d:ev fr y=some (.int k q)):Y P w0 S0 n fr is ⟨dst,.binOp .neq t x y t',ty,pos,aft,gd⟩ (.bool (!Dc (p=q))):=by intro a w b _;simp[execOp,b.eval c,b.eval d,eqGuard,binOp,Op.intCmp,bne];rfl
def iand (k:Ik) (p q:Int):Int:=k.wrap (Dx k.bits p &&& Dx k.bits q).toNat
def ior (k:Ik) (p q:Int):Int:=k.wrap (Dx k.bits p ||| Dx k.bits q).toNat
def ixor (k:Ik) (p q:Int):Int:=k.wrap (Dx k.bits p ^^^ Dx k.bits q).toNat
def ishl (k:Ik) (p q:Int):Int:=k.wrap (p*2 ^ (min q.toNat k.bits))
def ishr (k:Ik) (p q:Int):Int:=p.fdiv (2 ^ (min q.toNat k.bits))
def Y.and (c:ev fr x=some (.int k p)) (d:ev fr y=some (.int k q)):Y P w0 S0 n fr is ⟨dst,.binOp .and t x y t',ty,pos,aft,gd⟩ (.int k (iand k p q)):=by intro a w b _;simp[execOp,b.eval c,b.eval d,eqGuard,binOp,Op.intBits,iand]
def Y.or (c:ev fr x=some (.int k p)) (d:ev fr y=some (.int k q)):Y P w0 S0 n fr is ⟨dst,.binOp .or t x y t',ty,pos,aft,gd⟩ (.int k (ior k p q)):=by intro a w b _;simp[execOp,b.eval c,b.eval d,eqGuard,binOp,Op.intBits,ior]
def Y.xor (c:ev fr x=some (.int k p)) (d:ev fr y=some (.int k q)):Y P w0 S0 n fr is ⟨dst,.binOp .xor t x y t',ty,pos,aft,gd⟩ (.int k (ixor k p q)):=by intro a w b _;simp[execOp,b.eval c,b.eval d,eqGuard,binOp,Op.intBits,ixor]
def Y.shl {k':Ik} (e:0<=q) (c:ev fr x=some (.int k p)) (d:ev fr y=some (.int k' q)):Y P w0 S0 n fr is ⟨dst,.binOp .shl t x y t',ty,pos,aft,gd⟩ (.int k (ishl k p q)):=by intro a w b _;simp[execOp,b.eval c,b.eval d,eqGuard,binOp,Op.shift,ishl,show ¬q<0 by omega]
def Y.shr {k':Ik} (e:0<=q) (c:ev fr x=some (.int k p)) (d:ev fr y=some (.int k' q)):Y P w0 S0 n fr is ⟨dst,.binOp .shr t x y t',ty,pos,aft,gd⟩ (.int k (ishr k p q)):=by intro a w b _;simp[execOp,b.eval c,b.eval d,eqGuard,binOp,Op.shift,ishr,show ¬q<0 by omega]
def Y.neg (b:ev fr x=some (.int k p)):Y P w0 S0 n fr is ⟨dst,.unOp .neg t x,ty,pos,aft,gd⟩ (.int k (k.wrap (0 - p))):=by intro a w c _;simp[execOp,c.eval b,Op.unary,Op.intArith]
def Y.conv {src tgt:Ti} (hs:intB P src=some k) (b:intB P tgt=some k') (c:ev fr x=some (.int k p)):
    Y P w0 S0 n fr is ⟨dst,.convert src tgt x,ty,pos,aft,gd⟩ (.int k' (k'.wrap p)):=by
 have hs':P.underlying src=some (.int k):=by unfold intB at hs;split at hs<;>simp_all
 have d:P.underlying tgt=some (.int k'):=by unfold intB at b;split at b<;>simp_all
 intro a w e _;simp[execOp,e.eval c,convert,run_underlying hs',run_underlying d,Conv.intToInt]
end
def zgl {k:Ik} (a:k.signed=false) (n:Int):0<=k.wrap n:=by unfold IntKind.wrap;simp_all;omega
def toU8 (n:Int):UInt8:=Hj (n % 256).toNat
def zwu (n:Int):IntKind.u8.wrap n=((toU8 n).toNat:Int):=by
 have b:=Int.emod_nonneg n (show (256:Int)≠0 by decide);have c:=Int.emod_lt_of_pos n (show (0:Int)<256 by decide);have a:(toU8 n).toNat=(n % 256).toNat:=by unfold toU8;simp_all
 rw[a];simp only[IntKind.wrap,IntKind.bits,IntKind.signed,Bool.false_and,Gx,iF];omega
def Y.conv8 {k:Ik} {p:Int} {src tgt:Ti} (hs:intB P src=some k) (a:intB P tgt=some .u8) (b:ev fr x=some (.int k p)):
    Y P w0 S0 n fr is ⟨dst,.convert src tgt x,ty,pos,aft,gd⟩ (.int .u8 ((toU8 p).toNat:Nat)):=by rw[<-zwu];exact Y.conv hs a b
def goMin (p q:Int):Int:=if q<p then q else p
def goMax (p q:Int):Int:=if q>p then q else p
def Y.not {x:Od} {b:Bool} {t:Ti} (c:ev fr x=some (.bool b)):Y P w0 S0 n fr is ⟨dst,.unOp .not t x,ty,pos,aft,gd⟩ (.bool (!b)):=by intro a w d _;simp[execOp,d.eval c,Op.unary]
def zqK {P:Pm} {t:Ti} (a:P.underlying t=some .bool) (p q:Bool) (w:Wo):(Op.equal t (.bool p) (.bool q)).run P w= .ok (p == q) w:=by unfold Op.equal;rw[show Op.maxDepth=9999+1 from rfl];unfold Op.equalIn;simp only[Sem.run_bind,run_underlying a,Result.andThen_ok];rfl
def Y.neb {y:Od} {p q:Bool} {t:Ti} (c:P.underlying t=some .bool) (d:ev fr x=some (.bool p)) (e:ev fr y=some (.bool q)):
    Y P w0 S0 n fr is ⟨dst,.binOp .neq t x y t',ty,pos,aft,gd⟩ (.bool (!Dc (p=q))):=by intro a w b _;have f:binOp .neq t (.bool p) (.bool q)=(do pure (.bool (!(<-Op.equal t (.bool p) (.bool q))))):=rfl;have g:eqGuard .neq t x y (.bool p) (.bool q)=pure ():=rfl;simp only[execOp,b.eval d,b.eval e,f,g,Sem.run_bind,Sem.run_pure,Result.andThen_ok,zqK c];rfl
def znc (s u:J2):(s == u)=Dc (s=u):=Bool.eq_iff_iff.2 (by simp)
def sLt (s t:J2):Bool:=Op.bytesLess s t
section
variable {y:Od} {s u:J2} {t:Ti}
def Y.seql (c:ev fr x=some (strV s)) (d:ev fr y=some (strV u)):Y P w0 S0 n fr is ⟨dst,.binOp .eql t x y t',ty,pos,aft,gd⟩ (.bool (Dc (s=u))):=by intro a w b _;simp only[execOp,b.eval c,b.eval d,eqGuard,strV,binOp,Op.stringOp,ByteArray.toList_mk,znc];simp
def Y.sneq (c:ev fr x=some (strV s)) (d:ev fr y=some (strV u)):Y P w0 S0 n fr is ⟨dst,.binOp .neq t x y t',ty,pos,aft,gd⟩ (.bool (!Dc (s=u))):=by intro a w b _;simp only[execOp,b.eval c,b.eval d,eqGuard,strV,binOp,Op.stringOp,ByteArray.toList_mk,znc];simp
def Y.slss (c:ev fr x=some (strV s)) (d:ev fr y=some (strV u)):Y P w0 S0 n fr is ⟨dst,.binOp .lss t x y t',ty,pos,aft,gd⟩ (.bool (sLt s u)):=by intro a w b _;simp[execOp,b.eval c,b.eval d,eqGuard,strV,binOp,Op.stringOp,sLt]
def Y.sleq (c:ev fr x=some (strV s)) (d:ev fr y=some (strV u)):Y P w0 S0 n fr is ⟨dst,.binOp .leq t x y t',ty,pos,aft,gd⟩ (.bool (sLt s u||decide (s=u))):=by intro a w b _;simp[execOp,b.eval c,b.eval d,eqGuard,strV,binOp,Op.stringOp,sLt,znc]
def Y.sgtr (c:ev fr x=some (strV s)) (d:ev fr y=some (strV u)):Y P w0 S0 n fr is ⟨dst,.binOp .gtr t x y t',ty,pos,aft,gd⟩ (.bool (!(sLt s u||decide (s=u)))):=by intro a w b _;simp[execOp,b.eval c,b.eval d,eqGuard,strV,binOp,Op.stringOp,sLt,znc]
def Y.sgeq (c:ev fr x=some (strV s)) (d:ev fr y=some (strV u)):Y P w0 S0 n fr is ⟨dst,.binOp .geq t x y t',ty,pos,aft,gd⟩ (.bool (!sLt s u)):=by intro a w b _;simp[execOp,b.eval c,b.eval d,eqGuard,strV,binOp,Op.stringOp,sLt]
def cat (s u:J2):Option J2:=if s.length+u.length<=9223372036854775807 then some (s++u) else none
def Y.cat {z:J2} (b:cat s u=some z) (d:ev fr x=some (strV s)) (e:ev fr y=some (strV u)):Y P w0 S0 n fr is ⟨dst,.binOp .add t x y t',ty,pos,aft,gd⟩ (strV z):=by
 intro a w c _;unfold Sl.cat at b;split at b
 ·rename_i hl;cases b;simp only[execOp,c.eval d,c.eval e,eqGuard,strV,binOp_string_add,Sem.run_bind];simp[run_string_add_sum,hl,ByteArray.size_mk',ByteArray.mk_append_mk]
 ·trivial
def Y.slen {ty':Ti} (b:isStrB P t=true) (c:ev fr x=some (strV s)):Y P w0 S0 n fr is ⟨dst,.call {callee:=.builtin .len,args:=#[x],argTypes:=#[t]},ty',pos,aft,gd⟩ (.int .i64 s.length):=by
 have d:P.underlying t=some .string:=by unfold isStrB at b;split at b<;>simp_all
 intro a w e _;simp[execOp,resolve,invoke,builtin,e.eval c,strV,run_len_string,d,goInt,ByteArray.size_mk']
def sidx (s:J2) (i:Int):Option UInt8:=if 0<=i then s[i.toNat]? else none
theorem Y.sidx {k:Ik} {i:Int} {b:UInt8} (c:sidx s i=some b) (e:isStrB P t=true) (g:ev fr x=some (strV s)) (h:ev fr y=some (.int k i)):
 Y P w0 S0 n fr is ⟨dst,.index t x y,ty,pos,aft,gd⟩ (.int .u8 b.toNat):=by
 have j:P.underlying t=some .string:=by unfold isStrB at e;split at e<;>simp_all
 unfold Sl.sidx at c;split at c
 ·rename_i l;have d:i.toNat<s.length:=by grind
  have hb':s[i.toNat]'d=b:=by rw[Db d]at c;cases c;rfl
  intro a w f _;have m:(ByteArray.mk s.toArray)[i.toNat]? =some b:=by rw[ByteArray.getElem?_lt' _ _ (by simpa[ByteArray.size_mk'] using d)];congr 1
  simp only[execOp,f.eval g,f.eval h,strV,Instr.index,asIntOf,Sem.run_bind,Sem.run_pure,Result.andThen_ok,run_underlying j,iP l,m]
 ·trivial
def ssub (s:J2) (lo hi:Int):Option J2:=if 0<=lo/\lo<=hi/\hi<=s.length then some ((s.drop lo.toNat).take (hi.toNat - lo.toNat)) else none
end
end
def part (vs:J3) (off sz:Nat) (ag:Bool):Option Va:=
 bif ag then (bif Fm (off+sz) vs.length then some (.agg ((vs.drop off).take sz).toArray) else none) else vs[off]?
def zd5 {w0:Wo} {S0:J4} (hs:St w0 S0 is w) (hi:is[i]? =some (.box b bt vs)):
    w.heap[b]? =some (.cells vs.toArray bt (0,0)):=by obtain ⟨_,_,_,_,_,S,B,_,_⟩:=hs;obtain ⟨A,h,_⟩:=zcj hi B;exact h.2
def add_lit (b k j:Nat):(⟨b,k,none⟩:Addr).add j=⟨b,k+j,none⟩:=by unfold Addr.add;split<;>simp_all
theorem add_add (a:Addr) (i j:Nat):(a.add i).add j=a.add (i+j):=by unfold Addr.add;grind
theorem zb8 {P:Pm} {a:Addr} (f:kindB P t=some (ag,sz)) (g: ∀j,j<us.length->w.cell? (a.add j)=us[j]?) (b:(ag=true/\us.length=sz/\v= .agg us.toArray)\/(ag=false/\us= [v])):(loadVar t a).run P w= .ok v w:=by
 obtain ⟨d,i,l,hi,h,c⟩:=zg9 f;rcases b with ⟨rfl,hl,rfl⟩ | ⟨rfl,rfl⟩
 ·have hl':=run_loadCells_list (P:=P) (w:=w) a us (λj v b=>by grind);simp only[loadVar,Sem.run_bind,c,Result.andThen_ok,iT,sizeOf,typeInfo,run_program,hi,Sem.run_pure,h];simp_all
 ·have e:=g 0 (by simp);have k:a.add 0=a:=by simp[Addr.add]
  rw[k]at e;simp only[Dn]at e;simp only[loadVar,Sem.run_bind,c,Result.andThen_ok,Gx,iF];simp_all
section
variable {P:Pm} {w0:Wo} {S0:J4}
variable {pos:String}
def zpB {off:Nat} (e:w.heap[b]? =some (.cells vs.toArray bt (0,0))) (a:part vs off sz ag=some v):
    ∃us:J3,(∀j,j<us.length->w.cell? ((⟨b,off,none⟩:Addr).add j)=us[j]?)/\((ag=true/\us.length=sz/\v= .agg us.toArray)\/(ag=false/\us= [v])):=by
 unfold part at a;cases ag with
 | true=>
   simp only[cT]at a;cases c:Fm (off+sz) vs.length with
   | false=>rw[c]at a;cases a
   | true=>
     rw[c]at a;have f:off+sz<=vs.length:=Cu c;simp only[cT,Ba]at a;subst a;refine ⟨(vs.drop off).take sz,?_,.inl ⟨rfl,by simp;omega,rfl⟩⟩;intro j d;have g:j<sz:=by simp at d;omega
     rw[add_lit,cell_of_row w b (off+j) _ bt (0,0) e];simp_all
 | false=>
   simp only[cF]at a;refine ⟨[v],?_,.inr ⟨rfl,rfl⟩⟩;intro j d;have:j=0:=by simpa using d
   subst this;rw[add_lit,cell_of_row w b (off+0) _ bt (0,0) e];simp_all
def Y.load_box {off:Nat} (i:Nat) (c:kindB P t=some (ag,sz)) (hi:is[i]? =some (.box b bt vs)) (d:ev fr x=some (.pointer (some ⟨b,off,none⟩))) (e:part vs off sz ag=some v):Y P w0 S0 n fr is ⟨dst,.load t x,ty,pos,aft,gd⟩ v:=by intro a w f hs;obtain ⟨us,g,h⟩:=zpB (zd5 hs hi) e;have:=zb8 (P:=P) c g h;simp[execOp,f.eval d,Instr.loadAt,Instr.sureAddr,this]
def Y.field_box {o:Nat} (c:fieldB P s f=some o) (e:Nat.add k o=j) (g:ev fr x=some (.pointer (some ⟨b,k,none⟩))):
    Y P w0 S0 n fr is ⟨dst,.fieldAddr s x f,ty,pos,aft,gd⟩ (.pointer (some ⟨b,j,none⟩)):=by
 intro a w i hs;have l:k+o=j:=e;unfold fieldB at c;split at c
 ·rename_i D m;split at c
  ·rename_i B p;split at c
   ·rename_i A q;cases d:Bw A.size 0 with
    | true=>rw[d]at c;cases c
    | false=>
      rw[d]at c;have t:A.size≠0:=by intro h;rw[h]at d;cases d
      simp only[cF,Ba]at c;simp[execOp,i.eval g,Instr.fieldAt,run_underlying m,p,Instr.sureAddr,fieldPlace,sizeOf,typeInfo,q,t,add_lit,c,l]
   ·trivial
  ·trivial
 ·trivial
def Y.nilCheck {x:Od} {b:Addr} (c:ev fr x=some (.pointer (some b))):Y P w0 S0 n fr is ⟨dst,.nilCheck x,ty,pos,aft,gd⟩ (.pointer (some b)):=by intro a w d hs;simp[execOp,d.eval c]
def Y.extract {x:Od} {vs:J3} {k:Nat} {v:Va} (b:ev fr x=some (.tuple vs.toArray)) (c:vs[k]? =some v):Y P w0 S0 n fr is ⟨dst,.extract x k,ty,pos,aft,gd⟩ v:=by intro a w d hs;simp[execOp,d.eval b,Instr.extract,c]
def zgM {t:Ti} {z:Va} (h:zeroB P t=some z) (w:Wo):(zeroValue t).run P w= .ok z w:=by
 unfold zeroB at h;cases hi:P.info? t with
 | none=>rw[hi]at h;cases h
 | some i=>rw[hi]at h;simp only[Df]at h;simp[zeroValue,typeInfo,hi,h]
def Ef (P:Pm) (w0:Wo) (S0:J4) (n:Nat) (fr:Fr) (is:J5) (o:Oper) (val:X->Va) (is':X->J5):Prop:=
 ∀a w (K:Act->Wo->Prop) (Q:Exit->Act->Wo->Prop),FrOk n fr a->St w0 S0 is w->(∀x w',St w0 S0 (is' x) w'->K (a.put o.dst (val x)) w')->o.wp P a w K Q
def TO.ef {d:Nat} {val:X->Va} {is':X->J5} (c:Ef P w0 S0 n fr is o val is') (e:Gd ops fr o true) (f:o.dst=some d) (g:Dj d n=true) (h: ∀x,TO P w0 S0 m n ((d,val x)::fr) (is' x) ops rest Q):TO P w0 S0 m n fr is ops (o::rest) Q:=by intro r i a w b hs;refine znb (e.wanted b) λK A=>?_;refine c a w K (Q r) b hs λx w' hs'=>?_;rw[f];exact A _ _ (h x r i _ _ (b.put g _) hs')
def TO.ef0 {val:X->Va} {is':X->J5} (c:Ef P w0 S0 n fr is o val is') (d:Gd ops fr o true) (e:o.dst=none) (h: ∀x,TO P w0 S0 m n fr (is' x) ops rest Q):TO P w0 S0 m n fr is ops (o::rest) Q:=by intro r f a w b hs;refine znb (d.wanted b) λK A=>?_;refine c a w K (Q r) b hs λx w' hs'=>?_;rw[e];exact A _ _ (h x r f _ _ b hs')
def One (w0:Wo) (S0:J4) (is:J5) (v:Va):Prop:=∀w,St w0 S0 is w->v.oneCell'=true
def Rd.one (h:Rd w v c S):v.oneCell'=true:=by cases h<;>first | rfl | assumption
def One.plain {w0:Wo} {S0:J4} (h:v.oneCell'=true):One w0 S0 is v:=λ_ _=>h
def One.can {w0:Wo} {S0:J4} (h:Can w0 S0 is v c):One w0 S0 is v:=λ_ hs=>(h.get hs).choose_spec.one
def Ones (w0:Wo) (S0:J4) (is:J5):J3->Prop
 | []=>True
 | v::r=>One w0 S0 is v/\Ones w0 S0 is r
def Ones.all {w0 w:Wo} {S0:J4} {is:J5} (hs:St w0 S0 is w): ∀{us:J3},Ones w0 S0 is us->∀u∈us,u.oneCell'=true
 | _::_,⟨b,c⟩,u,a=>by
   rcases Dd.1 a with rfl | a
   ·exact b _ hs
   ·exact Ones.all hs c u a
def Cel (w0:Wo) (S0:J4) (is:J5) (v:Va) (us:J3):Prop:=∀w,St w0 S0 is w->v.cells=us.toArray/\∀u∈us,u.oneCell'=true
def Cel.plain {w0:Wo} {S0:J4} (h:v.cells=us.toArray) (a:us.all (·.oneCell')=true):Cel w0 S0 is v us:=
 λ_ _=>⟨h,Ey.1 a⟩
def Cel.one {w0:Wo} {S0:J4} (h:One w0 S0 is v):Cel w0 S0 is v [v]:=by intro w hs;have:=h w hs;refine ⟨?_,by simpa using this⟩;cases v<;>first | rfl | cases this
def Ca {w0:Wo} {S0:J4} (h:Ones w0 S0 is us):Cel w0 S0 is (.agg us.toArray) us:=
 λ_ hs=>⟨rfl,h.all hs⟩
def Ef.newBox (c: ∀a w,FrOk n fr a->St w0 S0 is w->(execOp a.eval o).run P w= .ok (.value (.pointer (some ⟨w.heap.size,0,none⟩))) (w.alloc (.cells zs.toArray t))):
    Ef P w0 S0 n fr is o (λb:Nat=>.pointer (some ⟨b,0,none⟩)) (λb=>.box b t zs::is):=by intro a w K Q d hs h;unfold Oper.wp;rw[c a w d hs];exact h w.heap.size _ (hs.add (Chg.alloc w _ []) _ [w.heap.size] ⟨rfl,heap_alloc_new w _⟩ (by simp) (by simp))
def Al {z:Va} (c:zeroB P t=some z) (d:z.cells=zs.toArray):
    Ef P w0 S0 n fr is ⟨dst,.alloc t,ty,pos,aft,gd⟩ (λb:Nat=>.pointer (some ⟨b,0,none⟩)) (λb=>.box b t zs::is):=by refine Ef.newBox λa w e _=>?_;simp[execOp,Instr.alloc,zgM c,newVar,newRow,d]
def Bx (c:ev fr x=some v) (d:Cel w0 S0 is v zs):
    Ef P w0 S0 n fr is ⟨dst,.box t x,ty,pos,aft,gd⟩ (λb:Nat=>.pointer (some ⟨b,0,none⟩)) (λb=>.box b t zs::is):=by refine Ef.newBox λa w e hs=>?_;simp[execOp,Instr.box,newVar,newRow,e.eval c,(d w hs).1]
def splice (vs:J3) (off:Nat) (us:J3):J3:=vs.take off++us++vs.drop (off+us.length)
theorem St.upd {J E:Item} (h:St w0 S0 is w) (hi:is[i]? =some J) (hs: ∀A,J.sat w A->A.Nodup->∃F,Chg w w' A/\E.sat w' F/\F.Nodup/\∀b∈F,b∈A\/w.heap.size<=b):St w0 S0 (is.set i E) w':=by
 obtain ⟨os,tape,output,size,base,S,O,j,s⟩:=h;have key: ∀(is:J5) (i:Nat) (S:J4),is[i]? =some J->sats w is S->S.Nodup->
  ∃A D,J.sat w A/\(∀b∈A,b∈S)/\Chg w w' A/\sats w' (is.set i E) D/\D.Nodup/\∀b∈D,b∈S\/w.heap.size<=b:=by
  intro is
  induction is with
  | nil=>intro i S hi;simp at hi
  | cons x r ih=>
    intro i S hi O j;obtain ⟨A,B,rfl,d,g⟩:=O;obtain ⟨M,T,p⟩:=Da.1 j;cases i with
    | zero=>
      simp only[Dn,Ba]at hi;subst hi;obtain ⟨F,a,k,e,f⟩:=hs A d M;refine ⟨A,F++B,d,λb c=>Bm.2 (.inl c),a,⟨F,B,rfl,k,zgI g λb c=>a.keep b (zfw g b c) λI=>p b I b c rfl⟩,?_,?_⟩
      ·refine Da.2 ⟨e,T,λx l y m n=>?_⟩;subst n;rcases f x l with h | h
       ·grind
       ·have:=zfw g x m;omega
      ·grind
    | succ i=>
      simp only[Du]at hi;obtain ⟨A2,D,k,f,a,o,e,G⟩:=ih i B hi g T;refine ⟨A2,A++D,k,λb c=>Bm.2 (.inr (f b c)),a,⟨A,D,rfl,Item.sat_keep d λb c=>a.keep b (Item.sat_lt d b c) λq=>p b c b (f b q) rfl,o⟩,?_,?_⟩
      ·refine Da.2 ⟨M,e,λx l y m n=>?_⟩;subst n;rcases G x m with h | h
       ·grind
       ·have:=Item.sat_lt d x l;omega
      ·grind
 obtain ⟨A,D,M,f,a,o,e,G⟩:=key is i S hi O j;refine ⟨a.os.trans os,a.tape.trans tape,a.output.trans output,Cv size a.size,?_,D,o,e,?_⟩
 ·intro b c t;rw[a.keep b (Ej c size) λI=>?_]
  ·simp_all
  ·grind
 ·grind
def Chg.setRow (w:Wo) (g:Nat) (cs:Array Va):Chg w (w.setRow g cs) [g]:=
 ⟨rfl,rfl,rfl,by simp,λb _ a=>setRow_other w g b cs (by simpa using a)⟩
def zeP {off:Nat} {cur:Array Va} (a:kindB P ty=some (ag,sz)) (c:w.heap[b]? =some (.cells cur t (0,0))) (e:v.cells=us.toArray) (hl:Bw us.length sz=true) (f: ∀u∈us,u.oneCell'=true) (h:off+us.length<=cur.size):
    (storeVar ty ⟨b,off,none⟩ v).run P w= .ok () (w.setRow b (splice cur.toList off us).toArray):=by
 obtain ⟨d,i,j,hi,g,_⟩:=zg9 a;have hl':us.length=sz:=by simpa using hl
 have:=run_storeCells_at P b off t us 0 cur w c (by omega) f;simp only[storeVar,Sem.run_bind,sizeOf,typeInfo,run_program,Result.andThen_ok,hi,Sem.run_pure,e,g,Ep,hl',ne_eq,not_true_eq_false,iF];trivial
def Ef.store_box {y:Od} {off:Nat} {B:J3} (i:Nat) (h:kindB P t=some (ag,sz)) (hi:is[i]? =some (.box b bt vs)) (c:ev fr x=some (.pointer (some ⟨b,off,none⟩))) (j:ev fr y=some v) (k:Cel w0 S0 is v us) (hl:Bw us.length sz=true) (l:Fm (off+us.length) vs.length=true) (hs:splice vs off us=B) (m:is.set i (.box b bt B)=is'):
    Ef P w0 S0 n fr is ⟨none,.store t x y,ty,pos,aft,gd⟩ (λ_:Unit=>undef) (λ_=>is'):=by
 intro a w K Q e d E;have f:=zd5 d hi;obtain ⟨o,p⟩:=k w d;have g:=zeP (P:=P) h f o hl p (by simpa using Cu l);have q:(execOp a.eval ⟨none,.store t x y,ty,pos,aft,gd⟩).run P w= .ok .skip (w.setRow b B.toArray):=by simp only[hs]at g;simp[execOp,e.eval c,e.eval j,Instr.storeAt,Instr.sureAddr,g]
 unfold Oper.wp;rw[q];refine E () _ ?_;subst m;refine d.upd hi λA D s=>⟨[b],?_,⟨rfl,?_⟩,by simp,λx c=>.inl (by rw[D.1];exact c)⟩
 ·rw[D.1];exact Chg.setRow w b _
 ·exact setRow_heap w b _ _ bt _ f
end
def Con (P:Pm) (f:Oe) (args:J3) (pre:J5) (rds:List (Va × C)) (val:X->Va) (post:X->J5):Prop:=
 ∀w S,St w S pre w->(∀p∈rds,Base w S p.1 p.2)->Calls P f args.toArray w (λe w'=>∃x,e= .returned (val x)/\St w S (post x) w')
def callB (P:Pm) (f:Oe):Bool:=match P.funcs[f]? with | some fn=>fn.name != "runtime.NumGoroutine" &&fn.body.isSome | none=>false
def zmo {P:Pm} {f:Oe} (h:callB P f=true) (args:Array Va) (w:Wo):(callFunc f args).run P w= .ok (.enter f args) w:=by
 unfold callB at h;split at h
 ·rename_i fn d;simp only[Cg,bne_iff_ne,ne_eq]at h;obtain ⟨e,a⟩:=h;cases b:fn.body with
  | none=>rw[b]at a;cases a
  | some c=>simp[callFunc,d,e,b]
 ·cases h
theorem St.frame {w0:Wo} {S0:J4} {pre rest:J5} (h:St w0 S0 (pre++rest) w):
 ∃A,St w A pre w/\(∀v c,Can w0 S0 rest v c->Base w A v c)/\∀post w',St w A post w'->St w0 S0 (post++rest) w':=by
 obtain ⟨os,tape,output,size,base,S,O,f,j⟩:=h;obtain ⟨A,B,rfl,e,a⟩:=zb0.1 O;obtain ⟨J,T,g⟩:=Da.1 f;have I:=zfw e;have D:=zfw a;refine ⟨A,St.start e J,?_,?_⟩
 ·intro v c i;obtain ⟨F,M,k⟩:=i w B a base;refine ⟨F,M,λb d E=>?_⟩;grind
 ·intro post w' ⟨os',tape',output',size',base',S',hS',l,m⟩;have G:sats w' rest B:=zgI a λb d=>base' b (D b d) λE=>g b E b d rfl;refine ⟨os'.trans os,tape'.trans tape,output'.trans output,Cv size size',?_,S'++B,zb0.2 ⟨S',B,rfl,hS',G⟩,?_,?_⟩
  ·grind
  ·grind
  ·grind
section
variable {P:Pm} {w0:Wo} {S0:J4}
variable {pos:String}
def Cans (w0:Wo) (S0:J4) (is:J5):List (Va × C)->Prop
 | []=>True
 | (v,c)::r=>Can w0 S0 is v c/\Cans w0 S0 is r
def Cans.mem {w0:Wo} {S0:J4} {is:J5} : ∀{l:List (Va × C)},Cans w0 S0 is l->∀p∈l,Can w0 S0 is p.1 p.2
 | _::_,⟨c,b⟩,p,a=>by
   rcases Dd.1 a with rfl | a
   ·trivial
   ·exact Cans.mem b p a
def Ef.call {X:Type} {val:X->Va} {post:X->J5} {pre rest:J5} {rds:List (Va × C)} {f:Oe} {os:List Od} {args:J3} {ats:Array Ti} {dst:Option Nat} {gd:Option (Nat × Bool)} (B:J4) (c:Con P f args pre rds val post) (d:callB P f=true) (e:evs fr os=some args) (b:pulls B is=some (pre++rest)) (g:Cans w0 S0 rest rds):Ef P w0 S0 n fr is ⟨dst,.call {callee:=.value (.func f),args:=os.toArray,argTypes:=ats},ty,pos,aft,gd⟩ val (λx=>post x++rest):=by
 intro a w K Q h hs E;obtain ⟨A,D,i,l⟩:=(hs.pulls B b).frame;have j:=c w A D λp b=>i _ _ (g.mem p b);have k:(execOp a.eval ⟨dst,.call {callee:=.value (.func f),args:=os.toArray,argTypes:=ats},ty,pos,aft,gd⟩).run P w= .ok (.enter f args.toArray) w:=by simp[execOp,resolve,Act.eval,Deferred.ofValue,invoke,<-h.evals e,zmo d]
 unfold Oper.wp;rw[k];refine j.mono ?_;simp_all
end
def Con.intro {P:Pm} {f:Oe} {fn:Func} {c:Code} {args:J3} {pre:J5} {rds:List (Va × C)} {X R:Type} {n:Nat} {val:R->X->Va} {post:R->X->J5} {m:Option R} {r:R} (a:P.funcs[f]? =some fn) (b:fn.body=some c) (d:fn.ntmps=n) (hl:Fm args.length n=true) (g:m=some r) (h: ∀w S,(∀p∈rds,Base w S p.1 p.2)->TW P w S m n (argFr 0 args) pre c (λr=>bodyPost P fn (λe w'=>∃x,e= .returned (val r x)/\St w S (post r x) w'))):
    Con P f args pre rds (val r) (post r):=by subst d;intro w S hs i;refine calls_of_wp a b ?_;exact h w S i r g _ w (FrOk.enter args fn.ntmps (Cu hl)) hs
def RV (P:Pm) (fr:Fr) (is:J5):List ResultVar->J3->Prop
 | [],[]=>True
 | .tmp t::r,v::vs=>lk t fr=some v/\RV P fr is r vs
 | .cell p t::r,v::vs=>(∃a:Addr,lk p fr=some (.pointer (some a))/\∀(w0:Wo) (S0:J4) (w:Wo),St w0 S0 is w->(loadVar t a).run P w= .ok v w)/\RV P fr is r vs
 | _,_=>False
def RV.cell {P:Pm} {fr:Fr} {is:J5} {p t b off bt sz:Nat} {us:J3} {ag:Bool} {v:Va} {r:List ResultVar} {vs:J3} (i:Nat) (a:is[i]? =some (.box b bt us)) (c:lk p fr=some (.pointer (some ⟨b,off,none⟩))) (d:kindB P t=some (ag,sz)) (e:part us off sz ag=some v) (h:RV P fr is r vs):RV P fr is (.cell p t::r) (v::vs):=
 ⟨⟨_,c,λw0 S0 w hs=>by obtain ⟨cs,f,g⟩:=zpB (zd5 hs a) e;exact zb8 (P:=P) d f g⟩,h⟩
def resF (a:Act) (x:ResultVar):Sem Va:=
 match x with
 | .tmp t=>pure (a.tmps.getD t undef)
 | .cell p t=>do loadVar t (<-asAddr (a.tmps.getD p undef))
def zhN {P:Pm} {w0 w:Wo} {S0:J4} {n:Nat} {fr:Fr} {is:J5} {a:Act} (b:FrOk n fr a) (hs:St w0 S0 is w): ∀{A:List ResultVar} {vs:J3},RV P fr is A vs->
    (A.mapM (resF a)).run P w= .ok vs w
 | [],[],_=>by simp
 | ResultVar.tmp t::r,v::vs,⟨e,c⟩=>by
   have:=zhN b hs c
   have d:a.tmps.getD t undef=v:=by rw[Eu,b.get t v e];rfl
   simp only[Gb,Sem.run_bind,resF,d,Sem.run_pure,Result.andThen_ok,this]
 | ResultVar.cell p t::r,v::vs,⟨⟨f,g,h⟩,c⟩=>by
   have:=zhN b hs c
   have d:a.tmps.getD p undef= .pointer (some f):=by rw[Eu,b.get p _ g];rfl
   have hl:=h _ _ w hs
   simp only[Gb,Sem.run_bind,resF,d,asAddr,Sem.run_pure,Result.andThen_ok,hl,this]
def retV:J3->Va
 | [v]=>v
 | vs=>.tuple vs.toArray
def zuw {P:Pm} {w0:Wo} {S0:J4} {fn:Func} {B:List ResultVar} {K:Ending->Wo->Prop} {e:Exit} (d:e= .ret\/e= .normal) (f:fn.results=B.toArray) (g:RV P fr is B vs) (b:FrOk n fr a) (hs:St w0 S0 is w) (A:K (.returned (retV vs)) w):bodyPost P fn K e a w:=by
 have i:=zhN b hs g;have c:(results fn a.tmps).run P w= .ok (retV vs) w:=by
  have j:results fn a.tmps=(do let vs <-fn.results.mapM (resF a);pure (if h:vs.size=1 then vs[0] else .tuple vs)):=rfl;rw[j,f];simp only[Sem.run_bind,Hh,Sem.run_map,i,Result.andThen_ok,Sem.run_pure];congr 1
  match vs with
  | []=>rfl
  | [v]=>rfl
  | v::u::r=>simp[retV]
 rcases d with rfl | rfl
 ·exact ⟨b.defers,_,c,A⟩
 ·exact ⟨b.defers,_,c,A⟩
class Enc (α:Type) where
 sz:Nat
 enc:α->List C
 len: ∀x,(enc x).length=sz
 pos:0<sz
instance:Enc Int:=⟨1,λn=>[.int .i64 n],λ_=>rfl,Fq⟩
instance:Enc UInt8:=⟨1,λn=>[.int .u8 n.toNat],λ_=>rfl,Fq⟩
instance:Enc Bool:=⟨1,λb=>[.bool b],λ_=>rfl,Fq⟩
instance:Enc J2:=⟨1,λs=>[.str s],λ_=>rfl,Fq⟩
def lc [Enc α] (l:List α):C:=.sl (Enc.sz α) l.length (l.flatMap Enc.enc)
def zbh [Enc α] (l:List α):(l.flatMap (Enc.enc (α:=α))).length=l.length*Enc.sz α:=by
 induction l with
 | nil=>simp
 | cons x l ih=>simp[ih,Enc.len,Cj,Hf]
theorem zj1 {α:Type} [Enc α]: ∀(l:List α) (k j:Nat) (x:α),l[k]? =some x->j<=Enc.sz α->∃r,(l.flatMap (Enc.enc (α:=α))).drop (k*Enc.sz α+j)=(Enc.enc x).drop j++r
 | [],_,_,_,h,_=>by simp at h
 | y::l,0,j,x,h,a=>by simp only[Dn,Ba]at h;subst h;refine ⟨l.flatMap Enc.enc,?_⟩;simp only[Ev,Dy,Ct];rw[List.drop_append_of_le_length (by rw[Enc.len];exact a)]
 | y::l,k+1,j,x,h,a=>by simp only[Du]at h;obtain ⟨r,b⟩:=zj1 l k j x h a;refine ⟨r,?_⟩;rw[<-b,Ct,Gj,Eb (by rw[Enc.len,Cj];omega),Fc,Enc.len];grind
def valC:C->Option Va
 | .int k n=>some (.int k n)
 | .bool b=>some (.bool b)
 | .str s=>some (strV s)
 | .raw v=>bif v.oneCell' then some v else none
 | .any=>none
 | .sl ..=>none
def valR:C->Option Va
 | .int k n=>some (.int k n)
 | .bool b=>some (.bool b)
 | .str s=>some (strV s)
 | .raw v=>some v
 | .any=>none
 | .sl ..=>none
def valsR:List C->Option J3
 | []=>some []
 | c::r=>match valR c,valsR r with
   | some v,some vs=>some (v::vs)
   | _,_=>none
def valsC:List C->Option J3
 | []=>some []
 | c::r=>match valC c,valsC r with
   | some v,some vs=>some (v::vs)
   | _,_=>none
def Rd.val (h:Rd w v c S) (a:valC c=some u):v=u:=by cases h<;>simp_all[valC]
def Rds.vals {w:Wo} : ∀{vs us:J3} {cs:List C} {S:J4},Rds w vs cs S->valsC cs=some us->vs=us
 | _,us,[],_,h,a=>by cases h;simpa[valsC] using a
 | _,us,c::cs,_,h,a=>by
   cases h with
   | cons v c S vs cs T e f=>
     unfold valsC at a;cases b:valC c with
     | none=>rw[b]at a;simp at a
     | some u=>
       cases d:valsC cs with
       | none=>rw[b,d]at a;simp at a
       | some A=>rw[b,d]at a;simp only[Ba]at a;subst a;rw[e.val b,Rds.vals f d]
def Rd.valR {w:Wo} {v u:Va} {c:C} {S:J4} (h:Rd w v c S) (a:valR c=some u):v=u:=by cases h<;>simp_all[Sl.valR]
def Rds.valsR {w:Wo} : ∀{vs us:J3} {cs:List C} {S:J4},Rds w vs cs S->valsR cs=some us->vs=us
 | _,us,[],_,h,a=>by cases h;simpa[Sl.valsR] using a
 | _,us,c::cs,_,h,a=>by
   cases h with
   | cons v c S vs cs T e f=>
     unfold Sl.valsR at a;cases b:Sl.valR c with
     | none=>rw[b]at a;simp at a
     | some u=>
       cases d:Sl.valsR cs with
       | none=>rw[b,d]at a;simp at a
       | some A=>rw[b,d]at a;simp only[Ba]at a;subst a;rw[e.valR b,Rds.valsR f d]
def Rd.oneCell (h:Rd w v c S):v.oneCell'=true:=by cases h<;>first | rfl | assumption
def Rds.oneCells {w:Wo} : ∀{vs:J3} {cs:List C} {S:J4},Rds w vs cs S->∀v∈vs,v.oneCell'=true
 | _,[],_,h,v,a=>by cases h;cases a
 | _,c::cs,_,h,v,a=>by
   cases h with
   | cons u c S vs cs T b d=>
     rcases Dd.1 a with rfl | a
     ·exact b.oneCell
     ·exact Rds.oneCells d v a
def Ow.oneCell (h:Ow w v c S):v.oneCell'=true:=by cases h<;>first | rfl | assumption
def Ows.oneCells {w:Wo} : ∀{vs:J3} {cs:List C} {S:J4},Ows w vs cs S->∀v∈vs,v.oneCell'=true
 | _,[],_,h,v,a=>by cases h;cases a
 | _,c::cs,_,h,v,a=>by
   cases h with
   | cons u c S vs cs T b d=>
     rcases Dd.1 a with rfl | a
     ·exact b.oneCell
     ·exact Ows.oneCells d v a
theorem zjR (h:valC c=some v):v.oneCell'=true:=by
 cases c with
 | raw u=>have h:(bif u.oneCell' then some u else none)=some v:=h;grind
 | sl a b d=>simp[valC]at h
 | any=>simp[valC]at h
 | int k n=>simp[valC]at h;subst h;rfl
 | bool b=>simp[valC]at h;subst h;rfl
 | str s=>simp[valC]at h;subst h;rfl
def zmb: ∀{cs:List C} {vs:J3},valsC cs=some vs->∀v∈vs,v.oneCell'=true
 | [],vs,h,v,a=>by simp[valsC]at h;subst h;cases a
 | c::cs,vs,h,v,a=>by
   unfold valsC at h;cases b:valC c with
   | none=>rw[b]at h;simp at h
   | some u=>
     cases d:valsC cs with
     | none=>rw[b,d]at h;simp at h
     | some A=>
       rw[b,d]at h;simp only[Ba]at h;subst h;rcases Dd.1 a with rfl | a
       ·exact zjR b
       ·exact zmb d v a
def Ow.of_val (h:valC c=some v):Ow w v c []:=by
 have f:=zjR h;cases c with
 | raw u=>
   have h:(bif u.oneCell' then some u else none)=some v:=h;cases e:u.oneCell' with
   | true=>rw[e]at h;simp at h;subst h;exact .raw _ e
   | false=>rw[e]at h;simp at h
 | sl a b d=>simp[valC]at h
 | any=>simp[valC]at h
 | int k n=>simp[valC]at h;subst h;exact .int _ _
 | bool b=>simp[valC]at h;subst h;exact .bool _
 | str s=>simp[valC]at h;subst h;exact .str _
def Ows.of_vals {w:Wo} : ∀{cs:List C} {vs:J3},valsC cs=some vs->Ows w vs cs []
 | [],vs,h=>by simp[valsC]at h;subst h;exact .nil
 | c::cs,vs,h=>by
   unfold valsC at h;cases a:valC c with
   | none=>rw[a]at h;simp at h
   | some u=>
     cases b:valsC cs with
     | none=>rw[a,b]at h;simp at h
     | some A=>rw[a,b]at h;simp only[Ba]at h;subst h;exact .cons u c [] A cs [] (Ow.of_val a) (Ows.of_vals b)
def zna: ∀{cs ds:List C} {vs us:J3},valsC cs=some vs->valsC ds=some us->valsC (cs++ds)=some (vs++us)
 | [],ds,vs,us,h,k=>by simp[valsC]at h;subst h;exact k
 | c::cs,ds,vs,us,h,k=>by
   unfold valsC at h;cases a:valC c with
   | none=>rw[a]at h;simp at h
   | some u=>
     cases b:valsC cs with
     | none=>rw[a,b]at h;simp at h
     | some A=>rw[a,b]at h;simp only[Ba]at h;subst h;simp[valsC,a,zna b k]
class Flat (α:Type) extends Enc α where
 vals:α->J3
 flat: ∀x,valsC (enc x)=some (vals x)
instance:Flat Int:={vals:=λn=>[.int .i64 n],flat:=λ_=>rfl}
instance:Flat UInt8:={vals:=λn=>[.int .u8 n.toNat],flat:=λ_=>rfl}
instance:Flat Bool:={vals:=λb=>[.bool b],flat:=λ_=>rfl}
instance:Flat J2:={vals:=λs=>[strV s],flat:=λ_=>rfl}
def zba {α:Type} [Flat α]: ∀l:List α,valsC (l.flatMap Enc.enc)=some (l.flatMap Flat.vals)
 | []=>rfl
 | x::l=>by simp only[Ct];exact zna (Flat.flat x) (zba l)
def zf4 [Flat α] (x:α):(Flat.vals x).length=Enc.sz α:=by have h:=Flat.flat x;have:=(Ows.of_vals (w:=default) h).length;rw[this,Enc.len]
def elP (v:Va) (c:Nat):Va:=
 match v with
 | .slice (some a) _ _=>.pointer (some (a.add c))
 | _=>undef
def idx (l:List α) (i:Int):Option α:=if 0<=i then l[i.toNat]? else none
theorem zQ {i:Int} {x:α} (h:idx l i=some x):0<=i/\i<l.length/\l[i.toNat]? =some x:=by unfold idx at h;grind
def Can.row {w0 w:Wo} {S0:J4} {is:J5} {v:Va} {sz n:Nat} {cs:List C} (h:Can w0 S0 is v (.sl sz n cs)) (hs:St w0 S0 is w):
    (n=0/\cs= []/\v= .slice none 0 0)\/∃a cap vs S,v= .slice (some a) n cap/\n<=cap/\vs.length=n*sz/\(∀j,j<n*sz->w.cell? (a.add j)=vs[j]?)/\Rds w vs cs S:=by
 obtain ⟨F,A⟩:=h.get hs;cases A with
 | nil=>exact .inl ⟨rfl,rfl,rfl⟩
 | row a n cap sz vs cs S b c d e=>exact .inr ⟨a,cap,vs,S,rfl,c,b,d,e⟩
section
variable {P:Pm} {w0:Wo} {S0:J4}
variable {pos:String}
def Ln {ty':Ti} (e:elemB P t=some (e',sz,by_)) (f:Can w0 S0 is v (.sl sz' l.length cs')) (b:ev fr x=some v):
    Y P w0 S0 n fr is ⟨dst,.call {callee:=.builtin .len,args:=#[x],argTypes:=#[t]},ty',pos,aft,gd⟩ (.int .i64 l.length):=by
 obtain ⟨c,_⟩:=zA e;intro a w d hs;rcases f.row hs with ⟨g,_,rfl⟩ | ⟨h,cap,vs,S,rfl,_⟩
 ·have:l= []:=Bh g;subst this;simp[execOp,resolve,invoke,builtin,d.eval b,Builtin.len_,run_underlying c,goInt]
 ·simp[execOp,resolve,invoke,builtin,d.eval b,Builtin.len_,run_underlying c,goInt]
def Y.index {y:Od} {k:Ik} {i:Int} (c:elemB P t=some (e',sz,by_)) (d:Can w0 S0 is v (.sl sz' l.length cs')) (hi:idx l i=some z) (e:ev fr x=some v) (f:ev fr y=some (.int k i)):
    Y P w0 S0 n fr is ⟨dst,.indexAddr t x y,ty,pos,aft,gd⟩ (elP v (i.toNat*sz+0)):=by
 obtain ⟨g,ti,h,j,_⟩:=zA c;obtain ⟨m,o,p⟩:=zQ hi;intro a w b hs;rcases d.row hs with ⟨q,_,rfl⟩ | ⟨s,cap,vs,S,rfl,_⟩
 ·omega
 ·simp[execOp,b.eval e,b.eval f,Instr.indexAt,run_underlying g,asIntOf,m,o,sizeOf,typeInfo,h,j,elP]
def Y.field_el {o c:Nat} (b:fieldB P s f=some o) (e:Can w0 S0 is v (.sl sz' l.length cs')) (A:l[k]? =some z) (g:Nat.add c o=j) (i:ev fr x=some (elP v (k*sz+c))):
    Y P w0 S0 n fr is ⟨dst,.fieldAddr s x f,ty,pos,aft,gd⟩ (elP v (k*sz+j)):=by
 intro a w m hs;have p:c+o=j:=g;rcases e.row hs with ⟨B,_,rfl⟩ | ⟨C,cap,vs,S,rfl,_⟩
 ·simp_all
 ·unfold fieldB at b;split at b
  ·rename_i F q;split at b
   ·rename_i E t;split at b
    ·rename_i D u;cases d:Bw D.size 0 with
     | true=>rw[d]at b;cases b
     | false=>
       rw[d]at b;have y:D.size≠0:=by intro h;rw[h]at d;cases d
       simp only[cF,Ba]at b;simp[execOp,m.eval i,Instr.fieldAt,run_underlying q,t,Instr.sureAddr,fieldPlace,sizeOf,typeInfo,u,y,b,elP,add_add,<-p,Nat.add_assoc]
    ·trivial
   ·trivial
  ·trivial
variable [Enc α]
theorem zwN {c:Nat} {r:List C} (g:Enc.sz α=sz) (h:Can w0 S0 is v (lc l)) (hs:St w0 S0 is w) (i:l[k]? =some z) (b:(Enc.enc z).drop c=cs++r):
 ∃a us S,(∃F cap,v= .slice (some a) F cap)/\(∀j,j<us.length->w.cell? ((a.add (k*sz+c)).add j)=us[j]?)/\Rds w us cs S:=by
 subst g;have m:k<l.length:=by grind
 rcases h.row hs with ⟨A,_,_⟩ | ⟨d,cap,vs,S,rfl,B,D,n,e⟩
 ·omega
 ·by_cases o:c<=Enc.sz α
  ·obtain ⟨G,E⟩:=zj1 l k c z i o;have p:l.flatMap (Enc.enc (α:=α))=(l.flatMap (Enc.enc (α:=α))).take (k*Enc.sz α+c)++(cs++(r++G)):=by
    conv=>lhs;rw[<-Bl (k*Enc.sz α+c) (l.flatMap (Enc.enc (α:=α)))]
    simp_all
   rw[p]at e;obtain ⟨S1,I,_,_,q⟩:=e.split;obtain ⟨J,M,_,f,_⟩:=q.split;have s:((l.flatMap (Enc.enc (α:=α))).take (k*Enc.sz α+c)).length=k*Enc.sz α+c:=by
    rw[Bf,zbh];have:k*Enc.sz α+Enc.sz α<=l.length*Enc.sz α:=by rw[<-Do];exact An _ m
    omega
   rw[s]at f;refine ⟨d,_,_,⟨_,_,rfl⟩,?_,f⟩;intro j t;rw[add_add,By];simp only[Bf,Cy]at t;rw[iP (by omega),n _ (by omega)];simp
  ·have:(Enc.enc z).drop c= []:=Eb (by rw[Enc.len];omega);rw[this]at b;have u:cs= []:=by cases cs with | nil=>rfl | cons x y=>cases b
   subst u;exact ⟨d,[],[],⟨_,_,rfl⟩,by simp,.nil⟩
def loaded (ag:Bool) (us:J3):Option Va:=bif ag then some (.agg us.toArray) else us[0]?
def Y.load_el {c:Nat} (e:kindB P t=some (ag,s)) (f:Enc.sz α=sz) (g:Can w0 S0 is v (lc l)) (h:l[k]? =some z) (i:ev fr x=some (elP v (k*sz+c))) (j:valsR (((Enc.enc z).drop c).take s)=some us) (hl:Bw us.length s=true) (m:(ag||Bw s 1)=true) (b:loaded ag us=some u):
    Y P w0 S0 n fr is ⟨dst,.load t x,ty,pos,aft,gd⟩ u:=by
 intro a w o hs;obtain ⟨B,D,S,⟨E,cap,rfl⟩,d,p⟩:=zwN (cs:=((Enc.enc z).drop c).take s) (r:=((Enc.enc z).drop c).drop s) f g hs h (Bl _ _).symm;have y:=p.valsR j;subst y;have hl':D.length=s:=by simpa using hl
 have A:(ag=true/\D.length=s/\u= .agg D.toArray)\/(ag=false/\D= [u]):=by
  unfold loaded at b;cases ag with
  | true=>left;simp only[cT,Ba]at b;exact ⟨rfl,hl',b.symm⟩
  | false=>
    right;simp only[cF]at b;have d:s=1:=by simpa using m
    refine ⟨rfl,?_⟩
    match D,hl',b with
    | [q],_,b=>simp at b;rw[b]
    | [],hl',_=>simp at hl';omega
    | _::_::_,hl',_=>simp at hl';omega
 have:=zb8 (P:=P) e d A;simp[execOp,o.eval i,elP,Instr.loadAt,Instr.sureAddr,this]
end
theorem zmu (off:Nat): ∀(us:J3) (i:Nat) (cur:Array Va),off+i+us.length<=cur.size->
 ((us.zipIdx i).foldl (λ(cs:Array Va) (p:Va × Nat)=>cs.setIfInBounds (off+p.2) p.1) cur)=(splice cur.toList (off+i) us).toArray
 | [],i,cur,h=>by simp[splice]
 | u::us,i,cur,h=>by simp only[Hk,List.foldl_cons];rw[zmu off us (i+1) _ (by simp at h |-;omega)];congr 1;simp only[Ez]at h;apply Ee;intro k;simp only[splice,Gf,Ew,Cq,Bf,El,Bp,Ez,By,Di,Hi];grind
def zgk (vs:J3) (off:Nat) (us:J3) (h:off+us.length<=vs.length):(splice vs off us).length=vs.length:=by simp[splice];omega
theorem zms (sz:Nat): ∀(Vs:J3) (k:Nat) (cur:Array Va),(∀V∈Vs,V.cells.size=sz)->(k+Vs.length)*sz<=cur.size->
 Instr.fill (λi=>some (i*sz,sz)) cur ((Vs.zipIdx k).map λp=>(p.2,p.1))=some (splice cur.toList (k*sz) (Vs.flatMap λV=>V.cells.toList)).toArray
 | [],k,cur,_,_=>by simp[Instr.fill,splice]
 | V::Vs,k,cur,h,a=>by
   have A:=h V (by simp);simp only[Ez]at a;have e:k*sz+sz<=(k+(Vs.length+1))*sz:=by rw[<-Do];exact An _ (by omega)
   have b:V.cells.toList.length=sz:=by simp[A]
   simp only[Hk,Dg,Instr.fill];have f: ¬(V.cells.size≠sz\/k*sz+V.cells.size>cur.size):=by omega
   rw[iN (by simpa using f)];have c:k*sz+V.cells.toList.length<=cur.toList.length:=by rw[b,Bp];exact Cv e a
   have d:=zmu (k*sz) V.cells.toList 0 cur (by simpa using c);simp only[Ff]at d;have m:V.cells.zipIdx.foldl (λ(cs:Array Va) (x:Va × Nat)=>cs.setIfInBounds (k*sz+x.2) x.1) cur=(splice cur.toList (k*sz) V.cells.toList).toArray:=by rw[<-d,<-Array.foldl_toList];simp
   have n:(splice cur.toList (k*sz) V.cells.toList).length=cur.size:=by rw[zgk _ _ _ c];simp
   have ih:=zms sz Vs (k+1) (splice cur.toList (k*sz) V.cells.toList).toArray (λV A=>h V (by simp[A])) (by grind);refine Eq.trans ?_ (ih.trans ?_)
   ·congr 1
   ·congr 2;have g:(k+1)*sz=k*sz+V.cells.toList.length:=by rw[Do,b]
    have j:(cur.toList.take (k*sz)).length=k*sz:=by rw[Bf];omega
    have l:(cur.toList.take (k*sz)++V.cells.toList).length=(k+1)*sz:=by rw[Cq,j,g]
    generalize B:(List.flatMap (λV=>V.cells.toList) Vs)=Wl;simp only[splice,Ct,B];rw[<-l,Em (Bz _),Dk (Bz _)];simp only[De];refine congrArg (cur.toList.take (k*sz)++ ·) (congrArg (V.cells.toList++ ·) (congrArg (Wl++ ·) ?_));rw[Gj,Eb (by omega),Fc,Gj,Eb (by rw[Cq];omega),Fc,Ge];grind
def zZ [Flat α] (l:List α):(l.flatMap (Flat.vals (α:=α))).length=l.length*Enc.sz α:=by
 induction l with
 | nil=>simp
 | cons x l ih=>simp[ih,zf4,Cj,Hf]
def OwR (w:Wo) (f:Ti) (sz:Nat) (v:Va) (n:Nat) (us:J3):Prop:=
 us.length=n*sz/\((v= .slice none 0 0/\n=0)\/∃g cap cur,v= .slice (some ⟨g,0,none⟩) n cap/\w.heap[g]? =some (.cells cur f (0,0))/\n<=cap/\cap<=maxLen/\cap*sz<=cur.size/\cur.toList.take (n*sz)=us)
theorem OwR.of {f:Ti} (h:w.ownsRow 0 f sz v n us):OwR w f sz v n us:=by
 refine ⟨h.1,?_⟩;rcases h.2 with ⟨a,b⟩ | ⟨g,cap,cur,a,_,b,c,d,e,i⟩
 ·simp_all
 ·grind
def OwR.nil (w:Wo) (f:Ti) (sz:Nat):OwR w f sz (.slice none 0 0) 0 []:=⟨by simp,.inl ⟨rfl,rfl⟩⟩
def OwR.cells {f:Ti} {g cap:Nat} (h:OwR w f sz (.slice (some ⟨g,0,none⟩) n cap) n us) (j:Nat) (u:Va) (b:us[j]? =some u):w.cell? ((⟨g,0,none⟩:Addr).add j)=some u:=by
 rcases h.2 with ⟨a,_⟩ | ⟨B,A,cur,a,c,i,k,l,d⟩
 ·cases a
 ·cases a;have hl:=(Bt.1 b).1;rw[h.1]at hl;have e:(⟨g,0,none⟩:Addr).add j=⟨g,j,none⟩:=by unfold Addr.add;split<;>simp_all
  rw[e,cell_of_row w g j cur f (0,0) c,<-b,<-d,By,iP hl];simp
theorem Ow.ownsRow (h:Ow w v (.sl sz n cs) S): ∃us T e,OwR w e sz v n us/\Ows w us cs T/\S=v.ownBlock.toList++T:=by
 cases h with
 | nil=>exact ⟨[],[],0,OwR.nil w 0 sz,.nil,rfl⟩
 | row b n cap e sz cur vs cs S c a d hs f g=>refine ⟨vs,S,e,⟨?_,.inr ⟨b,cap,cur,rfl,c,a,d,hs,f⟩⟩,g,rfl⟩;have:n*sz<=cap*sz:=An _ a;grind
def Ow.of_ownsRow {T:J4} (h:OwR w e sz v n us) (a:Ows w us cs T):Ow w v (.sl sz n cs) (v.ownBlock.toList++T):=by
 rcases h.2 with ⟨rfl,rfl⟩ | ⟨g,cap,cur,rfl,b,c,d,hs,f⟩
 ·have:us= []:=Bh (by simpa using h.1);subst this;cases a;exact .nil sz
 ·exact .row g n cap e sz cur us cs T b c d hs f a
def zhn (h:b∈v.ownBlock.toList):v.ownBlock=some b:=by simpa using h
def Chg.of_grown (h:w.grownBy w' v.ownBlock) (A:J4) (B: ∀b∈v.ownBlock.toList,b∈A):Chg w w' A:=
 ⟨h.os,h.tape,h.output,h.size,λb a c=>h.block b a (λe=>c (B b (by rw[<-e];simp)))⟩
section
variable {P:Pm} {w0:Wo} {S0:J4}
variable {pos:String}
def partVs (fr:Fr):Nat->List (Nat × Od)->Option J3
 | _,[]=>some []
 | k,(i,o)::r=>bif Bw i k then (match ev fr o,partVs fr (k+1) r with
   | some v,some vs=>some (v::vs)
   | _,_=>none) else none
def zlG {n:Nat} {a:Act} (e:FrOk n fr a): ∀{k:Nat} {ps:List (Nat × Od)} {Vs:J3},partVs fr k ps=some Vs->(ps.map λ(i,x)=>(i,a.eval x))=(Vs.zipIdx k).map λp=>(p.2,p.1)
 | _,[],_,h=>by simp[partVs]at h;subst h;rfl
 | k,(i,o)::r,Vs,h=>by
   unfold partVs at h;cases c:Bw i k with
   | false=>rw[c]at h;cases h
   | true=>
     have hi:i=k:=by simpa using c
     rw[c]at h;simp only[cT]at h;cases b:ev fr o with
     | none=>rw[b]at h;simp at h
     | some v=>
       cases d:partVs fr (k+1) r with
       | none=>rw[b,d]at h;simp at h
       | some vs=>rw[b,d]at h;simp only[Ba]at h;subst h hi;simp[zlG e d,e.eval b]
theorem Bs [Flat α] {Vs:J3} {z:Va} (xs:List α) (p:elemB P t=some (e,sz,by_)) (q:zeroB P e=some z) (s:Enc.sz α=sz:=by exact r) (u:partVs fr 0 ps=some Vs:=by exact r) (c:xs.length=len:=by exact r) (f:Fm (len*sz) 16777216=true:=by exact r) (g:Vs.map (λV=>V.cells.toList)=xs.map Flat.vals:=by exact r):
 Ef P w0 S0 n fr is ⟨d,.buildSlice t len ps.toArray,ty,pos,aft,gd⟩ (λb:Nat=>.slice (some ⟨b,0,none⟩) len len) (λb=>.own (.slice (some ⟨b,0,none⟩) len len) (lc xs)::is):=by
 obtain ⟨h,ti,j,k,_⟩:=zA p;subst s;have I:Vs.length=len:=by rw[<-c];have:=congrArg Ig g;simpa using this
 have J: ∀V∈Vs,V.cells.size=Enc.sz α:=by
  intro V O;have:V.cells.toList∈xs.map Flat.vals:=by rw[<-g];exact Fx.2 ⟨V,O,rfl⟩
  obtain ⟨x,_,v⟩:=Fx.1 this;rw[<-Bp,<-v,zf4]
 have y:Vs.flatMap (λV=>V.cells.toList)=xs.flatMap Flat.vals:=by grind
 intro a w K Q A hs M;have l: ¬len*Enc.sz α>2 ^ 24:=by have:=Cu f;omega
 have D: ∀G:Array Va,((Gn (len*Enc.sz α)).map (G[·% G.size]!)).size=len*Enc.sz α:=λG=>by simp
 have m: ∀G:Array Va,Instr.fill (λi=>some (i*Enc.sz α,Enc.sz α)) ((Gn (len*Enc.sz α)).map (G[·% G.size]!)) (ps.map λ(i,x)=>(i,a.eval x))=some (xs.flatMap Flat.vals).toArray:=by intro G;rw[zlG A u,zms (Enc.sz α) Vs 0 _ J (by simp[I])];congr 2;rw[y];have hl:=zZ xs;simp only[splice,Ev,Hz,Fc,Dy];simp_all
 have B:(execOp a.eval ⟨d,.buildSlice t len ps.toArray,ty,pos,aft,gd⟩).run P w= .ok (.value (.slice (some ⟨w.heap.size,0,none⟩) len len)) (w.alloc (.cells (xs.flatMap Flat.vals).toArray e)):=by
  by_cases o:len*Enc.sz α=0
  ·simp only[execOp,Instr.buildSlice,Sem.run_bind,run_underlying h,Result.andThen_ok,sizeOf,typeInfo,run_program,j,Sem.run_pure,k,iN l,iP o];have:=m #[];simp only[Eh];rw[this];rfl
  ·simp only[execOp,Instr.buildSlice,Sem.run_bind,run_underlying h,Result.andThen_ok,sizeOf,typeInfo,run_program,j,Sem.run_pure,k,iN l,iN o,zgM q];have:=m z.cells;simp only[Eh];rw[this];rfl
 unfold Oper.wp;rw[B];refine M w.heap.size _ ?_;have C:len<=maxLen:=by have E:=Cu f;have F:len<=len*Enc.sz α:=Gk _ (Enc.pos (α:=α));simp only[maxLen];omega
 refine hs.add (Chg.alloc w _ []) _ [w.heap.size] ?_ (by simp) (by simp);subst c;refine .row w.heap.size xs.length xs.length e _ _ _ _ [] (heap_alloc_new w _) (Bz _) C (Fz (by rw[Ep,zZ]:_=_).symm) rfl ?_;rw[Ea,Dk (by rw[zZ];exact Bz _)];exact Ows.of_vals (zba xs)
def app (by_:Nat) (l k:List α):Option (List α):=if (l.length+k.length)*by_<=140737488355328/\l.length+k.length<=9223372036854775807 then some (l++k) else none
def zkG {k r:List α} (h:app by_ l k=some r):r=l++k/\(l.length+k.length)*by_<=140737488355328/\l.length+k.length<=9223372036854775807:=by unfold app at h;simp_all
def oneCells [Flat α] (l:List α): ∀u∈l.flatMap (Flat.vals (α:=α)),u.oneCell'=true:=zmb (zba l)
def Ows.vals {w:Wo} {us vs:J3} {cs:List C} {S:J4} (h:Ows w us cs S) (a:valsC cs=some vs):us=vs:=by obtain ⟨T,A,_⟩:=h.rds;exact A.vals a
def Ow.noS (h:Ow w u c S) (a:valC c=some v):S= []:=by cases h<;>simp_all[valC]
def Ows.noS {w:Wo} : ∀{us vs:J3} {cs:List C} {S:J4},Ows w us cs S->valsC cs=some vs->S= []
 | _,_,[],_,h,_=>by cases h;rfl
 | _,vs,c::cs,_,h,a=>by
   cases h with
   | cons v c S B cs T e f=>
     unfold valsC at a;cases b:valC c with
     | none=>rw[b]at a;simp at a
     | some u=>
       cases d:valsC cs with
       | none=>rw[b,d]at a;simp at a
       | some A=>rw[e.noS b,Ows.noS f d];rfl
def append_room_any {t e e':Ti} {i:TypeInfo} (d:P.underlying t=some (.slice e)) (hi:P.info? e=some i) (g B D:Nat) (cur:Array Va) (f:w.heap[g]? =some (.cells cur e' (0,0))) (a:Addr) (m c:Nat) (A:J3) (hl:A.length=m*i.size) (h: ∀j u,A[j]? =some u->w.cell? (a.add j)=some u) (k: ∀u∈A,u.oneCell'=true) (l:B+m<=D) (n:B*i.size+A.length<=cur.size):
    (Builtin.append_ #[t,t] ty #[.slice (some ⟨g,0,none⟩) B D,.slice (some a) m c]).run P w=
      .ok (.slice (some ⟨g,0,none⟩) (B+m) D) (w.setRow g (cur.toList.take (B*i.size)++A++cur.toList.drop (B*i.size+A.length)).toArray):=by have o:=run_firstCells_some (P:=P) w i.size m a m c A hl h;have b:=run_storeCells_at P g (B*i.size) e' A 0 cur w f (by simpa using n) k;simp only[Ff]at b;simp[Builtin.append_,run_underlying d,sizeOf,typeInfo,hi,Builtin.lenOf,l,o,Addr.add_lit,b]
def append_none_any {t e e':Ti} (a:P.underlying t=some (.slice e)) (b:P.info? e=some ti) (v:Va) (n:Nat) (xs:J3) (c:OwR w e' sz v n xs):
    (Builtin.append_ #[t,t] ty #[v,.slice none 0 0]).run P w= .ok v w:=by
 rcases c.2 with ⟨rfl,rfl⟩ | ⟨g,cap,cur,rfl,f,d,h,i,_⟩
 ·simp[Builtin.append_,run_underlying a,sizeOf,typeInfo,b,Builtin.lenOf,Builtin.firstCells,loadCells,loadCellsFrom]
 ·simp[Builtin.append_,run_underlying a,sizeOf,typeInfo,b,Builtin.lenOf,Builtin.firstCells,loadCells,loadCellsFrom,d,storeCells]
theorem append_raw {z:Va} (o:P.underlying t=some (.slice e)) (p:P.info? e=some ti) (u:ti.zero=some z) (I:ti.size=sz) (J:ti.bytes=by_) (B:z.cells.size=sz) (C:0<sz) (h:OwR w e' sz v n us) (a:Addr) (m c:Nat) (Z:J3) (hl:Z.length=m*sz) (s: ∀j q,Z[j]? =some q->w.cell? (a.add j)=some q) (D: ∀q∈Z,q.oneCell'=true) (E:n+m<=9223372036854775807) (d:(n+m)*by_<=140737488355328):
 ∃v' w' f,(Builtin.append_ #[t,t] ty #[v,.slice (some a) m c]).run P w= .ok v' w'/\OwR w' f sz v' (n+m) (us++Z)/\w.grownBy w' v.ownBlock/\∀b∈v'.ownBlock.toList,b∈v.ownBlock.toList\/w.heap.size<=b:=by
 subst I J;rcases h.2 with ⟨rfl,rfl⟩ | ⟨g,cap,cur,rfl,F,V,K,L,W⟩
 ·have M:us= []:=Bh (by simpa using h.1);subst M;obtain ⟨v',w',G,N,O,X⟩:=run_append_own (P:=P) w 0 t ty e ti z ti.size ti.bytes o p u rfl rfl B C (.slice none 0 0) 0 [] (World.ownsRow_nil w 0 e ti.size) a m c Z hl s D (by simp only[maxLen];exact E) d (Ei _);refine ⟨v',w',e,G,.of N,O,?_⟩;intro b hb';have H:=zhn hb';by_cases Y:m=0
  ·simp_all
  ·have i:=run_append_nil (P:=P) (w:=w) t ty e ti z o p u a m c Z hl s (by omega) (by omega) (by have d:=d;simp only[Dy]at d;omega);rw[G]at i;simp only[Result.ok.injEq]at i;rw[i.1]at H;simp only[Value.ownBlock,Ba]at H;omega
 ·by_cases x:n+m<=cap
  ·have Q:n*ti.size+Z.length<=cur.size:=by rw[hl,<-Cj];exact Cv (An _ x) L
   have i:=append_room_any (P:=P) (ty:=ty) o p g n cap cur F a m c Z hl s D x Q;have R:(us++Z).length=(n+m)*ti.size:=by rw[Cq,h.1,hl,Cj]
   refine ⟨_,_,e',i,⟨R,.inr ⟨g,cap,_,rfl,setRow_heap w g cur _ e' _ F,x,K,?_,?_⟩⟩,⟨rfl,rfl,rfl,by simp,λk _ y=>setRow_other w g k _ (λe=>y (by simp[Value.ownBlock,e]))⟩,λb d=>.inl d⟩
   ·grind
   ·grind
  ·obtain ⟨v',w',S,A,l⟩:=run_append_arg_grows (P:=P) w t ty e ti z ti.size ti.bytes o p u rfl rfl B C ⟨g,0,none⟩ n cap us h.1 h.cells a m c Z hl s (by omega) (by simp only[maxLen];exact E) d;refine ⟨v',w',e,S,.of ?_,⟨l.os,l.tape,l.output,l.size,λk y _=>l.block k y (by simp)⟩,λb hb'=>.inr (A.lt b (zhn hb')).1⟩;exact ⟨A.1,A.2.imp id λ⟨g,cap,cur,T,_,U⟩=>⟨g,cap,cur,T,Ei _,U⟩⟩
theorem append_go [Flat α] {z:Va} {k r:List α} (hs':St w0 S0 (.own v (lc l)::is') w) (p:app by_ l k=some r) (s:elemB P t=some (e,sz,by_)) (d:zeroB P e=some z) (x:Bw z.cells.size sz=true) (g:Enc.sz α=sz) (a:Can w0 S0 is u (lc k)) (hs:St w0 S0 is w):
 ∃v' w',(Builtin.append_ #[t,t] ty #[v,u]).run P w= .ok v' w'/\St w0 S0 (.own v' (lc r)::is') w':=by
 obtain ⟨m,ti,h,y,C⟩:=zA s;obtain ⟨rfl,D,E⟩:=zkG p;have F:ti.zero=some z:=by unfold zeroB at d;rw[h]at d;simpa using d
 have G:z.cells.size=sz:=by simpa using x
 obtain ⟨os,tape,output,size,base,S,hS,H,V⟩:=hs';obtain ⟨A,B,hAB,hA,hB⟩:=hS;obtain ⟨us,T,e',n,hOws,hAT⟩:=Ow.ownsRow hA;have I:us=l.flatMap Flat.vals:=hOws.vals (zba l);have hT:T= []:=hOws.noS (zba l);subst hT;rw[Dl]at hAT;have key: ∃v' w' f,(Builtin.append_ #[t,t] ty #[v,u]).run P w= .ok v' w'/\OwR w' f sz v' (l.length+k.length) (us++k.flatMap Flat.vals)/\w.grownBy w' v.ownBlock/\∀b∈v'.ownBlock.toList,b∈v.ownBlock.toList\/w.heap.size<=b:=by
  rcases a.row hs with ⟨i,_,rfl⟩ | ⟨o,cap,vs,S',rfl,W,J,X,K⟩
  ·have:k= []:=Bh i;subst this;have L:=append_none_any (ty:=ty) m h v l.length us n;refine ⟨v,w,e',L,?_,⟨rfl,rfl,rfl,Bz _,λ_ _ _=>rfl⟩,λb c=>.inl c⟩;simp_all
  ·have M:vs=k.flatMap Flat.vals:=K.vals (zba k);subst M;have N: ∀j q,(k.flatMap (Flat.vals (α:=α)))[j]? =some q->w.cell? (o.add j)=some q:=by grind
   exact append_raw m h F y C G (by rw[<-g];exact Enc.pos) (by rw[<-g];exact n) o k.length cap _ (by rw[J,g]) N (oneCells k) E D
 obtain ⟨v',w',f,i,O,Q,Y⟩:=key;refine ⟨v',w',i,?_⟩;have R:Ow w' v' (lc (l++k)) v'.ownBlock.toList:=by have:=Ow.of_ownsRow (cs:=(l++k).flatMap Enc.enc) (T:=[]) O (by rw[I,<-Cx];exact Ows.of_vals (zba (l++k)));rw[Dl]at this;unfold lc;simp_all
 have Z: ∀q:Va,q.ownBlock.toList.Nodup:=by intro q;cases q.ownBlock<;>simp
 obtain ⟨hndA,hndB,U⟩:=Da.1 (hAB ▸ H);have hBlt:=zfw hB;have hAin: ∀b∈v.ownBlock.toList,b∈A:=λb c=>by rw[hAT];exact c
 have a:=Chg.of_grown Q A hAin;refine ⟨a.os.trans os,a.tape.trans tape,a.output.trans output,Cv size a.size,?_,v'.ownBlock.toList++B,⟨_,B,rfl,R,zgI hB λb c=>a.keep b (hBlt b c) λhbA=>U b hbA b c rfl⟩,?_,?_⟩
 ·intro b c a1;rw[a.keep b (Ej c size) λhbA=>?_]
  ·simp_all
  ·grind
 ·grind
 ·grind
def Ef.append {α:Type} [Flat α] {d:Option Nat} {gd:Option (Nat × Bool)} {t e sz by_:Nat} {x y:Od} {z:Va} {l k r:List α} {v u:Va} {is':J5} (D:J4) (c:app by_ l k=some r) (f:elemB P t=some (e,sz,by_)) (g:zeroB P e=some z) (h:Bw z.cells.size sz=true) (i:Enc.sz α=sz) (j:pulls D is=some (.own v (lc l)::is')) (m:ev fr x=some v) (o:ev fr y=some u) (p:Can w0 S0 is u (lc k)):
    Ef P w0 S0 n fr is ⟨d,.call {callee:=.builtin .append,args:=#[x,y],argTypes:=#[t,t]},ty,pos,aft,gd⟩ (λB:Va=>B) (λB=>.own B (lc r)::is'):=by
 intro a w K Q b hs E;obtain ⟨B,w',q,s⟩:=append_go (ty:=ty) (hs.pulls D j) c f g h i p hs;have A:(execOp a.eval ⟨d,.call {callee:=.builtin .append,args:=#[x,y],argTypes:=#[t,t]},ty,pos,aft,gd⟩).run P w= .ok (.value B) w':=by simp[execOp,resolve,invoke,builtin,b.eval m,b.eval o,q]
 unfold Oper.wp;rw[A];exact E B w' s
def St.nilItem (h:St w0 S0 is w) (sz:Nat):St w0 S0 (.own (.slice none 0 0) (.sl sz 0 [])::is) w:=
 h.add (Chg.refl w []) _ [] (.nil sz) (by simp) (by simp)
def Ef.append_nil [Flat α] {y:Od} {z:Va} {k r:List α} (c:app by_ [] k=some r) (f:elemB P t=some (e,sz,by_)) (g:zeroB P e=some z) (h:Bw z.cells.size sz=true) (i:Enc.sz α=sz) (j:ev fr x=some (.slice none 0 0)) (m:ev fr y=some u) (o:Can w0 S0 is u (lc k)):
    Ef P w0 S0 n fr is ⟨d,.call {callee:=.builtin .append,args:=#[x,y],argTypes:=#[t,t]},ty,pos,aft,gd⟩ (λA:Va=>A) (λA=>.own A (lc r)::is):=by
 intro a w K Q b hs B;obtain ⟨A,w',p,q⟩:=append_go (ty:=ty) (l:=([]:List α)) (hs.nilItem (Enc.sz α)) c f g h i o hs;have s:(execOp a.eval ⟨d,.call {callee:=.builtin .append,args:=#[x,y],argTypes:=#[t,t]},ty,pos,aft,gd⟩).run P w= .ok (.value A) w':=by simp[execOp,resolve,invoke,builtin,b.eval j,b.eval m,p]
 unfold Oper.wp;rw[s];exact B A w' q
end
section
variable {P:Pm} {w0:Wo} {S0:J4}
theorem TW.joinB {m:Option τ} {k:τ->Option R} {c:Code} (Mid:τ->Act->Wo->Prop) (f:TW P w0 S0 m n fr is c (λx e a w=>e= .normal/\Mid x a w)) (h: ∀t a w,Mid t a w->∀r,k t=some r->Q r .normal a w):TW P w0 S0 (m.bind k) n fr is c Q:=by
 intro r b a w g hs;cases d:m with
 | none=>rw[d]at b;cases b
 | some x=>rw[d]at b;simp only[Df]at b;refine wp_mono (f x d a w g hs) ?_;grind
end
section
variable {P:Pm} {Q:Exit->Act->Wo->Prop} {S:Array Bool->Wo->Prop}
def wpS (P:Pm) (ops:Array Oper) (Q:Exit->Act->Wo->Prop) (S:Array Bool->Wo->Prop):Nat->Array Bool->Act->Wo->Prop
 | 0,L,a,w=>Region.ready .any ops L= []/\Q .normal a w
 | f+1,L,a,w=>(Region.ready .any ops L= []->Q .normal a w)/\∀i∈Region.ready .any ops L,wpOp P ops Q i (λh w'=>S (L.setIfInBounds i true) w'/\wpS P ops Q S f (L.setIfInBounds i true) h w') a w
def wpS.any: ∀{f:Nat} {L:Array Bool} {a:Act} {w:Wo},wpS P ops Q S f L a w->wpAny P .any ops Q f L a w
 | 0,_,_,_,h=>h
 | _+1,_,_,_,h=>⟨h.1,λi hi=>wpOp_mono (λ_ _ k=>wpS.any k.2) (h.2 i hi)⟩
def wpS.done {L:Array Bool} (b:Region.ready .any ops L= []) (h:Q .normal a w): ∀f,wpS P ops Q S f L a w
 | 0=>⟨b,h⟩
 | _+1=>⟨λ_=>h,λi hi=>by rw[b]at hi;cases hi⟩
def wpS.all {L:Array Bool} (b:Region.ready .any ops L≠[]) (h: ∀i∈Region.ready .any ops L,wpOp P ops Q i (λA w'=>S (L.setIfInBounds i true) w'/\wpS P ops Q S f (L.setIfInBounds i true) A w') a w):wpS P ops Q S (f+1) L a w:=
 ⟨λc=>absurd c b,h⟩
def waits (ops:Array Oper) (i B:Nat):Bool:=(Gs ops.size).all λj=>!B.testBit j||((ops[j]?).map λo=>o.after.toList.any λe=>Region.binds .any e&&(Bw e.on i||B.testBit e.on)).getD false
def noneOf (B:Nat) (L:Array Bool):Prop:=∀j,B.testBit j=true->L.getD j false=false
def noneOf.set {B:Nat} {L:Array Bool} (g:waits ops i B=true) (A: ∀j,B.testBit j=true->j<ops.size) (hi:L.getD i false=false) (d:noneOf B L) (h:j∈Region.ready .any ops L):noneOf B (L.setIfInBounds j true):=by
 intro k c;by_cases f:j=k
 ·exfalso;subst f;obtain ⟨-,o,l,m⟩:=mem_ready.1 h;have:=Ey.1 g j (List.mem_range.2 (A j c));rw[c,l]at this;simp only[Bool.not_true,Bool.false_or,Dm,Option.getD_some,List.any_eq_true,Cg,Hq]at this;obtain ⟨e,n,p,a⟩:=this;have b:=m e (Array.mem_toList_iff.1 n) p;rcases a with a | a
  ·rw[Ec a,hi]at b;cases b
  ·rw[d _ a]at b;cases b
 ·rw[getD_set_ne false f];exact d k c
theorem wpS.first {B:Nat} {V:Oper} {Su:Wo->Prop} (hi:ops[i]? =some V) (q:Region.noSelect ops=true) (hQ: ∀c a w,Q (.panic c) (a.put V.dst v) w->Q (.panic c) a w) (u:waits ops i B=true) (W: ∀j,B.testBit j=true->j<ops.size) (Z: ∀L w,noneOf B L->S L w->Su w) (T: ∀L w,S (L.setIfInBounds i true) w↔S L w): ∀(f:Nat) (L:Array Bool) (a:Act) (w:Wo),
 (∀j U,ops[j]? =some U->j≠i->L.getD j true=false->(∀e∈U.after,Region.binds .any e=true->e.on≠i)->V.apart ops U=true)->
 i∈Region.ready .any ops L->noneOf B L->YieldsIf P ops Su V v a->S L w->wpS P ops Q S f (L.setIfInBounds i true) (a.put V.dst v) w->wpS P ops Q S (f+1) L a w:=by
 intro f;induction f with
 | zero=>
   intro L a w _ g l n hs H;refine ⟨λh=>(by rw[h]at g;cases g),λj m=>?_⟩;by_cases d:j=i
   ·subst d;exact n.wpOp hi (Z L w l hs) ⟨(T L w).2 hs,H⟩
   ·have:=ready_mono m d;rw[H.1]at this;trivial
 | succ f ih=>
   intro L a w s g l n hs H;refine ⟨λh=>(by rw[h]at g;cases g),λj m=>?_⟩;by_cases d:j=i
   ·subst d;exact n.wpOp hi (Z L w l hs) ⟨(T L w).2 hs,H⟩
   ·have x:=H.2 j (ready_mono m d);obtain ⟨y,U,o,J⟩:=mem_ready.1 m;have z:L.getD i false=false:=by have K:=(mem_ready.1 g).1;grind
    have A: ∀e∈U.after,Region.binds .any e=true->e.on≠i:=λe M l N=>by grind
    have C:=wpOp_putIf o (s j U o d y A) (λcs b=>Region.noSelect_spec q i V cs b hi) (λcs b=>Region.noSelect_spec q j U cs b o) hQ n x;refine wpOp_mono (λa' w' D=>?_) C;obtain ⟨E,p,t⟩:=D;rw[Array.setIfInBounds_comm _ _ (Ne.symm d)]at p t;refine ⟨(T _ _).1 p,ih (L.setIfInBounds j true) a' w' (λk ok F G O I=>?_) (ready_mono g (Ne.symm d)) (l.set u W z m) E ((T _ _).1 p) t⟩;refine s k ok F G ?_ I;by_cases R:j=k
    ·simp_all
    ·simp_all
end
def bm (n L:Nat):Array Bool:=⟨(Gs n).map L.testBit⟩
def zxr (n:Nat):bm n 0=Hp n false:=by
 apply Array.ext
 ·simp[bm]
 ·intro i a b;simp[bm]
theorem zo2 (n L i:Nat):(bm n L).setIfInBounds i true=bm n (L ||| 2 ^ i):=by
 apply Array.ext
 ·simp[bm]
 ·intro j a b;rw[Array.getElem_setIfInBounds (by simpa using a)];simp only[bm,List.getElem_toArray,List.getElem_map,List.getElem_range,Ib,Gu];grind
def zkH {a:Nat} :Dj a b=true↔a<b:=by unfold Dj;rw[Nat.ble_eq];exact Iff.rfl
def zvv {a:Nat} :Dj a b=false↔b<=a:=by rw[<-Bool.not_eq_true,zkH];omega
def zvw (n L j:Nat):(bm n L).getD j false=(Dj j n&&L.testBit j):=by
 by_cases h:j<n
 ·have:=zkH.2 h;simp[bm,h,this]
 ·have:=zvv.2 (Nat.le_of_not_lt h);simp[bm,h,this]
abbrev Hd:=List (Item × Nat)
variable {H:Hd}
def hl' (n L:Nat):Hd->J5
 | []=>[]
 | (i,b)::H=>bif Dj b n&&L.testBit b then hl' n L H else i::hl' n L H
def hlA (L:Array Bool) (H:Hd):J5:=(H.filter λp=>!L.getD p.2 false).map Prod.fst
theorem zpa (n L:Nat) (H:Hd):hlA (bm n L) H=hl' n L H:=by
 induction H with
 | nil=>rfl
 | cons p H ih=>obtain ⟨i,b⟩:=p;unfold hl';rw[<-ih];unfold hlA;rw[Fs];simp only[zvw];grind
def hb' (n B:Nat):Hd->J5
 | []=>[]
 | (i,b)::H=>bif Dj b n&& !B.testBit b then hb' n B H else i::hb' n B H
def nob (i:Nat):Hd->Bool
 | []=>true
 | (_,b)::H=>!Nat.beq b i&&nob i H
theorem zjE {w:Wo} : ∀{is js:J5} {S:J4},is.Sublist js->sats w js S->∃T,sats w is T/\T.Sublist S
 | _,_,_,.slnil,h=>⟨_,h,.refl _⟩
 | _,_,_,.cons _ h,⟨A,B,rfl,_,a⟩=>by obtain ⟨T,b,c⟩:=zjE h a;grind
 | _,_,_,.cons_cons _ h,⟨A,B,rfl,d,a⟩=>by obtain ⟨T,b,c⟩:=zjE h a;exact ⟨A++T,⟨A,T,rfl,d,b⟩,(List.append_sublist_append_left A).2 c⟩
def St.sublist {w0:Wo} {S0:J4} {js:J5} (h:is.Sublist js) (hs:St w0 S0 js w):St w0 S0 is w:=by obtain ⟨os,tape,output,size,base,S,A,c,d⟩:=hs;obtain ⟨T,B,a⟩:=zjE h A;exact ⟨os,tape,output,size,base,T,B,a.nodup c,λb e=>d b (a.subset e)⟩
def sfx (is js:J5):J5:=is.drop (is.length - js.length)
def St.sfx {w0 w:Wo} {S0:J4} {is js:J5} (h:Sl.sfx is js=js) (hs:St w0 S0 is w):St w0 S0 js w:=by rw[<-h];exact hs.sublist (List.drop_sublist ..)
def zvQ {n B:Nat} {L:Array Bool} (hl:L.size=n) (c:noneOf B L): ∀H:Hd,(hb' n B H).Sublist (hlA L H)
 | []=>.slnil
 | (i,b)::H=>by
   have ih:=zvQ hl c H;unfold hb' hlA;rw[Fs];cases a:Dj b n&& !B.testBit b with
   | true=>
     simp only[cT];split
     ·exact .cons _ ih
     ·trivial
   | false=>
     have:L.getD b false=false:=by
      rw[Gp]at a;rcases a with a | a
      ·have:=zvv.1 a;simp_all
      ·exact c b (by simpa using a)
     simp only[this,Bool.not_false,iT,cF,Dg];exact .cons_cons _ ih
theorem zue {i:Nat} {L:Array Bool} : ∀{H:Hd},nob i H=true->hlA (L.setIfInBounds i true) H=hlA L H
 | [],_=>rfl
 | (j,b)::H,h=>by
   unfold nob at h;rw[Cg]at h;have a:i≠b:=by intro e;simp_all
   have ih:=zue (L:=L) h.2;unfold hlA at ih |-
   rw[Fs,Fs,getD_set_ne false a];grind
section
variable {P:Pm} {w0:Wo} {S0:J4}
variable (P w0 S0) in
def TA (m:Option R) (n:Nat) (fr:Fr) (is:J5) (H:Hd) (ops:Array Oper) (fuel L:Nat) (Q:R->Exit->Act->Wo->Prop):Prop:=
 ∀r,m=some r->∀a w,FrOk n fr a->St w0 S0 is w->wpS P ops (NoPanic (Q r)) (λL=>St w0 S0 (hlA L H)) fuel (bm ops.size L) a w
def TW.draw {id:Nat} (b:P.follows .mixedOrders=true) (h:TA P w0 S0 m n fr is H ops ops.size 0 Q):
    TW P w0 S0 m n fr is (.region id ops true) Q:=by intro r c a w d hs;refine wp_region_noPanic (wp_region_any b ?_);rw[<-zxr];exact (h r c a _ d (hs.same (Chg.drew w []))).any
def Ai {p:Option X} {k:X->Option R} (h: ∀x,p=some x->TA P w0 S0 (k x) n fr is H ops fuel L Q):
    TA P w0 S0 (p.bind k) n fr is H ops fuel L Q:=by
 intro r b a w c hs;cases p with
 | none=>cases b
 | some x=>exact h x rfl r b a w c hs
def NoPanic.keep {Q:Exit->Act->Wo->Prop} : ∀c a w,NoPanic Q (.panic c) (a.put d v) w->NoPanic Q (.panic c) a w:=λ_ _ _ h=>h.elim
def rdyB (ops:Array Oper) (i L B:Nat):Bool:=Region.noSelect ops&&(Region.free .any ops (bm ops.size L) i&&((Region.ready .any ops (bm ops.size L)).contains i&&(waits ops i B&&(Dj B (2 ^ ops.size)&&Bw (L &&& B) 0))))
theorem TA.first {H:Hd} {ops:Array Oper} {fuel L i B:Nat} {o:Oper} {v:Va} {Q:Exit->Act->Wo->Prop} {a:Act} {w:Wo} (hi:ops[i]? =some o) (b:rdyB ops i L B=true) (d:nob i H=true) (e:YieldsIf P ops (St w0 S0 (hb' ops.size B H)) o v a) (hs:St w0 S0 (hl' ops.size L H) w) (h:wpS P ops (NoPanic Q) (λL=>St w0 S0 (hlA L H)) fuel (bm ops.size (L ||| 2 ^ i)) (a.put o.dst v) w):wpS P ops (NoPanic Q) (λL=>St w0 S0 (hlA L H)) (fuel+1) (bm ops.size L) a w:=by
 unfold rdyB at b;simp only[Cg]at b;obtain ⟨g,l,m,n,p,q⟩:=b;have s:=zkH.1 p;have t:L &&& B=0:=by simpa using q
 have A: ∀j,B.testBit j=true->j<ops.size:=λj c=>Nat.lt_of_not_le λu=>by rw[Nat.testBit_lt_two_pow (Ej s (Nat.pow_le_pow_right (by decide) u))]at c;cases c
 have key:wpS P ops (NoPanic Q) (λL w=>L.size=ops.size/\St w0 S0 (hlA L H) w) (fuel+1) (bm ops.size L) a w:=by
  refine wpS.first (B:=B) (Su:=St w0 S0 (hb' ops.size B H)) hi g NoPanic.keep n A (λL w x hs=>hs.2.sublist (zvQ hs.1 x H)) (λL w=>?_) fuel _ a w (Region.free_spec hi l) (by simpa using m) (λj c=>?_) e ⟨by simp[bm],by rw[zpa];exact hs⟩ ?_
  ·rw[Array.size_setIfInBounds,zue d]
  ·rw[zvw];have:=congrArg (·.testBit j) t;grind
  ·rw[zo2];have: ∀(f:Nat) (L:Array Bool) (a:Act) (w:Wo),L.size=ops.size->wpS P ops (NoPanic Q) (λL=>St w0 S0 (hlA L H)) f L a w->wpS P ops (NoPanic Q) (λL w=>L.size=ops.size/\St w0 S0 (hlA L H) w) f L a w:=by
    intro f;induction f with
    | zero=>exact λL a w _ h=>h
    | succ f ih=>exact λL a w hl h=>⟨h.1,λi hi=>wpOp_mono (λD w' k=>⟨⟨by simpa using hl,k.1⟩,ih _ _ _ (by simpa using hl) k.2⟩) (h.2 i hi)⟩
   exact this _ _ _ _ (by simp[bm]) h
 have: ∀(f:Nat) (L:Array Bool) (a:Act) (w:Wo),wpS P ops (NoPanic Q) (λL w=>L.size=ops.size/\St w0 S0 (hlA L H) w) f L a w->wpS P ops (NoPanic Q) (λL=>St w0 S0 (hlA L H)) f L a w:=by
  intro f;induction f with
  | zero=>exact λL a w h=>h
  | succ f ih=>exact λL a w h=>⟨h.1,λi hi=>wpOp_mono (λD w' k=>⟨k.1.2,ih _ _ _ k.2⟩) (h.2 i hi)⟩
 simp_all
def TA.y (i B:Nat) {d:Nat} (hi:ops[i]? =some o) (e:Y P w0 S0 n fr (hb' ops.size B H) o v) (f:Gd ops fr o true) (g:o.dst=some d) (j:Dj d n=true) (k:rdyB ops i L B=true) (l:nob i H=true) (A:sfx is (hl' ops.size L H)=hl' ops.size L H) (h:TA P w0 S0 m n ((d,v)::fr) is H ops fuel (L ||| 2 ^ i) Q):TA P w0 S0 m n fr is H ops (fuel+1) L Q:=by intro r p a w b c;refine TA.first hi k l (.inl ⟨f.wanted b,λw' q=>e a w' b q⟩) (c.sfx A) ?_;rw[g];exact h r p _ w (b.put j v) c
def TA.off (i:Nat) {d:Nat} (hi:ops[i]? =some o) (e:Gd ops fr o false) (f:o.dst=some d) (g:Dj d n=true) (j:rdyB ops i L 0=true) (k:nob i H=true) (A:sfx is (hl' ops.size L H)=hl' ops.size L H) (h:TA P w0 S0 m n ((d,undef)::fr) is H ops fuel (L ||| 2 ^ i) Q):TA P w0 S0 m n fr is H ops (fuel+1) L Q:=by intro r l a w b c;refine TA.first (B:=0) hi j k (.inr ⟨e.wanted b,rfl⟩) (c.sfx A) ?_;rw[f];exact h r l _ w (b.put g undef) c
def TX (P:Pm) (w0:Wo) (S0:J4) (m:Option R) (n:Nat) (fr:Fr) (is:J5) (H:Hd) (ops:Array Oper) (fuel L:Nat) (Q:R->Exit->Act->Wo->Prop) (i:Nat):Prop:=
 ∀r,m=some r->∀a w,FrOk n fr a->St w0 S0 is w->
  wpOp P ops (NoPanic (Q r)) i (λh w'=>St w0 S0 (hl' ops.size (L ||| 2 ^ i) H) w'/\wpS P ops (NoPanic (Q r)) (λL=>St w0 S0 (hlA L H)) fuel (bm ops.size (L ||| 2 ^ i)) h w') a w
def TX.ef {d:Nat} {val:X->Va} {is':X->J5} (hi:ops[i]? =some o) (c:Ef P w0 S0 n fr is o val is') (e:Gd ops fr o true) (f:o.dst=some d) (g:Dj d n=true) (A: ∀x,sfx (is' x) (hl' ops.size (L ||| 2 ^ i) H)=hl' ops.size (L ||| 2 ^ i) H) (h: ∀x,TA P w0 S0 m n ((d,val x)::fr) (is' x) H ops fuel (L ||| 2 ^ i) Q):TX P w0 S0 m n fr is H ops fuel L Q i:=by intro r j a w b hs;unfold wpOp;simp only[hi,e.wanted b,iT];refine .inl (c a w _ _ b hs λx w' hs'=>?_);rw[f];exact ⟨hs'.sfx (A x),h x r j _ _ (b.put g _) hs'⟩
def TX.ef0 {val:X->Va} {is':X->J5} (hi:ops[i]? =some o) (c:Ef P w0 S0 n fr is o val is') (d:Gd ops fr o true) (e:o.dst=none) (A: ∀x,sfx (is' x) (hl' ops.size (L ||| 2 ^ i) H)=hl' ops.size (L ||| 2 ^ i) H) (h: ∀x,TA P w0 S0 m n fr (is' x) H ops fuel (L ||| 2 ^ i) Q):TX P w0 S0 m n fr is H ops fuel L Q i:=by intro r f a w b hs;unfold wpOp;simp only[hi,d.wanted b,iT];refine .inl (c a w _ _ b hs λx w' hs'=>?_);rw[e];exact ⟨hs'.sfx (A x),h x r f _ _ b hs'⟩
def TX.y {d:Nat} (hi:ops[i]? =some o) (c:Y P w0 S0 n fr is o v) (e:Gd ops fr o true) (f:o.dst=some d) (g:Dj d n=true) (A:sfx is (hl' ops.size (L ||| 2 ^ i) H)=hl' ops.size (L ||| 2 ^ i) H) (h:TA P w0 S0 m n ((d,v)::fr) is H ops fuel (L ||| 2 ^ i) Q):TX P w0 S0 m n fr is H ops fuel L Q i:=by intro r j a w b hs;unfold wpOp;simp only[hi,e.wanted b,iT];refine .inl ?_;unfold Oper.wp;rw[c a w b hs];refine ⟨hs.sfx A,?_⟩;rw[f];exact h r j _ _ (b.put g _) hs
def TA.all {H:Hd} {ops:Array Oper} {fuel L:Nat} (A:J4) (b:Region.ready .any ops (bm ops.size L)=A) (c:A≠[]) (h: ∀i∈A,TX P w0 S0 m n fr is H ops fuel L Q i):
    TA P w0 S0 m n fr is H ops (fuel+1) L Q:=by intro r d a w e hs;refine wpS.all (by rw[b];exact c) λi hi=>?_;rw[b]at hi;rw[zo2,zpa];exact h i hi r d a w e hs
def TA.one (i:Nat) (a:Region.ready .any ops (bm ops.size L)= [i]) (h:TX P w0 S0 m n fr is H ops fuel L Q i):
    TA P w0 S0 m n fr is H ops (fuel+1) L Q:=
 TA.all [i] a (by simp) λj b=>by rw[Dh.1 b];exact h
def TA.nil (b:Region.ready .any ops (bm ops.size L)= []) (h:TE w0 S0 m n fr is .normal Q):TA P w0 S0 m n fr is H ops fuel L Q:=
 λr c a w d hs=>wpS.done b (NoPanic.normal (h r c a w d hs)) fuel
end
theorem zwh {js:J5} (h:is.Perm js): ∀S,sats w is S->∃T,sats w js T/\T.Perm S:=by
 induction h with
 | nil=>exact λS E=>⟨S,E,.refl _⟩
 | cons i _ ih=>rintro S ⟨A,B,rfl,a,b⟩;obtain ⟨T,c,d⟩:=ih B b;exact ⟨A++T,⟨A,T,rfl,a,c⟩,List.Perm.append_left A d⟩
 | swap i j l=>rintro S ⟨A,_,rfl,a,B,D,rfl,b,c⟩;refine ⟨B++(A++D),⟨B,_,rfl,b,A,D,rfl,a,c⟩,?_⟩;grind
 | trans _ _ F G=>grind
def St.permL {w0:Wo} {S0:J4} {js:J5} (c:is.Perm js) (h:St w0 S0 is w):St w0 S0 js w:=by obtain ⟨os,tape,output,size,base,S,A,d,e⟩:=h;obtain ⟨T,B,a⟩:=zwh c S A;exact ⟨os,tape,output,size,base,T,B,a.nodup_iff.2 d,λb f=>e b (a.mem_iff.1 f)⟩
def EfA (P:Pm) (w0:Wo) (S0:J4) (n:Nat) (fr:Fr) (is:J5) (o:Oper) (val:X->Va) (is':X->J5):Prop:=
 ∀a S1,(∀{v c},Base w0 S0 v c->Base a S1 v c)->Ef P a S1 n fr is o val is'
def EfA.frame {P:Pm} {w0:Wo} {S0:J4} {n:Nat} {fr:Fr} {is:J5} {o:Oper} {X:Type} {val:X->Va} {is':X->J5} (h:EfA P w0 S0 n fr is o val is') (Z:J5):Ef P w0 S0 n fr (is++Z) o val (λx=>is' x++Z):=by intro a w K Q b hs D;obtain ⟨A,B,d,e⟩:=hs.frame;exact h w A (λ{v c} f=>d v c f.can) a w K Q b B λx w' hs'=>D x w' (e _ _ hs')
structure Side where
 i:Nat
 d:Nat
 X:Type
 val:X->Va
 new:X->J5
abbrev Tau:=List (Σ s:Side,Option s.X)
def tIt:Tau->J5
 | []=>[]
 | ⟨s,some x⟩::τ=>s.new x++tIt τ
 | ⟨_,none⟩::τ=>tIt τ
def tBit:Tau->Nat->Nat
 | [],L=>L
 | ⟨s,some _⟩::τ,L=>tBit τ (L ||| 2 ^ s.i)
 | ⟨_,none⟩::τ,L=>tBit τ L
def tNo:Tau->J4
 | []=>[]
 | ⟨_,some _⟩::τ=>tNo τ
 | ⟨s,none⟩::τ=>s.i::tNo τ
def tFr (a:Act):Tau->Prop
 | []=>True
 | ⟨s,some x⟩::τ=>a.tmps[s.d]? =some (s.val x)/\tFr a τ
 | ⟨_,none⟩::τ=>tFr a τ
def zld (i:Nat): ∀(τ:Tau) (L:Nat),tBit τ (L ||| 2 ^ i)=tBit τ L ||| 2 ^ i
 | [],_=>rfl
 | ⟨s,some _⟩::τ,L=>by show tBit τ (L ||| 2 ^ i ||| 2 ^ s.i)=_;rw[Ic,Nat.or_comm (2 ^ i),<-Ic,zld i τ];rfl
 | ⟨_,none⟩::τ,L=>zld i τ L
theorem zo0 (i:Nat): ∀(τ:Tau),i∈tNo τ->∃s∈τ.map Sigma.fst,s.i=i/\∀x:s.X,∃τ':Tau,τ'.map Sigma.fst=τ.map Sigma.fst/\(tNo τ').length+1=(tNo τ).length/\(∀L,tBit τ' L=tBit τ L ||| 2 ^ i)/\(s.new x++tIt τ).Perm (tIt τ')/\
 ∀a F:Act,(∀k,k≠s.d->F.tmps[k]? =a.tmps[k]?)->F.tmps[s.d]? =some (s.val x)->(∀t∈τ.map Sigma.fst,t.i=s.i\/t.d≠s.d)->(τ.map λp=>p.1.i).Nodup->tFr a τ->tFr F τ'
 | [],h=>by cases h
 | ⟨s,none⟩::τ,h=>by
   by_cases hs:s.i=i
   ·refine ⟨s,by simp,hs,λx=>⟨⟨s,some x⟩::τ,by simp,by simp[tNo],λL=>?_,.refl _,λa F c f g j e=>⟨f,?_⟩⟩⟩
    ·show tBit τ (L ||| 2 ^ s.i)=_;rw[zld,hs];rfl
    ·have key: ∀τ:Tau,(∀p∈τ,p.1.d≠s.d)->tFr a τ->tFr F τ:=by
      intro τ;induction τ with
      | nil=>exact λ_ _=>trivial
      | cons p τ ih=>
        intro l b;obtain ⟨t,o⟩:=p;cases o with
        | none=>exact ih (λq m=>l q (Cr _ m)) b
        | some y=>exact ⟨by rw[c _ (l ⟨t,some y⟩ (Ek ..))];exact b.1,ih (λq m=>l q (Cr _ m)) b.2⟩
     refine key τ (λp l=>?_) e;simp_all
   ·have E:i∈tNo τ:=by
     rcases Dd.1 h with h | h
     ·omega
     ·exact h
    obtain ⟨t,b,n,v⟩:=zo0 i τ E;refine ⟨t,by simp at b |-;exact .inr b,n,λx=>?_⟩;obtain ⟨τ',w,D,z,A,B⟩:=v x;refine ⟨⟨s,none⟩::τ',by simp[w],by simp[tNo];omega,z,A,λa F c f g j e=>B a F c f (λu C=>g u (Cr _ C)) (En.1 j).2 e⟩
 | ⟨s,some y⟩::τ,h=>by
   obtain ⟨t,b,n,v⟩:=zo0 i τ h;refine ⟨t,by simp at b |-;exact .inr b,n,λx=>?_⟩;obtain ⟨τ',w,D,z,A,B⟩:=v x;refine ⟨⟨s,some y⟩::τ',by simp[w],D,λL=>z _,?_,λa F c f g j e=>⟨?_,B a F c f (λu C=>g u (Cr _ C)) (En.1 j).2 e.2⟩⟩
   ·show (t.new x++(s.new y++tIt τ)).Perm (s.new y++tIt τ');rw[<-De];exact (List.Perm.append_right _ Ft).trans (by rw[De];exact List.Perm.append_left _ A)
   ·rw[c s.d ?_]
    ·exact e.1
    ·grind
def nokey (d:Nat):Fr->Bool
 | []=>true
 | (k,_)::fr=>!Nat.beq k d&&nokey d fr
def zsU {d k:Nat} {v:Va} : ∀{fr:Fr},nokey d fr=true->lk k fr=some v->k≠d
 | [],_,h=>by cases h
 | (j,u)::fr,h,a=>by
   unfold nokey at h;rw[Cg,Gi]at h;unfold lk at a;cases b:Bw k j with
   | true=>intro e;simp_all
   | false=>rw[b]at a;exact zsU h.2 a
theorem zmV {d:Nat} (h:k≠d):(a.put (some d) v).tmps[k]? =a.tmps[k]?:=by simp only[Act.put];grind
def FrOk.stay {d:Nat} (h:FrOk n fr a) (c:nokey d fr=true) (v:Va):FrOk n fr (a.put (some d) v):=
 ⟨by simp[Act.put,h.size],h.defers,λk u b=>by rw[zmV (zsU c b)];exact h.get k u b⟩
def othr (i d:Nat):List Side->Bool
 | []=>true
 | t::σ=>!Nat.beq t.i i&&(!Nat.beq t.d d&&othr i d σ)
def sideC (fr fr0:Fr) (H:Hd):List Side->Bool
 | []=>true
 | s::σ=>nokey s.d fr&&(nokey s.d fr0&&(nob s.i H&&(othr s.i s.d σ&&sideC fr fr0 H σ)))
def zhM {i d:Nat} : ∀{σ:List Side},othr i d σ=true->∀t∈σ,t.i≠i/\t.d≠d
 | t::σ,h,u,a=>by
   unfold othr at h;simp only[Cg,Gi]at h;obtain ⟨b,c,f⟩:=h;rcases Dd.1 a with rfl | a
   ·exact ⟨λe=>(by rw[e,Hg]at b;cases b),λe=>(by rw[e,Hg]at c;cases c)⟩
   ·exact zhM f u a
theorem zkl {fr fr0:Fr} {H:Hd} : ∀{σ:List Side},sideC fr fr0 H σ=true->(∀s∈σ,nokey s.d fr=true/\nokey s.d fr0=true/\nob s.i H=true)/\(∀s∈σ,∀t∈σ,t.i=s.i\/t.d≠s.d)/\(σ.map (·.i)).Nodup
 | [],_=>⟨λs h=>(by cases h),λs h=>(by cases h),Et⟩
 | s::σ,h=>by
   unfold sideC at h;simp only[Cg]at h;obtain ⟨n,o,p,g,j⟩:=h;obtain ⟨a,b,c⟩:=zkl j;refine ⟨λt f=>?_,λt f u k=>?_,En.2 ⟨λh=>?_,c⟩⟩
   ·grind
   ·rcases Dd.1 f with e | l<;>rcases Dd.1 k with e' | m
    ·simp_all
    ·rw[e];exact .inr (zhM g u m).2
    ·rw[e'];exact .inr (Ne.symm (zhM g t l).2)
    ·simp_all
   ·obtain ⟨t,f,e⟩:=Fx.1 h;exact (zhM g t f).1 e
def hl_or {n i L:Nat} : ∀{H:Hd},nob i H=true->hl' n (L ||| 2 ^ i) H=hl' n L H
 | [],_=>rfl
 | (j,b)::H,h=>by
   unfold nob at h;rw[Cg,Gi]at h;have a:i≠b:=λe=>by rw[e,Hg]at h;cases h.1
   unfold hl';rw[hl_or h.2,Ib,Gu,dF a,Bool.or_false]
def zmw {n:Nat} {H:Hd} : ∀{τ:Tau} {L:Nat},(∀s∈τ.map Sigma.fst,nob s.i H=true)->hl' n (tBit τ L) H=hl' n L H
 | [],_,_=>rfl
 | ⟨s,some _⟩::τ,L,h=>by show hl' n (tBit τ (L ||| 2 ^ s.i)) H=_;rw[zmw (λt a=>h t (Cr _ a)),hl_or (h s (Ek ..))]
 | ⟨_,none⟩::τ,L,h=>zmw (τ:=τ) λt a=>h t (Cr _ a)
def chkT (ops:Array Oper) (j:Option Nat):J4->J4->Nat->Bool
 | pend,[],L=>!(Region.ready .any ops (bm ops.size L)).isEmpty&&(Region.ready .any ops (bm ops.size L)).all λi=>pend.contains i||decide (j=some i)
 | pend,i::σ,L=>chkT ops j (i::pend) σ L&&chkT ops j pend σ (L ||| 2 ^ i)
def znd {ops:Array Oper} {j:Option Nat} : ∀{τ:Tau} {pend:J4} {L:Nat},chkT ops j pend (τ.map λp=>p.1.i) L=true->
    Region.ready .any ops (bm ops.size (tBit τ L))≠[]/\∀i∈Region.ready .any ops (bm ops.size (tBit τ L)),i∈tNo τ\/i∈pend\/j=some i
 | [],pend,L,h=>by
   simp only[Ie,chkT,Cg,Ey,Hq,decide_eq_true_eq]at h
   exact ⟨λe=>(by have:=h.1;rw[show Region.ready .any ops (bm ops.size L)= [] from e]at this;cases this),λi hi=>.inr ((h.2 i hi).imp (λh=>by simpa using h) id)⟩
 | ⟨s,some _⟩::τ,pend,L,h=>by
   simp only[Dg,chkT,Cg]at h
   exact znd (τ:=τ) h.2
 | ⟨s,none⟩::τ,pend,L,h=>by
   simp only[Dg,chkT,Cg]at h
   obtain ⟨a,b⟩:=znd (τ:=τ) h.1
   refine ⟨a,λi hi=>?_⟩
   rcases b i hi with h | h | h
   ·exact .inl (Cr _ h)
   ·rcases Dd.1 h with rfl | h
    ·exact .inl (Ek ..)
    ·simp_all
   ·simp_all
def chkR (ops:Array Oper) (i B:Nat):J4->Nat->Bool
 | [],L=>rdyB ops i L B
 | j::σ,L=>chkR ops i B σ L&&chkR ops i B σ (L ||| 2 ^ j)
def zqd {ops:Array Oper} {i B:Nat} : ∀{τ:Tau} {L:Nat},chkR ops i B (τ.map λp=>p.1.i) L=true->rdyB ops i (tBit τ L) B=true
 | [],_,h=>h
 | ⟨s,some _⟩::τ,L,h=>by simp only[Dg,chkR,Cg]at h;exact zqd (τ:=τ) h.2
 | ⟨s,none⟩::τ,L,h=>by simp only[Dg,chkR,Cg]at h;exact zqd (τ:=τ) h.1
def znr {a:Act} {d:Nat} {v:Va} : ∀{τ:Tau},(∀t∈τ.map Sigma.fst,t.d≠d)->tFr a τ->tFr (a.put (some d) v) τ
 | [],_,_=>trivial
 | ⟨_,none⟩::τ,b,c=>znr (τ:=τ) (λq e=>b q (Cr _ e)) c
 | ⟨t,some y⟩::τ,b,c=>⟨by rw[zmV (b t (Ek ..))];exact c.1,znr (τ:=τ) (λq e=>b q (Cr _ e)) c.2⟩
section
variable {P:Pm} {w0:Wo} {S0:J4} {fr0:Fr} {σ:List Side}
def Side.ok (P:Pm) (w0:Wo) (S0:J4) (n:Nat) (fr:Fr) (ops:Array Oper) (s:Side):Prop:=
 ∃o ty pos aft,ops[s.i]? =some (⟨some s.d,o,ty,pos,aft,none⟩:Oper)/\Dj s.d n=true/\EfA P w0 S0 n fr [] ⟨some s.d,o,ty,pos,aft,none⟩ s.val s.new
variable (P w0 S0) in
def TM (m:Option R) (n:Nat) (fr0:Fr) (σ:List Side) (fr:Fr) (is:J5) (H:Hd) (ops:Array Oper) (fuel L:Nat) (Q:R->Exit->Act->Wo->Prop):Prop:=
 (∀s∈σ,s.ok P w0 S0 n fr0 ops)->∀r,m=some r->∀τ:Tau,τ.map Sigma.fst=σ->∀a w,FrOk n fr a->FrOk n fr0 a->tFr a τ->St w0 S0 (is++tIt τ) w->
   wpS P ops (NoPanic (Q r)) (λL=>St w0 S0 (hlA L H)) (fuel+(tNo τ).length) (bm ops.size (tBit τ L)) a w
def St.left {w0:Wo} {S0:J4} {js:J5} (h:St w0 S0 (is++js) w):St w0 S0 is w:=h.sublist (List.sublist_append_left ..)
def TM.side (m: ∀s∈σ,s.ok P w0 S0 n fr0 ops) (p:sideC fr fr0 H σ=true) {Q':Exit->Act->Wo->Prop} {τ:Tau} (M:τ.map Sigma.fst=σ) (hi:i∈tNo τ) (T: ∀w,St w0 S0 is w->St w0 S0 (hl' ops.size L H) w) (ih: ∀τ':Tau,τ'.map Sigma.fst=σ->(tNo τ').length+1=(tNo τ).length->∀a w,FrOk n fr a->FrOk n fr0 a->tFr a τ'->St w0 S0 (is++tIt τ') w->wpS P ops Q' (λL=>St w0 S0 (hlA L H)) f (bm ops.size (tBit τ' L)) a w) (g:FrOk n fr a) (c:FrOk n fr0 a) (b:tFr a τ) (hs:St w0 S0 (is++tIt τ) w):
    wpOp P ops Q' i (λO w'=>St w0 S0 (hlA ((bm ops.size (tBit τ L)).setIfInBounds i true) H) w'/\wpS P ops Q' (λL=>St w0 S0 (hlA L H)) f ((bm ops.size (tBit τ L)).setIfInBounds i true) O w') a w:=by
 obtain ⟨h,q,u⟩:=zkl p;obtain ⟨s,v,rfl,y⟩:=zo0 i τ hi;have e:s∈σ:=M ▸ v;obtain ⟨o,ty,pos,aft,z,A,B⟩:=m s e;obtain ⟨C,k2,J⟩:=h s e;unfold wpOp;simp only[z,(show Gd ops fr0 (⟨some s.d,o,ty,pos,aft,none⟩:Oper) true from rfl).wanted c,iT];refine .inl (B.frame (is++tIt τ) a w _ _ c hs λx w' hs'=>?_);obtain ⟨τ',j,D,E,F,G⟩:=y x;have l:St w0 S0 (is++tIt τ') w':=hs'.permL (by show (s.new x++(is++tIt τ)).Perm (is++tIt τ');rw[<-De];exact (List.Perm.append_right _ Ft).trans (by rw[De];exact List.Perm.append_left _ F));rw[zo2,<-E L,zpa,zmw (by rw[j,M];exact λt b=>(h t b).2.2)];refine ⟨T _ l.left,ih τ' (j.trans M) D _ _ (g.stay C _) (c.stay k2 _) ?_ l⟩;refine G a _ (λk I=>zmV I) ?_ (by rw[M];exact λt b=>q s e t b) (by have:=u;rw[<-M,Gm]at this;exact this) b;have:s.d<a.tmps.size:=by rw[g.size];exact zkH.1 A
 simp[Act.put,this]
def TM.start (σ:List Side) (c: ∀s∈σ,s.ok P w0 S0 n fr ops) (h:TM P w0 S0 m n fr σ fr is H ops fuel L Q):TA P w0 S0 m n fr is H ops (fuel+σ.length) L Q:=by
 intro r d a w b hs;have e: ∀σ:List Side,(σ.map λs=>(⟨s,none⟩:Σ s:Side,Option s.X)).map Sigma.fst=σ:=λσ=>by induction σ with | nil=>rfl | cons s σ ih=>exact congrArg (s:: ·) ih
 have:=h c r d (σ.map λs=>⟨s,none⟩) (e σ) a w b b;have f: ∀σ:List Side,tIt (σ.map λs=>⟨s,none⟩)= []:=λσ=>by induction σ with | nil=>rfl | cons s σ ih=>exact ih
 have g: ∀(σ:List Side) L,tBit (σ.map λs=>⟨s,none⟩) L=L:=λσ=>by induction σ with | nil=>exact λ_=>rfl | cons s σ ih=>exact ih
 have i: ∀(σ:List Side),(tNo (σ.map λs=>⟨s,none⟩)).length=σ.length:=λσ=>by induction σ with | nil=>rfl | cons s σ ih=>exact congrArg (·+ 1) ih
 have j: ∀(σ:List Side),tFr a (σ.map λs=>⟨s,none⟩):=λσ=>by induction σ with | nil=>trivial | cons s σ ih=>exact ih
 simp_all
def Mo (h:TA P w0 S0 m n fr is H ops fuel L Q):TM P w0 S0 m n fr0 [] fr is H ops fuel L Q:=by
 intro _ r b τ hτ a w c _ _ hs;obtain rfl:τ= []:=by simpa using hτ
 rw[tIt,Dl]at hs;exact h r b a w c hs
def TM.bind {X:Type} {p:Option X} {k:X->Option R} (h: ∀x,p=some x->TM P w0 S0 (k x) n fr0 σ fr is H ops fuel L Q):TM P w0 S0 (p.bind k) n fr0 σ fr is H ops fuel L Q:=by
 intro b r a;cases p with
 | none=>cases a
 | some x=>exact h x rfl b r a
theorem TM.ef {d:Nat} {o:Go.Op} {pos:String} {val:X->Va} {is':X->J5} (hi:ops[j]? =some ⟨some d,o,ty,pos,aft,none⟩) (q:EfA P w0 S0 n fr is ⟨some d,o,ty,pos,aft,none⟩ val is') (s:Dj d n=true) (g:sideC fr fr0 H σ=true) (u:nokey d fr0=true) (v:othr ops.size d σ=true) (y:chkT ops (some j) [] (σ.map (·.i)) L=true) (O:sfx is (hl' ops.size L H)=hl' ops.size L H) (M: ∀x,sfx (is' x) (hl' ops.size (L ||| 2 ^ j) H)=hl' ops.size (L ||| 2 ^ j) H) (h: ∀x,TM P w0 S0 m n fr0 σ ((d,val x)::fr) (is' x) H ops fuel (L ||| 2 ^ j) Q):TM P w0 S0 m n fr0 σ fr is H ops (fuel+1) L Q:=by
 intro l r z;have key: ∀(k:Nat) (τ:Tau),τ.map Sigma.fst=σ->(tNo τ).length=k->∀a w,FrOk n fr a->FrOk n fr0 a->tFr a τ->St w0 S0 (is++tIt τ) w->wpS P ops (NoPanic (Q r)) (λL=>St w0 S0 (hlA L H)) (fuel+1+k) (bm ops.size (tBit τ L)) a w:=by
  intro k;induction k using Hr with
  | ind k ih=>
    intro τ hτ F a w f p b hs;obtain ⟨A,B⟩:=znd (τ:=τ) (pend:=[]) (j:=some j) (ops:=ops) (L:=L) (by rw[<-y,<-hτ,Gm];rfl);rw[show fuel+1+k=(fuel+k)+1 by omega];refine wpS.all A λi C=>?_;rcases B i C with c | c | c
    ·obtain ⟨k',rfl⟩: ∃k',k=k'+1:=⟨k - 1,by have:=List.length_pos_of_mem c;omega⟩;refine TM.side l g hτ c (λw D=>D.sfx O) (λτ' G I a w=>?_) f p b hs;grind
    ·trivial
    ·cases c;obtain ⟨E,J,K⟩:=zkl g;have e:tBit τ (L ||| 2 ^ j)=tBit τ L ||| 2 ^ j:=zld j τ L;unfold wpOp;simp only[hi,(show Gd ops fr (⟨some d,o,ty,pos,aft,none⟩:Oper) true from rfl).wanted f,iT];refine .inl (q.frame (tIt τ) a w _ _ f hs λx w' hs'=>?_);rw[zo2,<-e,zpa,zmw (by rw[hτ];exact λt b=>(E t b).2.2)];refine ⟨hs'.left.sfx (M x),?_⟩;have:=h x l r z τ hτ (a.put (some d) (val x)) w' (f.put s _) (p.stay u _) ?_ hs'
     ·simp_all
     ·exact znr (by rw[hτ];exact λt b=>(zhM v t b).2) b
 simp_all
def TM.y {d:Nat} (B:Nat) (hi:ops[i]? =some o) (e:Y P w0 S0 n fr (hb' ops.size B H) o v) (f:Gd ops fr o true) (g:o.dst=some d) (j:Dj d n=true) (k:sideC fr fr0 H σ=true) (l:nokey d fr0=true) (p:othr ops.size d σ=true) (q:chkR ops i B (σ.map (·.i)) L=true) (s:nob i H=true) (D:sfx is (hl' ops.size L H)=hl' ops.size L H) (h:TM P w0 S0 m n fr0 σ ((d,v)::fr) is H ops fuel (L ||| 2 ^ i) Q):TM P w0 S0 m n fr0 σ fr is H ops (fuel+1) L Q:=by intro u r x τ hτ a w c z b hs;have A:=(zkl k).1;rw[show fuel+1+(tNo τ).length=(fuel+(tNo τ).length)+1 by omega];refine TA.first hi (zqd (τ:=τ) (by rw[<-q,<-hτ,Gm];rfl)) s (.inl ⟨f.wanted c,λw' C=>e a w' c C⟩) (by rw[zmw (by rw[hτ];exact λt b=>(A t b).2.2)];exact hs.left.sfx D) ?_;rw[g,<-zld];exact h u r x τ hτ _ w (c.put j v) (z.stay l v) (znr (by rw[hτ];exact λt b=>(zhM p t b).2) b) hs
def TM.close {s:Side} (q:sideC fr fr0 H (s::σ)=true) (v:chkT ops none [s.i] (σ.map (·.i)) L=true) (J:sfx is (hl' ops.size L H)=hl' ops.size L H) (h: ∀x,TM P w0 S0 m n fr0 σ ((s.d,s.val x)::fr) (s.new x++is) H ops fuel (L ||| 2 ^ s.i) Q):TM P w0 S0 m n fr0 (s::σ) fr is H ops fuel L Q:=by
 intro o r y;have key: ∀(k:Nat) (τ:Tau),τ.map Sigma.fst=s::σ->(tNo τ).length=k->∀a w,FrOk n fr a->FrOk n fr0 a->tFr a τ->St w0 S0 (is++tIt τ) w->wpS P ops (NoPanic (Q r)) (λL=>St w0 S0 (hlA L H)) (fuel+k) (bm ops.size (tBit τ L)) a w:=by
  intro k;induction k using Hr with
  | ind k ih=>
    intro τ hτ c a w g p b hs
    match τ,hτ,c,b,hs with
    | [],hτ,_,_,_=>cases hτ
    | ⟨s',some x⟩::τ',hτ,c,b,hs=>
      obtain ⟨rfl,I⟩:s'=s/\τ'.map Sigma.fst=σ:=by simpa using hτ
      have z:FrOk n ((s'.d,s'.val x)::fr) a:=⟨g.size,g.defers,λk u e=>by
       unfold lk at e;cases l:Bw k s'.d with
       | true=>rw[l]at e;cases e;rw[Ec l];exact b.1
       | false=>rw[l]at e;exact g.get k u e⟩
      have:=h x (λt b=>o t (Cr _ b)) r y τ' I a w z p b.2 (hs.permL (by show (is++(s'.new x++tIt τ')).Perm (s'.new x++is++tIt τ');rw[<-De];exact List.Perm.append_right _ Ft));rw[show (tNo τ').length=k from c]at this;trivial
    | ⟨s',none⟩::τ',hτ,c,b,hs=>
      obtain ⟨rfl,I⟩:s'=s/\τ'.map Sigma.fst=σ:=by simpa using hτ
      obtain ⟨A,B⟩:=znd (τ:=τ') (pend:=[s'.i]) (j:=none) (ops:=ops) (L:=L) (by rw[<-v,<-I,Gm];rfl);obtain ⟨k',rfl⟩: ∃k',k=k'+1:=⟨(tNo τ').length,by rw[<-c];rfl⟩;refine wpS.all A λi C=>?_;have D:i∈tNo (⟨s',none⟩::τ'):=by
       rcases B i C with f | f | f
       ·exact Cr _ f
       ·rw[Dh]at f;subst f;exact Ek ..
       ·trivial
      refine TM.side o q hτ D (λw E=>E.sfx J) (λτ'' F G a w=>?_) g p b hs;simp_all
 simp_all
end
section
variable {P:Pm} {w0:Wo} {S0:J4}
def Mid (w0:Wo) (S0:J4) (n:Nat) (frf:τ->X->Fr) (isf:τ->X->J5) (t:τ) (a:Act) (w:Wo):Prop:=
 ∃x,FrOk n (frf t x) a/\St w0 S0 (isf t x) w
def jn (M:τ->Act->Wo->Prop) (Q:R->Exit->Act->Wo->Prop):Ctl τ R->Exit->Act->Wo->Prop
 | .go t,e,a,w=>e= .normal/\M t a w
 | .done r,e,a,w=>Q r e a w
def jb (M:τ->Act->Wo->Prop):τ->Exit->Act->Wo->Prop:=λt e a w=>e= .normal/\M t a w
def lp (I:σ->Act->Wo->Prop) (Q:ρ->Exit->Act->Wo->Prop):Ctl σ ρ->Exit->Act->Wo->Prop
 | .go s,e,a,w=>e= .normal/\I s a w
 | .done r,e,a,w=>e≠.normal/\Q r e a w
def TW.joinX {m:Option (Ctl τ R)} {k:τ->Option R} {c:Code} (frf:τ->X->Fr) (isf:τ->X->J5) (f:TW P w0 S0 m n fr is c (jn (Mid w0 S0 n frf isf) Q)) (g: ∀t x,TE w0 S0 (k t) n (frf t x) (isf t x) .normal Q):TW P w0 S0 (bindC m k) n fr is c Q:=by
 refine TW.join (Mid w0 S0 n frf isf) ?_ ?_
 ·intro r b a w d hs;refine wp_mono (f r b a w d hs) λe a w h=>?_;cases r with
  | go t=>exact h
  | done r=>exact h
 ·rintro t a w ⟨x,d,hs⟩ r b;exact g t x r b a w d hs
def TW.joinBX {m:Option τ} {k:τ->Option R} {c:Code} (frf:τ->X->Fr) (isf:τ->X->J5) (b:TW P w0 S0 m n fr is c (jb (Mid w0 S0 n frf isf))) (d: ∀t x,TE w0 S0 (k t) n (frf t x) (isf t x) .normal Q):TW P w0 S0 (m.bind k) n fr is c Q:=by refine TW.joinB (Mid w0 S0 n frf isf) b ?_;rintro t a w ⟨x,e,hs⟩ r f;exact d t x r f a w e hs
def TW.joinU {c:Code} (frf:Unit->X->Fr) (isf:Unit->X->J5) (a:TW P w0 S0 (some ()) n fr is c (jb (Mid w0 S0 n frf isf))) (b: ∀t x,TE w0 S0 m n (frf t x) (isf t x) .normal Q):TW P w0 S0 m n fr is c Q:=
 TW.joinBX (τ:=Unit) (m:=some ()) (k:=λ_=>m) frf isf a b
def TW.loopX {body:σ->Option (Ctl σ ρ)} {s0:σ} {c:Code} {Q:ρ->Exit->Act->Wo->Prop} (frf:σ->X->Fr) (isf:σ->X->J5) (b:X) (A:J4) (f:Sub (frf s0 b) fr) (g:pulls A is=some (isf s0 b)) (i: ∀s x,TW P w0 S0 (body s) n (frf s x) (isf s x) c (lp (Mid w0 S0 n frf isf) Q)):
    TW P w0 S0 (loopO body s0) n fr is (.loop c) Q:=by
 refine TW.loop (Mid w0 S0 n frf isf) (λa w d hs=>⟨b,d.sub f,hs.pulls A g⟩) ?_;rintro s x j a w ⟨y,d,hs⟩;refine wp_mono (i s y x j a w d hs) λe a w h=>?_;cases x with
 | go t=>exact h
 | done r=>exact h
def Jd {M:τ->Act->Wo->Prop} {r:R} {e:Exit} (h:TE w0 S0 (some r) n fr is e Q):TE w0 S0 (some (.done r)) n fr is e (jn M Q):=by intro A b a w c hs;cases b;exact h r rfl a w c hs
def Ex {Q:ρ->Exit->Act->Wo->Prop} {I:σ->Act->Wo->Prop} {r:ρ} {id:Nat} (h:TE w0 S0 (some r) n fr is (.exit id) Q):TE w0 S0 (some (.done r)) n fr is (.exit id) (lp I Q):=by intro A b a w c hs;cases b;exact ⟨λh=>(by cases h),h r rfl a w c hs⟩
def Er {Q:ρ->Exit->Act->Wo->Prop} {I:σ->Act->Wo->Prop} {r:ρ} (h:TE w0 S0 (some r) n fr is .ret Q):TE w0 S0 (some (.done r)) n fr is .ret (lp I Q):=by intro A b a w c hs;cases b;exact ⟨λh=>(by cases h),h r rfl a w c hs⟩
def TE.block_normal {id:Nat} (h:TE w0 S0 m n fr is .normal Q):TE w0 S0 m n fr is .normal (λr=>Exit.inBlock id (Q r)):=h
def Be {id:Nat} (h:TE w0 S0 m n fr is .normal Q):TE w0 S0 m n fr is (.exit id) (λr=>Exit.inBlock id (Q r)):=by
 intro r b a w c hs;show if id=id then _ else _
 rw[iP rfl];exact h r b a w c hs
def TE.bind {X:Type} {p:Option X} {k:X->Option R} {e:Exit} (h: ∀x,p=some x->TE w0 S0 (k x) n fr is e Q):TE w0 S0 (p.bind k) n fr is e Q:=by
 intro r b a w c hs;cases p with
 | none=>cases b
 | some x=>exact h x rfl r b a w c hs
def Ni {e:Exit} (sz:Nat) (h:TE w0 S0 m n fr (.own (.slice none 0 0) (.sl sz 0 [])::is) e Q):TE w0 S0 m n fr is e Q:=
 λr b a w c hs=>h r b a w c (hs.nilItem sz)
def Nw {c:Code} (sz:Nat) (h:TW P w0 S0 m n fr (.own (.slice none 0 0) (.sl sz 0 [])::is) c Q):TW P w0 S0 m n fr is c Q:=
 λr b a w d hs=>h r b a w d (hs.nilItem sz)
end
theorem zn6 (cur us:J3) (off N:Nat) (h:off+us.length<=N) (A:N<=cur.length):(splice cur off us).take N=splice (cur.take N) off us:=by apply Ee;intro k;simp only[splice,By,Ew,Bf,Di,De];grind
theorem zlc (x r us:J3) (c:Nat) (h:c+us.length<=x.length):splice (x++r) c us=splice x c us++r:=by simp only[splice];grind
def zfJ (x r us:J3) (c:Nat):splice (x++r) (x.length+c) us=x++splice r c us:=by simp only[splice];rw[List.take_length_add_append,show x.length+c+us.length=x.length+(c+us.length) by omega,List.drop_length_add_append];simp
def zn5 {α:Type} [Flat α]: ∀(l:List α) (k c:Nat) (z A:α) (us:J3),l[k]? =some z->c+us.length<=Enc.sz α->splice (Flat.vals z) c us=Flat.vals A->
    splice (l.flatMap Flat.vals) (k*Enc.sz α+c) us=(l.set k A).flatMap Flat.vals
 | [],_,_,_,_,_,h,_,_=>by simp at h
 | y::l,0,c,z,A,us,h,a,hs=>by
   simp only[Dn,Ba]at h
   subst h
   simp only[Ev,Dy,Ct,Gy]
   rw[zlc _ _ _ _ (by rw[zf4];exact a),hs]
 | y::l,k+1,c,z,A,us,h,a,hs=>by
   simp only[Du]at h
   simp only[Ct,List.set_cons_succ]
   rw[<-zn5 l k c z A us h a hs,show (k+1)*Enc.sz α+c=(Flat.vals y).length+(k*Enc.sz α+c) by rw[zf4,Cj];omega,zfJ]
section
variable {P:Pm} {w0:Wo} {S0:J4}
variable {pos:String}
theorem Ef.store_el [Flat α] {y:Od} {c:Nat} (z':α) (i:Nat) (D:kindB P t=some (ag,s)) (E:Enc.sz α=sz) (hi:is[i]? =some (.own v (lc l))) (F:l[k]? =some z) (h:ev fr x=some (elP v (k*sz+c))) (G:ev fr y=some u) (H:Cel w0 S0 is u us) (hl:Bw us.length s=true) (I:Fm (c+us.length) sz=true) (hs:splice (Flat.vals z) c us=Flat.vals z') (J:is.set i (.own v (lc (l.set k z')))=is'):
 Ef P w0 S0 n fr is ⟨none,.store t x y,ty,pos,aft,gd⟩ (λ_:Unit=>undef) (λ_=>is'):=by
 subst E;have L:c+us.length<=Enc.sz α:=Cu I;intro a w K Q o j hK;obtain ⟨M,N⟩:=H w j;have O:k<l.length:=by grind
 have Z:k*Enc.sz α+Enc.sz α<=l.length*Enc.sz α:=by rw[<-Do];exact An _ O
 obtain ⟨A0,hA0,_⟩:=zcj hi j.own.choose_spec.1;have R: ∃b cap cur e',v= .slice (some ⟨b,0,none⟩) l.length cap/\w.heap[b]? =some (.cells cur e' (0,0))/\l.length<=cap/\cap<=maxLen/\cap*Enc.sz α<=cur.size/\cur.toList.take (l.length*Enc.sz α)=l.flatMap Flat.vals:=by
  have hA0':Ow w v (.sl (Enc.sz α) l.length (l.flatMap Enc.enc)) A0:=hA0;generalize f:l.flatMap (Enc.enc (α:=α))=cs at hA0';generalize hn:l.length=ln at hA0';cases hA0' with
  | nil=>omega
  | row b n cap e sz cur vs cs S d p q hs g m=>subst f;refine ⟨b,cap,cur,e,rfl,d,p,q,hs,?_⟩;rw[g];exact m.vals (zba l)
 obtain ⟨b,cap,cur,e',rfl,d,B,T,f,g⟩:=R;have U:l.length*Enc.sz α<=cap*Enc.sz α:=An _ B;have C:k*Enc.sz α+c+us.length<=cur.toList.length:=by rw[Bp (xs:=cur)];omega
 have V:=zeP (P:=P) (off:=k*Enc.sz α+c) D d M hl N (by rw[<-Bp (xs:=cur)];exact C);have W:(execOp a.eval ⟨none,.store t x y,ty,pos,aft,gd⟩).run P w= .ok .skip (w.setRow b (splice cur.toList (k*Enc.sz α+c) us).toArray):=by simp[execOp,o.eval h,o.eval G,elP,Instr.storeAt,Instr.sureAddr,add_lit,V]
 unfold Oper.wp;rw[W];refine hK () _ ?_;subst J;refine j.upd hi λA hA a0=>?_;have hAb:A= [b]:=by
  have hA':Ow w (.slice (some ⟨b,0,none⟩) l.length cap) (.sl (Enc.sz α) l.length (l.flatMap Enc.enc)) A:=hA;generalize X:l.flatMap (Enc.enc (α:=α))=cs at hA';cases hA' with
  | row b n cap e sz cur vs cs S d p q hs g m=>subst X;rw[m.noS (zba l)]
 refine ⟨[b],?_,?_,by simp,λx h=>.inl (by rw[hAb];exact h)⟩
 ·rw[hAb];exact Chg.setRow w b _
 ·show Ow _ _ (.sl (Enc.sz α) (l.set k z').length ((l.set k z').flatMap Enc.enc)) [b];have Y:(splice cur.toList (k*Enc.sz α+c) us).length=cur.size:=by rw[zgk _ _ _ C,Bp]
  rw[El];refine .row b l.length cap e' (Enc.sz α) _ ((l.set k z').flatMap Flat.vals) _ [] (setRow_heap w b _ _ e' _ d) B T (by simpa[Y] using f) ?_ (Ows.of_vals (zba _));rw[Ea,zn6 _ _ _ _ (by omega) (by rw[Bp (xs:=cur)];exact Cv U f),g,zn5 l k c z z' us F L hs]
def zg {i:Int} {A:α} (h:idx l i=some z):idx (l.set i.toNat A) i=some A:=by obtain ⟨a,b,_⟩:=zQ h;unfold idx;simp_all
def mkLen (by_:Nat) (n:Int):Option Nat:=if 0<=n/\by_*n<=281474976710656/\n<=9223372036854775807 then some n.toNat else none
theorem zlE {n:Int} (h:mkLen by_ n=some k):n=(k:Int)/\(by_:Int)*n<=281474976710656/\n<=9223372036854775807:=by unfold mkLen at h;grind
theorem zrk [Flat α] (z:α) (k:Nat):(madeCells (Flat.vals z).toArray (k*Enc.sz α)).toList=(Bo k z).flatMap Flat.vals:=by
 have b:=zf4 z;have c:=Enc.pos (α:=α);apply Ee;intro j;unfold madeCells;simp only[Hl,Hb,Fi];have key: ∀k j:Nat,((Bo k z).flatMap (Flat.vals (α:=α)))[j]? =if j<k*Enc.sz α then (Flat.vals z)[j % Enc.sz α]? else none:=by
  intro k;induction k with
  | zero=>intro j;simp
  | succ k ih=>
    intro j;simp only[Gv,Ct,Ew,b];by_cases a:j<Enc.sz α
    ·rw[iP a,iP (by rw[Do];omega),Hn a]
    ·rw[iN a,ih];have:(j - Enc.sz α) % Enc.sz α=j % Enc.sz α:=(He (by omega)).symm;grind
 rw[key];by_cases d:j<k*Enc.sz α
 ·have e:j % Enc.sz α<(Flat.vals z).length:=by rw[b];exact Hy _ c
  simp_all
 ·grind
def Ef.mk [Flat α] {y:Od} {k:Ik} {len F:Int} {l c:Nat} (j:mkLen by_ F=some c) (hl:len=(l:Int)) (f:l<=c) (b:elemB P t=some (e,sz,by_)) (d:zeroB P e=some zv) (m:zv.cells=(Flat.vals z).toArray) (o:Enc.sz α=sz) (p:ev fr x=some (.int k len)) (q:ev fr y=some (.int k' F)):
    Ef P w0 S0 n fr is ⟨dst,.makeSlice t x y,ty,pos,aft,gd⟩ (λv:Va=>v) (λv=>.own v (lc (Bo l z))::is):=by
 obtain ⟨s,ti,g,u,A⟩:=zA b;subst o;obtain ⟨rfl,B,C⟩:=zlE j;subst hl;have D:ti.zero=some zv:=by unfold zeroB at d;rw[g]at d;simpa using d
 intro a w K Q h hs G;have i:=run_make (P:=P) w t e ti zv s g D k k' l c (by omega) (by omega) (by rw[A];exact B) C;simp only[Eg,u,m]at i;have b:(execOp a.eval ⟨dst,.makeSlice t x y,ty,pos,aft,gd⟩).run P w= .ok (.value (.slice (some ⟨w.heap.size,0,none⟩) l c)) (w.alloc (.cells (madeCells (Flat.vals z).toArray (c*Enc.sz α)) e)):=by simp[execOp,h.eval p,h.eval q,i]
 unfold Oper.wp;rw[b];refine G _ _ ?_;refine hs.add (Chg.alloc w _ []) _ [w.heap.size] ?_ (by simp) (by simp);show Ow _ _ (.sl (Enc.sz α) (Bo l z).length _) _;rw[Dp];have E:l*Enc.sz α<=c*Enc.sz α:=An _ f;refine .row w.heap.size l c e _ _ ((Bo l z).flatMap Flat.vals) _ [] (heap_alloc_new w _) f (by simp only[maxLen];omega) (Fz (size_madeCells _ _).symm) ?_ (Ows.of_vals (zba _));rw[zrk,show c=l+(c - l) by omega,<-Fv,Cx,Em (by rw[zZ,Dp];exact Bz _),Dk (by rw[zZ,Dp];exact Bz _)]
def Ef.make [Flat α] {y:Od} {k:Ik} {len:Int} {c:Nat} (a:mkLen by_ len=some c) (b:elemB P t=some (e,sz,by_)) (d:zeroB P e=some zv) (f:zv.cells=(Flat.vals z).toArray) (g:Enc.sz α=sz) (h:ev fr x=some (.int k len)) (i:ev fr y=some (.int k' len)):
    Ef P w0 S0 n fr is ⟨dst,.makeSlice t x y,ty,pos,aft,gd⟩ (λv:Va=>v) (λv=>.own v (lc (Bo c z))::is):=
 Ef.mk a (zlE a).1 (Bz _) b d f g h i
def Ef.make0 [Flat α] {y:Od} {k:Ik} {len:Int} {c:Nat} (a:mkLen by_ len=some c) (b:elemB P t=some (e,sz,by_)) (d:zeroB P e=some zv) (f:zv.cells=(Flat.vals z).toArray) (g:Enc.sz α=sz) (h:ev fr x=some (.int k 0)) (i:ev fr y=some (.int k' len)):
    Ef P w0 S0 n fr is ⟨dst,.makeSlice t x y,ty,pos,aft,gd⟩ (λv:Va=>v) (λv=>.own v (lc ([]:List α))::is):=
 Ef.mk (α:=α) (z:=z) (l:=0) a rfl (Ei _) b d f g h i
def placesB (P:Pm) (t:Ti):Option (List (Nat × Nat)):=
 match P.underlying t with
 | some (.struct fs)=>fs.toList.mapM λf=>(P.info? f.type).map λi=>(f.offset,i.size)
 | _=>none
def zpD {P:Pm} {w:Wo} : ∀{A:List Field} {ps:List (Nat × Nat)},(A.mapM λf=>(P.info? f.type).map λi=>(f.offset,i.size))=some ps->
    (A.mapM λf=>do pure (f.offset,<-sizeOf f.type):Sem (List (Nat × Nat))).run P w= .ok ps w
 | [],ps,h=>by
   simp_all
 | f::A,ps,h=>by
   rw[Gb]at h
   cases hi:P.info? f.type with
   | none=>rw[hi]at h;simp at h
   | some i=>
     rw[hi]at h
     simp only[Dm,Option.bind_eq_bind,Df]at h
     cases a:(A.mapM λf=>(P.info? f.type).map λi=>(f.offset,i.size)) with
     | none=>rw[a]at h;simp at h
     | some qs=>
       rw[a]at h
       simp only[Df,Option.pure_def,Ba]at h
       subst h
       have ih:=zpD (w:=w) a
       rw[Gb]
       have b:(sizeOf f.type).run P w= .ok i.size w:=by simp[sizeOf,typeInfo,hi]
       simp_all
def fills (place:List (Nat × Nat)):J3->List (Nat × J3)->Option J3
 | cells,[]=>some cells
 | cells,(i,us)::r=>match place[i]? with
   | none=>none
   | some (off,sz)=>bif Bw us.length sz&&Fm (off+us.length) cells.length then fills place (splice cells off us) r else none
def Parts (w0:Wo) (S0:J4) (is:J5) (fr:Fr):List (Nat × Od)->List (Nat × J3)->Prop
 | [],[]=>True
 | (i,o)::r,(j,us)::q=>j=i/\(∃v,ev fr o=some v/\Cel w0 S0 is v us)/\Parts w0 S0 is fr r q
 | _,_=>False
def zog {place:List (Nat × Nat)} {w:Wo} {a:Act} (c:FrOk n fr a) (hs:St w0 S0 is w): ∀{ps:List (Nat × Od)} {qs:List (Nat × J3)} {cur cells:J3},Parts w0 S0 is fr ps qs->fills place cur qs=some cells->
    Instr.fill (place.toArray[·]?) cur.toArray (ps.map λ(i,x)=>(i,a.eval x))=some cells.toArray
 | [],[],cur,cells,_,h=>by simp only[fills,Ba]at h;subst h;rfl
 | (i,o)::ps,(j,us)::qs,cur,cells,hP,h=>by
   obtain ⟨rfl,⟨v,e,f⟩,g⟩:=hP
   unfold fills at h
   simp only[Dg,Instr.fill,c.eval e]
   cases d:place[j]? with
   | none=>rw[d]at h;cases h
   | some x=>
     obtain ⟨off,sz⟩:=x
     rw[d]at h
     simp only at h
     cases b:(Bw us.length sz&&Fm (off+us.length) cur.length) with
     | false=>rw[b]at h;cases h
     | true=>
       rw[b]at h
       simp only[Cg]at b
       have l:us.length=sz:=by simpa using b.1
       have k:off+us.length<=cur.length:=Cu b.2
       obtain ⟨m,_⟩:=f w hs
       have p:=zmu off us 0 cur.toArray (by simpa using k)
       have ih:=zog (place:=place) c hs g (by simpa using h)
       simp_all
def Y.build {t:Ti} {ps:List (Nat × Od)} {place:List (Nat × Nat)} {zs cells:J3} (qs:List (Nat × J3)) (b:placesB P t=some place) (c:zeroB P t=some (.agg zs.toArray)) (d:Parts w0 S0 is fr ps qs) (e:fills place zs qs=some cells):Y P w0 S0 n fr is ⟨dst,.build t ps.toArray,ty,pos,aft,gd⟩ (.agg cells.toArray):=by
 intro a w g hs;unfold placesB at b;split at b
 ·rename_i A h;have j:=zpD (P:=P) (w:=w) b;have k:(A.mapM λf=>do pure (f.offset,<-sizeOf f.type):Sem (Array (Nat × Nat))).run P w= .ok place.toArray w:=by rw[<-Array.toArray_toList (xs:=A),Hh,Sem.run_map,j];rfl
  have l:=zog (place:=place) g hs d e;have m:(Instr.build t (ps.toArray.map λ(i,x)=>(i,a.eval x))).run P w= .ok (.agg cells.toArray) w:=by simp only[Instr.build,Sem.run_bind,zgM c,run_underlying h,Result.andThen_ok,k,Value.cells,Eh,l,Sem.run_pure]
  simp only[execOp,Sem.run_bind,m,Result.andThen_ok,Sem.run_pure]
 ·trivial
def Y.toStr {l:J2} (s:elemB P src=some (e,sz,by_)) (f:intB P e=some .u8) (g:isStrB P tgt=true) (h:Can w0 S0 is v (lc l)) (c:ev fr x=some v):
    Y P w0 S0 n fr is ⟨dst,.convert src tgt x,ty,pos,aft,gd⟩ (strV l):=by
 obtain ⟨i,_⟩:=zA s;have k:P.underlying tgt=some .string:=by unfold isStrB at g;split at g<;>simp_all
 have m:P.underlying e=some (.int .u8):=by unfold intB at f;split at f<;>simp_all
 intro a w o hs;rcases h.row hs with ⟨d,_,rfl⟩ | ⟨t,cap,vs,S,rfl,u,y,p,q⟩
 ·have:l= []:=Bh d;subst this;simp[execOp,o.eval c,convert,run_underlying i,run_underlying k,run_underlying m,Conv.bytesToString];rfl
 ·have z:=q.vals (zba l);subst z;have A:=run_convert_bytes_back (P:=P) w src tgt e t cap l i m k (by
   intro j B;have d:Enc.sz UInt8=1:=rfl;rw[p j (by rw[d];omega)];have:l.flatMap (Flat.vals (α:=UInt8))=l.map λb=>Value.int .u8 b.toNat:=by
    clear h c u y p q B;induction l with
    | nil=>rfl
    | cons x l ih=>rw[Ct,ih];rfl
   simp_all)
  simp only[execOp,o.eval c,Sem.run_bind,A,Result.andThen_ok,Sem.run_pure];rfl
def zjn (s:J2) (i j:Nat):(ByteArray.mk s.toArray).extract i j=ByteArray.mk ((s.drop i).take (j - i)).toArray:=by apply ByteArray.ext;simp
def zqZ {s z:J2} (h:ssub s lo hi=some z):0<=lo/\lo<=hi/\hi<=s.length/\z=(s.drop lo.toNat).take (hi.toNat - lo.toNat):=by unfold ssub at h;simp_all
def Y.ssub_both {y A:Od} {t:Ti} {s z:J2} {k:Ik} (f:ssub s lo hi=some z) (c:isStrB P t=true) (g:ev fr x=some (strV s)) (h:ev fr y=some (.int k lo)) (i:ev fr A=some (.int k' hi)):
    Y P w0 S0 n fr is ⟨dst,.slice t x (some y) (some A) none,ty,pos,aft,gd⟩ (strV z):=by
 have d:P.underlying t=some .string:=by unfold isStrB at c;split at c<;>simp_all
 obtain ⟨j,l,m,rfl⟩:=zqZ f;intro a w b hs;have e:=run_slice_string_if (P:=P) w t ⟨s.toArray⟩ k k' lo hi d;rw[iP ⟨by omega,by simpa[ByteArray.size_mk'] using m⟩,iP ⟨j,l⟩,zjn]at e;simp only[execOp,b.eval g,b.eval h,b.eval i,Dm,Ht,strV,Instr.sliceAt,run_underlying d,Sem.run_bind,e,Result.andThen_ok,Sem.run_pure]
def Y.ssub_from {y:Od} {t:Ti} {s z:J2} {k:Ik} (d:ssub s lo (s.length:Int)=some z) (b:isStrB P t=true) (e:ev fr x=some (strV s)) (f:ev fr y=some (.int k lo)):
    Y P w0 S0 n fr is ⟨dst,.slice t x (some y) none none,ty,pos,aft,gd⟩ (strV z):=by
 have g:P.underlying t=some .string:=by unfold isStrB at b;split at b<;>simp_all
 obtain ⟨h,i,l,rfl⟩:=zqZ d;intro a w c hs;have j:(ByteArray.mk s.toArray).size=s.length:=by simp[ByteArray.size_mk']
 simp[execOp,c.eval e,c.eval f,strV,Instr.sliceAt,Instr.slice,Instr.sliceBounds,Instr.sliceBound,asIntOf,run_underlying g,j,h,i,zjn]
def Y.ssub_to {y:Od} {t:Ti} {s z:J2} {k:Ik} (d:ssub s 0 hi=some z) (b:isStrB P t=true) (e:ev fr x=some (strV s)) (f:ev fr y=some (.int k hi)):
    Y P w0 S0 n fr is ⟨dst,.slice t x none (some y) none,ty,pos,aft,gd⟩ (strV z):=by
 have g:P.underlying t=some .string:=by unfold isStrB at b;split at b<;>simp_all
 obtain ⟨_,h,i,rfl⟩:=zqZ d;intro a w c hs;have j:(ByteArray.mk s.toArray).size=s.length:=by simp[ByteArray.size_mk']
 simp[execOp,c.eval e,c.eval f,strV,Instr.sliceAt,Instr.slice,Instr.sliceBounds,Instr.sliceBound,asIntOf,run_underlying g,j,h,i,zjn]
def Y.min2 {x y:Od} {k:Ik} {p q:Int} {ats:Array Ti} (c:ev fr x=some (.int k p)) (d:ev fr y=some (.int k q)):
    Y P w0 S0 n fr is ⟨dst,.call {callee:=.builtin .min,args:=#[x,y],argTypes:=ats},ty,pos,aft,gd⟩ (.int k (goMin p q)):=by intro a w b hs;simp[execOp,resolve,invoke,builtin,b.eval c,b.eval d,Builtin.min_,Builtin.min2,goMin]
def Y.max2 {x y:Od} {k:Ik} {p q:Int} {ats:Array Ti} (c:ev fr x=some (.int k p)) (d:ev fr y=some (.int k q)):
    Y P w0 S0 n fr is ⟨dst,.call {callee:=.builtin .max,args:=#[x,y],argTypes:=ats},ty,pos,aft,gd⟩ (.int k (goMax p q)):=by intro a w b hs;simp[execOp,resolve,invoke,builtin,b.eval c,b.eval d,Builtin.max_,Builtin.max2,goMax]
def nilB (v:Va):Bool:=match v with | .slice none _ _=>true | _=>false
def Y.nileq [Enc α] {y:Od} (k:elemB P t=some (e,sz,by_)) (m:Can w0 S0 is v (lc l)) (g:ev fr x=some v) (h:ev fr y=some (.slice none 0 0)):
    Y P w0 S0 n fr is ⟨dst,.binOp .eql t x y t',ty,pos,aft,gd⟩ (.bool (nilB v)):=by
 obtain ⟨i,_⟩:=zA k;intro a w c hs;have j: ∀u w',binOp .eql t u w'=(do pure (.bool (<-Op.equal t u w')):Sem Va)\/True:=λ_ _=>.inr trivial;rcases m.row hs with ⟨_,_,rfl⟩ | ⟨b,cap,vs,S,rfl,_⟩
 ·have d:(binOp .eql t (.slice none 0 0) (.slice none 0 0)).run P w= .ok (.bool true) w:=by have:=run_equal_slice_nil (P:=P) w t e none 0 0 i;have j:binOp .eql t (.slice none 0 0) (.slice none 0 0)=(do pure (.bool (<-Op.equal t (.slice none 0 0) (.slice none 0 0)))):=rfl;simp_all
  have f:eqGuard .eql t x y (.slice none 0 0) (.slice none 0 0)=pure ():=rfl;simp only[execOp,c.eval g,c.eval h,f,Sem.run_bind,Sem.run_pure,Result.andThen_ok,d];rfl
 ·have d:(binOp .eql t (.slice (some b) l.length cap) (.slice none 0 0)).run P w= .ok (.bool false) w:=by have:=run_equal_slice_nil (P:=P) w t e (some b) l.length cap i;have j:binOp .eql t (.slice (some b) l.length cap) (.slice none 0 0)=(do pure (.bool (<-Op.equal t (.slice (some b) l.length cap) (.slice none 0 0)))):=rfl;simp_all
  have f:eqGuard .eql t x y (.slice (some b) l.length cap) (.slice none 0 0)=pure ():=rfl;simp only[execOp,c.eval g,c.eval h,f,Sem.run_bind,Sem.run_pure,Result.andThen_ok,d];rfl
def TW.cond_nil [Enc α] {c:Od} {x y:Code} (g:Can w0 S0 is v (lc l)) (h:ev fr c=some (.bool (nilB v))) (i:l= []->TW P w0 S0 m n fr is x Q) (j:TW P w0 S0 m n fr is y Q):
    TW P w0 S0 m n fr is (.cond c x y) Q:=by
 intro r e a w d hs;have b:=d.eval h;cases f:nilB v with
 | false=>rw[f]at b;exact wp_cond_false b (j r e a w d hs)
 | true=>
   rw[f]at b;refine wp_cond_true b (i ?_ r e a w d hs);rcases g.row hs with ⟨k,_,_⟩ | ⟨o,cap,vs,S,rfl,_⟩
   ·simp_all
   ·trivial
def Y.makeFunc {g:Oe} {h:List Od} {cs:J3} (b:evs fr h=some cs):Y P w0 S0 n fr is ⟨dst,.makeFunc (.func g) #[] h.toArray,ty,pos,aft,gd⟩ (.func (.func g) #[] cs.toArray):=by intro a w c hs;have:=c.evals b;simp[execOp,Instr.makeFunc,<-this]
end
def slN:List C->Nat
 | []=>0
 | c::r=>(match c with | .sl ..=>1 | _=>0)+slN r
def opnC:List C->J3->List C
 | [],_=>[]
 | c::r,Vs=>match c with
   | .sl _ _ _=>match Vs with
     | V::Vs=>.raw V::opnC r Vs
     | []=>c::opnC r []
   | _=>c::opnC r Vs
def opnI:List C->J3->J5
 | [],_=>[]
 | c::r,Vs=>match c with
   | .sl _ _ _=>match Vs with
     | V::Vs=>.own V c::opnI r Vs
     | []=>opnI r []
   | _=>opnI r Vs
def Ows.opn {w:Wo} : ∀{us:J3} {cs:List C} {S:J4},Ows w us cs S->∃Vs,Vs.length=slN cs/\Ows w us (opnC cs Vs) []/\sats w (opnI cs Vs) S
 | _,[],_,h=>by cases h;exact ⟨[],rfl,.nil,rfl⟩
 | _,c::cs,_,h=>by
   cases h with
   | cons u c S us cs T a g=>
     obtain ⟨Vs,hl,d,e⟩:=Ows.opn g;cases c with
     | sl sz n ds=>exact ⟨u::Vs,by simp[slN,hl,Hf],.cons u _ [] _ _ [] (.raw u a.oneCell) d,S,T,rfl,a,e⟩
     | int k n=>cases a;exact ⟨Vs,by simp[slN,hl],.cons _ _ [] _ _ [] (.int k n) d,e⟩
     | bool b=>cases a;exact ⟨Vs,by simp[slN,hl],.cons _ _ [] _ _ [] (.bool b) d,e⟩
     | str s=>cases a;exact ⟨Vs,by simp[slN,hl],.cons _ _ [] _ _ [] (.str s) d,e⟩
     | raw v=>cases a with | raw _ f=>exact ⟨Vs,by simp[slN,hl],.cons _ _ [] _ _ [] (.raw _ f) d,e⟩
     | any=>cases a with | any _ f=>exact ⟨Vs,by simp[slN,hl],.cons _ _ [] _ _ [] (.any _ f) d,e⟩
def goneC:C->Bool
 | .sl ..=>false
 | _=>true
def Ow.gone (h:Ow w u c S) (a:goneC c=true):S= []:=by cases h<;>first | rfl | cases a
inductive Cls:List C->J5->List C->Prop
 | nil:Cls [] [] []
 | keep {c:C} {cs:List C} {is:J5} {ds:List C} :Cls cs is ds->Cls (c::cs) is (c::ds)
 | fill {V:Va} {c:C} {cs:List C} {is:J5} {ds:List C} :Cls cs is ds->Cls (.raw V::cs) (.own V c::is) (c::ds)
 | drop {c:C} {cs:List C} {is:J5} {ds:List C} :goneC c=true->Cls cs is ds->Cls (c::cs) is (.any::ds)
theorem Ows.cls (f:Cls cs is ds): ∀{us:J3} {S A:J4},Ows w us cs S->sats w is A->∃B,Ows w us ds B/\B.Perm (S++A):=by
 induction f with
 | nil=>intro us S A h D;cases h;rw[show A= [] from D];exact ⟨[],.nil,.refl _⟩
 | keep _ ih=>
   intro us S A h D;cases h with
   | cons u c S1 us cs T a b=>obtain ⟨B,d,e⟩:=ih b D;exact ⟨S1++B,.cons u _ S1 us _ B a d,by rw[De];exact List.Perm.append_left _ e⟩
 | fill _ ih=>
   intro us S A h D;obtain ⟨A1,A2,rfl,E,F⟩:=D;cases h with
   | cons u c S1 us cs T a b=>
     obtain ⟨B,d,e⟩:=ih b F;cases a with
     | raw v j=>refine ⟨A1++B,.cons _ _ A1 us _ B E d,?_⟩;grind
 | drop g _ ih=>
   intro us S A h D;cases h with
   | cons u c S1 us cs T a b=>obtain ⟨B,d,e⟩:=ih b D;have i:=a.gone g;subst i;exact ⟨B,.cons u .any [] us _ B (.any _ a.oneCell) d,e⟩
def St.trade {w0:Wo} {S0:J4} {js r:J5} (h:St w0 S0 (is++r) w) (hs: ∀A,sats w is A->∃B,sats w js B/\B.Perm A):St w0 S0 (js++r) w:=
 h.step λA D c=>by obtain ⟨B,d,a⟩:=hs A D;exact ⟨B,Chg.refl w A,d,a.symm.nodup c,λb e=>.inl (a.mem_iff.1 e)⟩
theorem St.opn {w0 w:Wo} {S0:J4} {v:Va} {sz n:Nat} {pre cs post:List C} {r:J5} (h:St w0 S0 (.own v (.sl sz n (pre++(cs++post)))::r) w):
 ∃Vs,Vs.length=slN cs/\St w0 S0 (.own v (.sl sz n (pre++(opnC cs Vs++post)))::(opnI cs Vs++r)) w:=by
 have key: ∀A,Ow w v (.sl sz n (pre++(cs++post))) A->∃Vs,Vs.length=slN cs/\∃A1 A2,Ow w v (.sl sz n (pre++(opnC cs Vs++post))) A1/\sats w (opnI cs Vs) A2/\(A1++A2).Perm A:=by
  intro A D;generalize f:pre++(cs++post)=ds at D;cases D with
  | nil=>
    have a:pre= []:=by cases pre<;>simp_all
    have c:cs= []:=by subst a;cases cs<;>simp_all
    have d:post= []:=by subst a c;simpa using f
    subst a c d;exact ⟨[],rfl,[],[],.nil sz,rfl,.refl _⟩
  | row b n cap e sz cur vs _ S g i j hs k l=>
    subst f;obtain ⟨S1,J,rfl,a,c⟩:=l.split;obtain ⟨E,F,rfl,d,m⟩:=c.split;obtain ⟨Vs,hl,o,p⟩:=d.opn;refine ⟨Vs,hl,b::(S1++([]++F)),E,?_,p,?_⟩
    ·refine .row b n cap e sz cur vs _ _ g i j hs k ?_;have:=a.append (o.append m)
     rwa [Bl,Bl]at this
    ·grind
 obtain ⟨os,tape,output,size,base,S,I,q,s⟩:=h;obtain ⟨A,B,rfl,D,G⟩:=I;obtain ⟨Vs,hl,A1,A2,a,c,t⟩:=key A D;refine ⟨Vs,hl,os,tape,output,size,base,A1++(A2++B),⟨A1,A2++B,rfl,a,zb0.2 ⟨A2,B,rfl,c,G⟩⟩,?_,?_⟩
 ·grind
 ·grind
theorem Ow.cls {w:Wo} {v:Va} {sz n:Nat} {pre cs post ds:List C} {js:J5} {A B:J4} (f:Cls cs js ds) (E:Ow w v (.sl sz n (pre++(cs++post))) A) (F:sats w js B):
 ∃D,Ow w v (.sl sz n (pre++(ds++post))) D/\D.Perm (A++B):=by
 generalize g:pre++(cs++post)=xs at E;cases E with
 | nil=>
   have a:pre= []:=by cases pre<;>simp_all
   have c:cs= []:=by subst a;cases cs<;>simp_all
   have d:post= []:=by subst a c;simpa using g
   subst a c d;cases f;rw[show B= [] from F];exact ⟨[],.nil sz,.refl _⟩
 | row b n cap e sz cur vs _ S i j k hs l m=>
   subst g;obtain ⟨S1,I,rfl,a,c⟩:=m.split;obtain ⟨J,G,rfl,d,o⟩:=c.split;obtain ⟨D,h,q⟩:=Ows.cls f d F;refine ⟨b::(S1++(D++G)),?_,?_⟩
   ·refine .row b n cap e sz cur vs _ _ i j k hs l ?_;have s:=h.length;have p:=a.append (h.append o);have t:=d.length
    rwa [Bl,Bl]at p
   ·grind
def St.cls {w0 w:Wo} {S0:J4} {v:Va} {sz n:Nat} {pre cs post ds:List C} {js r:J5} (a:Cls cs js ds) (h:St w0 S0 (.own v (.sl sz n (pre++(cs++post)))::(js++r)) w):
    St w0 S0 (.own v (.sl sz n (pre++(ds++post)))::r) w:=by have b:St w0 S0 ((.own v (.sl sz n (pre++(cs++post)))::js)++r) w:=h;refine St.trade (js:=[.own v (.sl sz n (pre++(ds++post)))]) b λA D=>?_;obtain ⟨A1,A2,rfl,c,d⟩:=D;obtain ⟨B,e,f⟩:=Ow.cls a c d;exact ⟨B,⟨B,[],by simp,e,rfl⟩,f⟩
def hl [Enc α] (l:List α) (k:Nat) (zs:List C):C:=.sl (Enc.sz α) l.length ((l.take k).flatMap Enc.enc++(zs++(l.drop (k+1)).flatMap Enc.enc))
theorem zub [Enc α] {x:α} (a:l[k]? =some x):l.flatMap (Enc.enc (α:=α))=(l.take k).flatMap Enc.enc++(Enc.enc x++(l.drop (k+1)).flatMap Enc.enc):=by
 obtain ⟨b,rfl⟩:=Bt.1 a;have h:l=l.take k++l[k]::l.drop (k+1):=by rw[<-Dq b,Bl]
 grind
def znh [Enc α] {x:α} (a:l[k]? =some x):lc l=hl l k (Enc.enc x):=by unfold lc hl;rw[zub a]
def zvS [Enc α] {x y:α} (a:l[k]? =some x):lc (l.set k y)=hl l k (Enc.enc y):=by
 have b:=(Bt.1 a).1;have c:(l.set k y)[k]? =some y:=by rw[Hi,iP rfl,iP b]
 unfold lc hl;rw[zub c,El,List.drop_set_of_lt (by omega),List.take_set_of_le (Bz _)]
def Tup:Nat->Type
 | 0=>Unit
 | 1=>Va
 | n+2=>Va × Tup (n+1)
def tupL:(n:Nat)->Tup n->J3
 | 0,_=>[]
 | 1,(v:Va)=>[v]
 | n+2,(x:Va × Tup (n+1))=>x.1::tupL (n+1) x.2
def znu: ∀(n:Nat) (Vs:J3),Vs.length=n->∃X:Tup n,tupL n X=Vs
 | 0,Vs,h=>⟨(),by simp only[List.length_eq_zero_iff]at h;rw[h];rfl⟩
 | 1,[V],_=>⟨(V:Va),rfl⟩
 | n+2,V::Vs,h=>by obtain ⟨X,A⟩:=znu (n+1) Vs (by simpa using h);exact ⟨((V,X):Va × Tup (n+1)),by show V::tupL (n+1) X=_;rw[A]⟩
section
variable {P:Pm} {w0:Wo} {S0:J4}
variable {pos:String}
def Gh (w0:Wo) (S0:J4) (is:J5) (is':X->J5):Prop:=∀w,St w0 S0 is w->∃x,St w0 S0 (is' x) w
def Gt {is':X->J5} {l:List Oper} (g:Gh w0 S0 is is') (h: ∀x,TO P w0 S0 m n fr (is' x) ops l Q):TO P w0 S0 m n fr is ops l Q:=by intro r b a w c hs;obtain ⟨x,d⟩:=g w hs;exact h x r b a w c d
def Gw {is':X->J5} {c:Code} (g:Gh w0 S0 is is') (h: ∀x,TW P w0 S0 m n fr (is' x) c Q):TW P w0 S0 m n fr is c Q:=by intro r b a w d hs;obtain ⟨x,e⟩:=g w hs;exact h x r b a w d e
def TE.ghost {is':X->J5} {e:Exit} (g:Gh w0 S0 is is') (h: ∀x,TE w0 S0 m n fr (is' x) e Q):TE w0 S0 m n fr is e Q:=by intro r b a w c hs;obtain ⟨x,d⟩:=g w hs;exact h x r b a w c d
def Ga {is':X->J5} (g:Gh w0 S0 is is') (h: ∀x,TA P w0 S0 m n fr (is' x) H ops fuel L Q):TA P w0 S0 m n fr is H ops fuel L Q:=by intro r b a w c hs;obtain ⟨x,d⟩:=g w hs;exact h x r b a w c d
def Gh.open [Enc α] {x:α} {r:J5} (q k:Nat) (A:J4) (b:pulls A is=some (.own v (lc l)::r)) (c:l[k]? =some x) (d:slN (Enc.enc x)=q):
    Gh w0 S0 is (λX:Tup q=>.own v (hl l k (opnC (Enc.enc x) (tupL q X)))::(opnI (Enc.enc x) (tupL q X)++r)):=by intro w h;have a:=h.pulls A b;rw[znh c]at a;obtain ⟨Vs,e,f⟩:=St.opn a;obtain ⟨X,rfl⟩:=znu q Vs (e.trans d);exact ⟨X,f⟩
def Gh.close [Enc α] {x y:α} {zs ys:List C} {js r:J5} (A:J4) (a:pulls A is=some (.own v (hl l k zs)::(js++r))) (b:l[k]? =some x) (c:Cls zs js ys) (d:Enc.enc y=ys):
    Gh w0 S0 is (λ_:Unit=>.own v (lc (l.set k y))::r):=by intro w h;subst d;refine ⟨(),?_⟩;rw[zvS b];exact St.cls c (h.pulls A a)
def Gh.nilItem (sz:Nat):Gh w0 S0 is (λ_:Unit=>.own (.slice none 0 0) (.sl sz 0 [])::is):=λ_ h=>⟨(),h.nilItem sz⟩
theorem Y.load_hole [Enc α] {c:Nat} {zs:List C} (g:kindB P t=some (ag,s)) (D:Enc.sz α=sz) (hi:is[i]? =some (.own v (hl l k zs))) (E:l[k]? =some z) (h:ev fr x=some (elP v (k*sz+c))) (F:valsR ((zs.drop c).take s)=some us) (G:Bw us.length s=true) (m:(ag||Bw s 1)=true) (b:loaded ag us=some u) (H:Bw zs.length sz=true):
 Y P w0 S0 n fr is ⟨dst,.load t x,ty,pos,aft,gd⟩ u:=by
 subst D;intro a w o hs;have I:=(Bt.1 E).1;have J:k*Enc.sz α+Enc.sz α<=l.length*Enc.sz α:=by rw[<-Do];exact An _ I
 have a1:zs.length=Enc.sz α:=by simpa using H
 have K:((l.take k).flatMap (Enc.enc (α:=α))).length=k*Enc.sz α:=by rw[zbh,Bf,Eo (by omega)]
 obtain ⟨A,hA,_⟩:=zcj hi hs.own.choose_spec.1;obtain ⟨T,hT,_⟩:=Ow.rd hA;unfold hl at hT;generalize L:(l.take k).flatMap (Enc.enc (α:=α))++(zs++(l.drop (k+1)).flatMap Enc.enc)=cs at hT;generalize a2:l.length=ln at hT J;cases hT with
 | nil=>omega
 | row p n' cap _ vs _ S M h2 h3 y=>
   subst L;have h5:=y.length;obtain ⟨S1,S2,rfl,_,e⟩:=y.split;rw[K]at e;have N:zs++(l.drop (k+1)).flatMap (Enc.enc (α:=α))=zs.take c++((zs.drop c).take s++((zs.drop c).drop s++(l.drop (k+1)).flatMap Enc.enc)):=by
    conv=>lhs;rw[<-Bl c zs,<-Bl s (zs.drop c)]
    simp
   rw[N]at e;obtain ⟨S3,S4,rfl,_,O⟩:=e.split;obtain ⟨S5,S6,rfl,f,_⟩:=O.split;have d:=f.valsR F;have hl':us.length=s:=by simpa using G
   have B:=f.length;rw[<-d]at hl' b;by_cases Q:s=0
   ·subst Q;have:ag=true:=by simpa using m
    subst this;have R:us= []:=Bh (by rw[d]at hl';exact hl');subst R;have:=zb8 (P:=P) (w:=w) (a:=p.add (k*Enc.sz α+c)) (us:=[]) (v:=.agg #[]) g (by simp) (.inl ⟨rfl,rfl,rfl⟩);rw[d]at b;simp only[loaded,cT,Ba]at b;subst b;simp[execOp,o.eval h,elP,Instr.loadAt,Instr.sureAddr,this]
   ·have a3:c<=zs.length:=by grind
    have U:(zs.take c).length=c:=by rw[Bf];omega
    rw[U]at f hl' d B b;have V:(ag=true/\us.length=s/\u= .agg us.toArray)\/(ag=false/\us= [u]):=by
     rw[<-d];unfold loaded at b;cases ag with
     | true=>left;simp only[cT,Ba]at b;exact ⟨rfl,hl',b.symm⟩
     | false=>
       right;simp only[cF]at b;have M:s=1:=by simpa using m
       refine ⟨rfl,?_⟩;generalize hq:List.take ((zs.drop c).take s).length (List.drop c (List.drop (k*Enc.sz α) vs))=q at hl' b
       match q,hl',b with
       | [q],_,b=>simp at b;rw[b]
       | [],hl',_=>simp at hl';omega
       | _::_::_,hl',_=>simp at hl';omega
    have W: ∀j,j<us.length->w.cell? ((p.add (k*Enc.sz α+c)).add j)=us[j]?:=by
     intro j X;have Z:j<((zs.drop c).take s).length:=by rw[<-B,d];exact X
     rw[add_add,<-d,By,iP Z,Di,Di];grind
    have:=zb8 (P:=P) g W V;simp[execOp,o.eval h,elP,Instr.loadAt,Instr.sureAddr,this]
def Ows.of_valsR {w:Wo} : ∀{cs:List C} {vs:J3},valsR cs=some vs->(∀v∈vs,v.oneCell'=true)->Ows w vs cs []
 | [],vs,h,_=>by simp[valsR]at h;subst h;exact .nil
 | c::cs,vs,h,f=>by
   unfold valsR at h;cases d:valR c with
   | none=>rw[d]at h;simp at h
   | some u=>
     cases e:valsR cs with
     | none=>rw[d,e]at h;simp at h
     | some A=>
       rw[d,e]at h;simp only[Ba]at h;subst h;have g:Ow w u c []:=by
        cases c with
        | int k n=>simp[valR]at d;subst d;exact .int k n
        | bool b=>simp[valR]at d;subst d;exact .bool b
        | str s=>simp[valR]at d;subst d;exact .str s
        | raw v=>simp[valR]at d;subst d;exact .raw v (f v (by simp))
        | any=>simp[valR]at d
        | sl a b c=>simp[valR]at d
       exact .cons u c [] A cs [] g (Ows.of_valsR e λv i=>f v (by simp[i]))
def Ow.noSR (h:Ow w u c S) (a:valR c=some v):S= []:=by cases h<;>simp_all[valR]
def Ows.noSR {w:Wo} : ∀{us vs:J3} {cs:List C} {S:J4},Ows w us cs S->valsR cs=some vs->S= []
 | _,_,[],_,h,_=>by cases h;rfl
 | _,vs,c::cs,_,h,a=>by
   cases h with
   | cons v c S B cs T e f=>
     unfold valsR at a;cases b:valR c with
     | none=>rw[b]at a;simp at a
     | some u=>
       cases d:valsR cs with
       | none=>rw[b,d]at a;simp at a
       | some A=>rw[e.noSR b,Ows.noSR f d];rfl
def zvk (p z q us:J3) (c:Nat) (h:c+us.length<=z.length):splice (p++(z++q)) (p.length+c) us=p++(splice z c us++q):=by rw[zfJ,zlc _ _ _ _ h]
theorem Ef.store_hole [Enc α] {y:Od} {c:Nat} {zs zs':List C} {zv:J3} (i:Nat) (X:kindB P t=some (ag,s)) (Y:Enc.sz α=sz) (hi:is[i]? =some (.own v (hl l k zs))) (Z:l[k]? =some z) (f:ev fr x=some (elP v (k*sz+c))) (hy:ev fr y=some u) (hv:Cel w0 S0 is u us) (a0:Bw us.length s=true) (a1:Bw zs.length sz=true) (a2:Fm (c+us.length) sz=true) (o:valsR zs=some zv) (a3:valsR zs'=some (splice zv c us)) (a4:is.set i (.own v (hl l k zs'))=is'):
 Ef P w0 S0 n fr is ⟨none,.store t x y,ty,pos,aft,gd⟩ (λ_:Unit=>undef) (λ_=>is'):=by
 subst Y;have b9:c+us.length<=Enc.sz α:=Cu a2;have a5:zs.length=Enc.sz α:=by simpa using a1
 intro a w K Q G D hK;obtain ⟨a6,h1⟩:=hv w D;have a7:=(Bt.1 Z).1;have c0:k*Enc.sz α+Enc.sz α<=l.length*Enc.sz α:=by rw[<-Do];exact An _ a7
 have c1:((l.take k).flatMap (Enc.enc (α:=α))).length=k*Enc.sz α:=by rw[zbh,Bf,Eo (by omega)]
 have H: ∀A,Ow w v (hl l k zs) A->∃b cap cur e' p q S1 S2,v= .slice (some ⟨b,0,none⟩) l.length cap/\A=b::(S1++S2)/\w.heap[b]? =some (.cells cur e' (0,0))/\l.length<=cap/\cap<=maxLen/\cap*Enc.sz α<=cur.size/\
  cur.toList.take (l.length*Enc.sz α)=p++(zv++q)/\p.length=k*Enc.sz α/\(∀u∈zv,u.oneCell'=true)/\Ows w p ((l.take k).flatMap Enc.enc) S1/\Ows w q ((l.drop (k+1)).flatMap Enc.enc) S2:=by
  intro A hA
  unfold hl at hA
  generalize hg:(l.take k).flatMap (Enc.enc (α:=α))++(zs++(l.drop (k+1)).flatMap Enc.enc)=cs at hA
  generalize I:l.length=ln at hA
  cases hA with
  | nil=>omega
  | row b n cap e sz cur vs cs S j hc hm hs m hr=>
    subst hg;subst I;obtain ⟨S1,S2,rfl,B,k2⟩:=hr.split;obtain ⟨S3,S4,rfl,g,E⟩:=k2.split;have k5:=g.length;obtain ⟨T,hT,_⟩:=g.rds;have J:=hT.valsR o;have k7:=g.noSR o;subst k7;rw[J]at g;refine ⟨b,cap,cur,e,_,_,S1,S4,rfl,by simp,j,hc,hm,hs,?_,?_,g.oneCells,B,E⟩
    ·rw[m,<-J,Bl,Bl]
    ·grind
 obtain ⟨A0,hA0,_⟩:=zcj hi D.own.choose_spec.1;obtain ⟨b,cap,cur,e',p,q,S1,S2,rfl,_,j,L,a8,M,m,a9,N,_,_⟩:=H A0 hA0;have c2:zv.length=Enc.sz α:=by have h2:=congrArg Ig m;have:(Ows.of_valsR (w:=w) o N).length=_:=rfl;rw[(Ows.of_valsR (w:=w) o N).length,a5]
 have b0:l.length*Enc.sz α<=cap*Enc.sz α:=An _ L;have O:k*Enc.sz α+c+us.length<=cur.toList.length:=by rw[Bp (xs:=cur)];omega
 have b1:=zeP (P:=P) (off:=k*Enc.sz α+c) X j a6 a0 h1 (by rw[<-Bp (xs:=cur)];exact O);have he:(execOp a.eval ⟨none,.store t x y,ty,pos,aft,gd⟩).run P w= .ok .skip (w.setRow b (splice cur.toList (k*Enc.sz α+c) us).toArray):=by simp[execOp,G.eval f,G.eval hy,elP,Instr.storeAt,Instr.sureAddr,add_lit,b1]
 unfold Oper.wp;rw[he];refine hK () _ ?_;subst a4;refine D.upd hi λA hA b3=>?_;obtain ⟨d,cap2,cur2,F,R,U,T1,T2,c3,rfl,V,_,_,_,b4,c4,_,B,k2⟩:=H A hA;obtain ⟨rfl,rfl⟩:d=b/\cap2=cap:=by simp_all
 obtain ⟨rfl,rfl⟩:cur2=cur/\F=e':=by rw[j]at V;cases V;exact ⟨rfl,rfl⟩
 have b5:R=p:=by have h2:=congrArg (List.take (k*Enc.sz α)) (b4.symm.trans m);grind
 subst b5;have b6:U=q:=by simp_all
 subst b6;have b7: ∀x∈T1++T2,x≠d:=by grind
 have W: ∀x∈T1++T2,(w.setRow d (splice cur2.toList (k*Enc.sz α+c) us).toArray).heap[x]? =w.heap[x]?:=λx f=>(Chg.setRow w d _).keep x (by
  rcases Bm.1 f with h | h
  ·exact B.lt x h
  ·exact k2.lt x h) (by simpa using b7 x f)
 refine ⟨d::(T1++([]++T2)),?_,?_,by simpa using b3,λx f=>.inl (by simpa using f)⟩
 ·refine ⟨(Chg.setRow w d _).os,(Chg.setRow w d _).tape,(Chg.setRow w d _).output,(Chg.setRow w d _).size,λx f I=>(Chg.setRow w d _).keep x f ?_⟩;simp_all
 ·have b8:(splice cur2.toList (k*Enc.sz α+c) us).length=cur2.size:=by rw[zgk _ _ _ O,Bp]
  show Ow _ _ (hl l k zs') _;unfold hl;refine .row d l.length cap2 F (Enc.sz α) _ (R++(splice zv c us++U)) _ _ (setRow_heap w d _ _ F _ j) L a8 (by simpa[b8] using M) ?_ ?_
  ·rw[Ea,zn6 _ _ _ _ (by omega) (by rw[Bp (xs:=cur2)];exact Cv b0 M),m,<-a9,zvk _ _ _ _ _ (by omega)]
  ·have g:=B.keep (w':=w.setRow d (splice cur2.toList (k*Enc.sz α+c) us).toArray) λx f=>W x (by simp[f]);have E:=k2.keep (w':=w.setRow d (splice cur2.toList (k*Enc.sz α+c) us).toArray) λx f=>W x (by simp[f]);refine g.append ((Ows.of_valsR a3 ?_).append E);intro u hu;simp only[splice,Bm]at hu;grind
def elv (w:Wo) (v:Va) (j:Nat):Va:=match v with
 | .slice (some a) _ _=>(w.cell? (a.add j)).getD undef
 | _=>undef
def bvals (w:Wo) (v:Va) (b:Nat):Nat->List C->J3
 | _,[]=>[]
 | j,c::r=>(match valR c with | some u=>u | none=>elv w v (b+j))::bvals w v b (j+1) r
theorem zsp {w w':Wo} {v:Va} {b:Nat} : ∀{us:J3} {cs:List C} {S:J4} {j:Nat},Rds w' us cs S->(∀i u,us[i]? =some u->elv w v (b+(j+i))=u)->us=bvals w v b j cs
 | _,[],_,_,h,_=>by cases h;rfl
 | _,c::cs,_,j,h,a=>by
   cases h with
   | cons u c S us cs T d e=>
     unfold bvals;have ih:=zsp (w:=w) (v:=v) (b:=b) (j:=j+1) e λi u hi=>by have:=a (i+1) u (by simpa using hi);grind
     rw[<-ih];congr 1;cases f:valR c with
     | some q=>exact d.valR f
     | none=>exact (a 0 u (by simp)).symm
theorem Base.row {v:Va} {sz k:Nat} {cs:List C} (h:Base w0 S0 v (.sl sz k cs)) (c:0<k*sz): ∃a cap vs S,v= .slice (some a) k cap/\vs.length=k*sz/\(∀j,j<k*sz->w0.cell? (a.add j)=vs[j]?)/\Rds w0 vs cs S/\(∀b∈S,b∉S0)/\a.block<w0.heap.size/\a.block∉S0:=by
 obtain ⟨F,A,d⟩:=h;have e:=A.lt;cases A with
 | nil=>omega
 | row a n cap sz vs cs S f g i l=>grind
theorem Rds.at {w:Wo} : ∀{vs:J3} {cs:List C} {S:J4} {j:Nat} {c:C},Rds w vs cs S->cs[j]? =some c->∃v T,vs[j]? =some v/\Rd w v c T/\∀b∈T,b∈S
 | _,[],_,_,_,_,h=>by simp at h
 | _,c::cs,_,0,d,h,a=>by
   cases h with
   | cons u c S us cs T f e=>grind
 | _,c::cs,_,j+1,d,h,a=>by
   cases h with
   | cons u c S us cs T f e=>simp only[Du]at a;obtain ⟨v,U,g,i,k⟩:=Rds.at e a;grind
theorem Base.el [Enc α] {c:Nat} {x:α} {d:C} (e:Base w0 S0 v (lc l)) (f:l[k]? =some x) (g:Enc.sz α=sz) (h:(Enc.enc x)[c]? =some d):Base w0 S0 (elv w0 v (k*sz+c)) d:=by
 subst g;have i:=(Bt.1 f).1;have j:c<Enc.sz α:=by rw[<-Enc.len x];exact (Bt.1 h).1
 have t:k*Enc.sz α+Enc.sz α<=l.length*Enc.sz α:=by rw[<-Do];exact An _ i
 obtain ⟨a,cap,vs,S,rfl,w,y,m,n,_,_⟩:=e.row (by omega);obtain ⟨r,o⟩:=zj1 l k c x f (Nat.le_of_lt j);have p:(l.flatMap (Enc.enc (α:=α)))[k*Enc.sz α+c]? =some d:=by have:=congrArg (λq:List C=>q[0]?) o;grind
 obtain ⟨u,T,z,A,s⟩:=m.at p;refine ⟨T,?_,λb e=>n b (s b e)⟩;have:elv w0 (.slice (some a) l.length cap) (k*Enc.sz α+c)=u:=by unfold elv;grind
 simp_all
theorem Y.load_base [Enc α] {c:Nat} (o:kindB P t=some (ag,s)) (p:Enc.sz α=sz) (y:Base w0 S0 v (lc l)) (h:l[k]? =some z) (A:ev fr x=some (elP v (k*sz+c))) (hl:Bw (((Enc.enc z).drop c).take s).length s=true) (B:Dj 0 s=true) (C:(ag||Bw s 1)=true) (b:loaded ag (bvals w0 v (k*sz) c (((Enc.enc z).drop c).take s))=some u):
 Y P w0 S0 n fr is ⟨dst,.load t x,ty,pos,aft,gd⟩ u:=by
 subst p;intro a w D hs;have E:=(Bt.1 h).1;have U:k*Enc.sz α+Enc.sz α<=l.length*Enc.sz α:=by rw[<-Do];exact An _ E
 have V:0<s:=by simpa using B
 have hl':(((Enc.enc z).drop c).take s).length=s:=by simpa using hl
 have W:c+s<=Enc.sz α:=by rw[Bf,Cy,Enc.len]at hl';omega
 obtain ⟨f,cap,vs,S,rfl,F,G,m,X,H,I⟩:=y.row (by omega);have Z:=hs.base _ H I;have J: ∀j,j<l.length*Enc.sz α->w.cell? (f.add j)=vs[j]?:=by intro j g;rw[<-G j g];refine zmp ?_;rw[add_block];trivial
 obtain ⟨r,K⟩:=zj1 l k c z h (by omega);have L:l.flatMap (Enc.enc (α:=α))=(l.flatMap (Enc.enc (α:=α))).take (k*Enc.sz α+c)++(((Enc.enc z).drop c).take s++(((Enc.enc z).drop c).drop s++r)):=by
  conv=>lhs;rw[<-Bl (k*Enc.sz α+c) (l.flatMap (Enc.enc (α:=α)))]
  rw[K];conv=>lhs;rw[<-Bl s ((Enc.enc z).drop c)]
  simp
 have M:((l.flatMap (Enc.enc (α:=α))).take (k*Enc.sz α+c)).length=k*Enc.sz α+c:=by rw[Bf,zbh];omega
 rw[L]at m;obtain ⟨S1,S2,rfl,_,N⟩:=m.split;obtain ⟨S3,S4,rfl,e,_⟩:=N.split;rw[M]at e;have d:=e.length;rw[hl']at e d;have O:((vs.drop (k*Enc.sz α+c)).take s)=bvals w0 (.slice (some f) l.length cap) (k*Enc.sz α) c (((Enc.enc z).drop c).take s):=by
  refine zsp e λi q hi=>?_;have Q:i<s:=by grind
  rw[By,iP Q,Di]at hi;unfold elv;grind
 rw[<-O]at b;have R:(ag=true/\((vs.drop (k*Enc.sz α+c)).take s).length=s/\u= .agg ((vs.drop (k*Enc.sz α+c)).take s).toArray)\/(ag=false/\((vs.drop (k*Enc.sz α+c)).take s)= [u]):=by
  generalize hq:(vs.drop (k*Enc.sz α+c)).take s=q at b d;unfold loaded at b;cases ag with
  | true=>left;simp only[cT,Ba]at b;exact ⟨rfl,d,b.symm⟩
  | false=>
    right;simp only[cF]at b;have F:s=1:=by simpa using C
    refine ⟨rfl,?_⟩
    match q,d,b with
    | [q],_,b=>simp at b;rw[b]
    | [],d,_=>simp at d;omega
    | _::_::_,d,_=>simp at d;omega
 have:=zb8 (P:=P) (a:=f.add (k*Enc.sz α+c)) o (λj g=>by
  have T:j<s:=by simp only[Bf]at g;omega
  rw[add_add,J _ (by omega),By,iP T,Di]) R
 simp[execOp,D.eval A,elP,Instr.loadAt,Instr.sureAddr,this]
def Cels (w0:Wo) (S0:J4) (is:J5):J3->List J3->Prop
 | [],[]=>True
 | V::Vs,us::uss=>Cel w0 S0 is V us/\Cels w0 S0 is Vs uss
 | _,_=>False
theorem Cels.get {w:Wo} (hs:St w0 S0 is w): ∀{Vs:J3} {uss:List J3},Cels w0 S0 is Vs uss->Vs.map (λV=>V.cells.toList)=uss/\∀us∈uss,∀u∈us,u.oneCell'=true
 | [],[],_=>⟨rfl,by simp⟩
 | V::Vs,us::uss,h=>by obtain ⟨a,b⟩:=h;obtain ⟨c,d⟩:=a w hs;obtain ⟨e,f⟩:=Cels.get hs b;grind
 | [],_::_,h=>h.elim
 | _::_,[],h=>h.elim
theorem Ef.buildSliceR {Vs:J3} {z:Va} (uss:List J3) (cs:List C) (v:elemB P t=some (e,sz,by_)) (y:zeroB P e=some z) (A:partVs fr 0 ps=some Vs) (B:Bw Vs.length len=true) (D:uss.all (λus=>Bw us.length sz)=true) (f:Fm (len*sz) 16777216=true) (E:Dj 0 sz=true) (F:Cels w0 S0 is Vs uss) (G:valsR cs=some uss.flatten):
 Ef P w0 S0 n fr is ⟨d,.buildSlice t len ps.toArray,ty,pos,aft,gd⟩ (λb:Nat=>.slice (some ⟨b,0,none⟩) len len) (λb=>.own (.slice (some ⟨b,0,none⟩) len len) (.sl sz len cs)::is):=by
 obtain ⟨c,ti,g,j,_⟩:=zA v;have W:Vs.length=len:=by simpa using B
 intro a w K Q H hs hK;obtain ⟨k,L⟩:=F.get hs;have M: ∀us∈uss,us.length=sz:=λus h=>by simpa using Ey.1 D us h
 have Z: ∀V∈Vs,V.cells.size=sz:=by
  intro V U;have:V.cells.toList∈uss:=by rw[<-k];exact Fx.2 ⟨V,U,rfl⟩
  grind
 have m:Vs.flatMap (λV=>V.cells.toList)=uss.flatten:=by rw[List.flatMap_def,k]
 have o:uss.flatten.length=len*sz:=by
  rw[<-m];have: ∀(l:J3),(∀V∈l,V.cells.size=sz)->(l.flatMap (λV=>V.cells.toList)).length=l.length*sz:=by
   intro l;induction l with
   | nil=>intro _;simp
   | cons x l ih=>intro h;rw[Ct,Cq,ih λV U=>h V (by simp[U]),Bp,h x (by simp),Ez,Do];omega
  grind
 have p: ¬len*sz>2 ^ 24:=by have:=Cu f;omega
 have N: ∀T:Array Va,((Gn (len*sz)).map (T[·% T.size]!)).size=len*sz:=λT=>by simp
 have q: ∀T:Array Va,Instr.fill (λi=>some (i*sz,sz)) ((Gn (len*sz)).map (T[·% T.size]!)) (ps.map λ(i,x)=>(i,a.eval x))=some (uss.flatten).toArray:=by intro T;rw[zlG H A,zms sz Vs 0 _ Z (by simp[W])];congr 2;rw[m];simp only[splice,Ev,Hz,Fc,Dy];simp_all
 have I:(execOp a.eval ⟨d,.buildSlice t len ps.toArray,ty,pos,aft,gd⟩).run P w= .ok (.value (.slice (some ⟨w.heap.size,0,none⟩) len len)) (w.alloc (.cells (uss.flatten).toArray e)):=by
  by_cases s:len*sz=0
  ·simp only[execOp,Instr.buildSlice,Sem.run_bind,run_underlying c,Result.andThen_ok,sizeOf,typeInfo,run_program,g,Sem.run_pure,j,iN p,iP s];have:=q #[];simp only[Eh];rw[this];rfl
  ·simp only[execOp,Instr.buildSlice,Sem.run_bind,run_underlying c,Result.andThen_ok,sizeOf,typeInfo,run_program,g,Sem.run_pure,j,iN p,iN s,zgM y];have:=q z.cells;simp only[Eh];rw[this];rfl
 unfold Oper.wp;rw[I];refine hK w.heap.size _ ?_;have J:len<=maxLen:=by have O:=Cu f;have R:len<=len*sz:=Gk _ (by simpa using E);simp only[maxLen];omega
 refine hs.add (Chg.alloc w _ []) _ [w.heap.size] ?_ (by simp) (by simp);refine .row w.heap.size len len e _ _ _ _ [] (heap_alloc_new w _) (Bz _) J (Fz (by rw[Ep,o]:_=_).symm) rfl ?_;rw[Ea,Dk (by rw[o];exact Bz _)];refine Ows.of_valsR G λu c=>?_;grind
def valZ:C->Option Va
 | .int k n=>some (.int k n)
 | .bool b=>some (.bool b)
 | .str s=>some (strV s)
 | .sl _ 0 []=>some (.slice none 0 0)
 | _=>none
def valsZ:List C->Option J3
 | []=>some []
 | c::r=>match valZ c,valsZ r with
   | some v,some vs=>some (v::vs)
   | _,_=>none
def Ows.of_valsZ {w:Wo} : ∀{cs:List C} {vs:J3},valsZ cs=some vs->Ows w vs cs []
 | [],vs,h=>by simp[valsZ]at h;subst h;exact .nil
 | c::cs,vs,h=>by
   unfold valsZ at h;cases a:valZ c with
   | none=>rw[a]at h;simp at h
   | some u=>
     cases b:valsZ cs with
     | none=>rw[a,b]at h;simp at h
     | some A=>
       rw[a,b]at h;simp only[Ba]at h;subst h;have d:Ow w u c []:=by
        unfold valZ at a;split at a<;>cases a
        ·exact .int _ _
        ·exact .bool _
        ·exact .str _
        ·exact .nil _
       exact .cons u c [] A cs [] d (Ows.of_valsZ b)
theorem zv3 (zs:J3) (sz:Nat) (b:zs.length=sz) (c:0<sz) (k:Nat):(madeCells zs.toArray (k*sz)).toList=(Bo k zs).flatten:=by
 subst b;apply Ee;intro j;unfold madeCells;simp only[Hl,Hb,Fi];have key: ∀k j:Nat,((Bo k zs).flatten)[j]? =if j<k*zs.length then zs[j % zs.length]? else none:=by
  intro k;induction k with
  | zero=>intro j;simp
  | succ k ih=>
    intro j;simp only[Gv,List.flatten_cons,Ew];by_cases a:j<zs.length
    ·rw[iP a,iP (by rw[Do];omega),Hn a]
    ·rw[iN a,ih];have:(j - zs.length) % zs.length=j % zs.length:=(He (by omega)).symm;grind
 rw[key];by_cases d:j<k*zs.length
 ·have e:j % zs.length<zs.length:=Hy _ c;simp_all
 ·grind
def Ows.repl {w:Wo} {α:Type} [Enc α] {z:α} {zs:J3} (h:Ows w zs (Enc.enc z) []): ∀k:Nat,Ows w (Bo k zs).flatten ((Bo k z).flatMap Enc.enc) []
 | 0=>.nil
 | k+1=>by have:=h.append (Ows.repl h k);trivial
def Ef.mkN [Enc α] {y:Od} {k:Ik} {len I:Int} {l c:Nat} (o:mkLen by_ I=some c) (hl:len=(l:Int)) (p:l<=c) (b:elemB P t=some (e,sz,by_)) (d:zeroB P e=some zv) (s:zv.cells=zs.toArray) (f:valsZ (Enc.enc z)=some zs) (u:Enc.sz α=sz) (A:ev fr x=some (.int k len)) (B:ev fr y=some (.int k' I)):
    Ef P w0 S0 n fr is ⟨dst,.makeSlice t x y,ty,pos,aft,gd⟩ (λv:Va=>v) (λv=>.own v (lc (Bo l z))::is):=by
 obtain ⟨C,ti,g,D,E⟩:=zA b;subst u;obtain ⟨rfl,F,G⟩:=zlE o;subst hl;have H:ti.zero=some zv:=by unfold zeroB at d;rw[g]at d;simpa using d
 intro a w K Q h hs J;have i:=run_make (P:=P) w t e ti zv C g H k k' l c (by omega) (by omega) (by rw[E];exact F) G;simp only[Eg,D,s]at i;have b:(execOp a.eval ⟨dst,.makeSlice t x y,ty,pos,aft,gd⟩).run P w= .ok (.value (.slice (some ⟨w.heap.size,0,none⟩) l c)) (w.alloc (.cells (madeCells zs.toArray (c*Enc.sz α)) e)):=by simp[execOp,h.eval A,h.eval B,i]
 unfold Oper.wp;rw[b];refine J _ _ ?_;refine hs.add (Chg.alloc w _ []) _ [w.heap.size] ?_ (by simp) (by simp);show Ow _ _ (.sl (Enc.sz α) (Bo l z).length _) _;rw[Dp];have j:zs.length=Enc.sz α:=by rw[(Ows.of_valsZ (w:=w) f).length,Enc.len]
 have m: ∀q:Nat,(Bo q zs).flatten.length=q*Enc.sz α:=λq=>by simp[j]
 refine .row w.heap.size l c e _ _ ((Bo l zs).flatten) _ [] (heap_alloc_new w _) p (by simp only[maxLen];omega) (Fz (size_madeCells _ _).symm) ?_ (Ows.repl (Ows.of_valsZ f) l);rw[zv3 zs _ j Enc.pos,show c=l+(c - l) by omega,<-Fv,List.flatten_append,Em (by rw[m];exact Bz _),Dk (by rw[m];exact Bz _)]
def Ef.makeN [Enc α] {y:Od} {k:Ik} {len:Int} {c:Nat} (a:mkLen by_ len=some c) (b:elemB P t=some (e,sz,by_)) (d:zeroB P e=some zv) (f:zv.cells=zs.toArray) (g:valsZ (Enc.enc z)=some zs) (h:Enc.sz α=sz) (i:ev fr x=some (.int k len)) (j:ev fr y=some (.int k' len)):
    Ef P w0 S0 n fr is ⟨dst,.makeSlice t x y,ty,pos,aft,gd⟩ (λv:Va=>v) (λv=>.own v (lc (Bo c z))::is):=
 Ef.mkN a (zlE a).1 (Bz _) b d f g h i j
theorem Ef.appendN {y:Od} {z:Va} (ks:J4) (I:(k+j)*by_<=140737488355328) (J:k+j<=9223372036854775807) (L:elemB P t=some (e,sz,by_)) (g:zeroB P e=some z) (M:Bw z.cells.size sz=true) (N:Dj 0 sz=true) (O:pulls ks is=some (.own v (.sl sz k cs):: .own u (.sl sz j ds)::is')) (R:ev fr x=some v) (S:ev fr y=some u):
 Ef P w0 S0 n fr is ⟨d,.call {callee:=.builtin .append,args:=#[x,y],argTypes:=#[t,t]},ty,pos,aft,gd⟩ (λv':Va=>v') (λv'=>.own v' (.sl sz (k+j) (cs++ds))::is'):=by
 obtain ⟨s,ti,h,T,U⟩:=zA L;have V:ti.zero=some z:=by unfold zeroB at g;rw[h]at g;simpa using g
 intro a w K Q C hs hK;have hs':St w0 S0 ([.own v (.sl sz k cs),.own u (.sl sz j ds)]++is') w:=hs.pulls ks O;have key: ∀A,sats w [.own v (.sl sz k cs),.own u (.sl sz j ds)] A->A.Nodup->
  ∃v' w',(Builtin.append_ #[t,t] ty #[v,u]).run P w= .ok v' w'/\∃A',Chg w w' A/\sats w' [.own v' (.sl sz (k+j) (cs++ds))] A'/\A'.Nodup/\∀b∈A',b∈A\/w.heap.size<=b:=by
  rintro A ⟨A1,A2,rfl,l,A3,A4,rfl,W,X⟩ m
  rw[show A4= [] from X,Dl]at m |-
  obtain ⟨us,T1,e1,D,E,rfl⟩:=Ow.ownsRow l
  cases W with
  | nil=>have o:=append_none_any (P:=P) (ty:=ty) s h v k us D;refine ⟨v,w,o,v.ownBlock.toList++T1,Chg.refl _ _,⟨v.ownBlock.toList++T1,[],by rw[Dl],?_,rfl⟩,by simpa using m,λb Y=>.inl (by simpa using Y)⟩;simp_all
  | row b n2 cap2 Z sz2 cur vs _ T2 hh hc hm a5 F p=>
    have a6:j*sz<=cap2*sz:=An _ hc;have G:vs.length=j*sz:=by rw[<-F,Bf,Bp];omega
    have a0: ∀i q,vs[i]? =some q->w.cell? ((⟨b,0,none⟩:Addr).add i)=some q:=by
     intro i q c;have hi:i<j*sz:=by rw[<-G];exact (Bt.1 c).1
     have a1:(⟨b,0,none⟩:Addr).add i=⟨b,i,none⟩:=by unfold Addr.add;split<;>simp_all
     rw[a1,cell_of_row w b i cur Z (0,0) hh,<-c,<-F,By,iP hi];simp
    obtain ⟨v',w',f,r1,r2,H,r4⟩:=append_raw (P:=P) (ty:=ty) s h V T U (by simpa using M) (by simpa using N) D ⟨b,0,none⟩ j cap2 vs G a0 p.oneCells J I;obtain ⟨hndL,hndR,a7⟩:=Da.1 m;obtain ⟨hndV,hndT,hdisV⟩:=Da.1 hndL;obtain ⟨a8,hndT2⟩:=En.1 hndR;have a9:=E.lt;have b0:=p.lt;have a2: ∀q∈T1++T2,w'.heap[q]? =w.heap[q]?:=by
     intro q c;refine H.block q ?_ ?_
     ·grind
     ·grind
    have hO:=(E.append p).keep a2;have a3:Chg w w' ((v.ownBlock.toList++T1)++(b::T2)):=Chg.of_grown H _ λq c=>by simp only[Bm];exact .inl (.inl c)
    refine ⟨v',w',r1,v'.ownBlock.toList++(T1++T2),a3,⟨_,[],by simp,Ow.of_ownsRow r2 hO,rfl⟩,?_,?_⟩
    ·grind
    ·grind
 obtain ⟨SA,hSA⟩:=hs'.own;obtain ⟨A,B,rfl,hA,hB⟩:=zb0.1 hSA.1;obtain ⟨v',w',l,_⟩:=key A hA (Da.1 hSA.2.1).1;have a4:St w0 S0 ([.own v' (.sl sz (k+j) (cs++ds))]++is') w':=hs'.step λA hA hn=>by grind
 have o:(execOp a.eval ⟨d,.call {callee:=.builtin .append,args:=#[x,y],argTypes:=#[t,t]},ty,pos,aft,gd⟩).run P w= .ok (.value v') w':=by simp[execOp,resolve,invoke,builtin,C.eval R,C.eval S,l]
 unfold Oper.wp;rw[o];exact hK v' w' a4
def Ef.appN [Enc α] {y:Od} {z:Va} {k r:List α} (B:J4) (a:app by_ l k=some r) (b:elemB P t=some (e,sz,by_)) (c:zeroB P e=some z) (f:Bw z.cells.size sz=true) (g:Enc.sz α=sz) (h:pulls B is=some (.own v (lc l):: .own u (lc k)::is')) (i:ev fr x=some v) (j:ev fr y=some u):
    Ef P w0 S0 n fr is ⟨d,.call {callee:=.builtin .append,args:=#[x,y],argTypes:=#[t,t]},ty,pos,aft,gd⟩ (λA:Va=>A) (λA=>.own A (lc r)::is'):=by subst g;obtain ⟨rfl,m,o⟩:=zkG a;have:=Ef.appendN (P:=P) (w0:=w0) (S0:=S0) (n:=n) (fr:=fr) (is:=is) (ty:=ty) (pos:=pos) (aft:=aft) (d:=d) (gd:=gd) (t:=t) (e:=e) (x:=x) (y:=y) (cs:=l.flatMap Enc.enc) (ds:=k.flatMap Enc.enc) B m o b c f (by simpa using Enc.pos (α:=α)) h i j;unfold lc;simp_all
end
def piece (l:List α) (lo hi:Int):Option (List α):=if 0<=lo/\lo<=hi/\hi<=l.length then some ((l.drop lo.toNat).take (hi.toNat - lo.toNat)) else none
def zbu {z:List α} (h:piece l lo hi=some z):0<=lo/\lo<=hi/\hi<=l.length/\z=(l.drop lo.toNat).take (hi.toNat - lo.toNat):=by unfold piece at h;simp_all
def subV (v:Va) (sz lo n:Nat):Va:=match v with
 | .slice a _ cap=>.slice (if cap=lo then a else a.map (·.add (lo*sz))) n (cap - lo)
 | _=>undef
theorem Rd.sub [Enc α] {z:List α} {F:J4} (h:Rd w v (lc l) F) (hs:piece l lo hi=some z):
 ∃G,Rd w (subV v (Enc.sz α) lo.toNat (hi.toNat - lo.toNat)) (lc z) G/\∀b∈G,b∈F:=by
 obtain ⟨u,x,m,rfl⟩:=zbu hs;have d:((l.drop lo.toNat).take (hi.toNat - lo.toNat)).length=hi.toNat - lo.toNat:=by rw[Bf,Cy];omega
 have hl:l=l.take lo.toNat++((l.drop lo.toNat).take (hi.toNat - lo.toNat)++(l.drop lo.toNat).drop (hi.toNat - lo.toNat)):=by rw[Bl,Bl]
 unfold lc at h |-
 rw[d];generalize y:(l.drop lo.toNat).take (hi.toNat - lo.toNat)=z at d hl;generalize A:l.length=ln at h m;generalize o:l.flatMap (Enc.enc (α:=α))=cs at h;cases h with
 | nil=>
   have p:lo.toNat=0:=by omega
   have e:hi.toNat - lo.toNat=0:=by omega
   have:z= []:=Bh (by omega);subst this;rw[e,p];exact ⟨[],.nil _,by simp⟩
 | row a n cap sz vs cs S B C q g=>
   by_cases i:cap=lo.toNat
   ·have e:hi.toNat - lo.toNat=0:=by omega
    have:z= []:=Bh (by omega);subst this;rw[e];simp only[subV,iP i];have:=Rd.row (w:=w) a 0 (cap - lo.toNat) (Enc.sz α) [] [] [] (by simp) (Ei _) (λj f=>by simp at f) .nil;grind
   ·subst o;simp only[subV,iN i,Dm];rw[hl,Cx,Cx]at g;obtain ⟨S1,I,rfl,_,s⟩:=g.split;obtain ⟨J,M,rfl,k,_⟩:=s.split;have t:((l.take lo.toNat).flatMap (Enc.enc (α:=α))).length=lo.toNat*Enc.sz α:=by rw[zbh,Bf];congr 1;omega
    rw[t,zbh,d]at k;have D:lo.toNat*Enc.sz α+(hi.toNat - lo.toNat)*Enc.sz α<=ln*Enc.sz α:=by rw[<-Cj];exact An _ (by omega)
    refine ⟨_,Rd.row (a.add (lo.toNat*Enc.sz α)) (hi.toNat - lo.toNat) (cap - lo.toNat) (Enc.sz α) _ _ _ ?_ (by omega) ?_ k,?_⟩
    ·simp;omega
    ·intro j f;rw[add_add,q _ (by omega),By,iP f,Di]
    ·intro b c;rcases Bm.1 c with c | c
     ·refine Bm.2 (.inl ?_);split at c
      ·trivial
      ·rename_i E;rw[add_block]at c;rw[if_neg]
       ·trivial
       ·omega
     ·grind
theorem Can.sub {α:Type} [Enc α] {w0:Wo} {S0:J4} {is:J5} {v:Va} {l z:List α} {lo hi:Int} {sz:Nat} (hs:piece l lo hi=some z) (a:Enc.sz α=sz) (h:Can w0 S0 is v (lc l)):
 Can w0 S0 is (subV v sz lo.toNat (hi.toNat - lo.toNat)) (lc z):=by subst a;intro w S B b;obtain ⟨F,A,c⟩:=h w S B b;obtain ⟨D,d,e⟩:=A.sub hs;grind
def Base.sub {α:Type} [Enc α] {w0:Wo} {S0:J4} {v:Va} {l z:List α} {lo hi:Int} {sz:Nat} (hs:piece l lo hi=some z) (a:Enc.sz α=sz) (h:Base w0 S0 v (lc l)):
    Base w0 S0 (subV v sz lo.toNat (hi.toNat - lo.toNat)) (lc z):=by subst a;obtain ⟨F,B,c⟩:=h;obtain ⟨A,d,e⟩:=B.sub hs;exact ⟨A,d,λb f=>c b (e b f)⟩
def bOp (fr:Fr) (o:Option Od) (n d:Int):Prop:=match o with
 | some x=>∃k,ev fr x=some (.int k n)
 | none=>n=d
section
variable {P:Pm} {w0:Wo} {S0:J4}
variable {pos:String}
def Y.subs {z:List α} {L H:Option Od} (hs:piece l lo hi=some z) (p:elemB P t=some (e,sz,by_)) (q:Can w0 S0 is v (.sl sz' l.length cs)) (h:ev fr x=some v) (F:bOp fr L lo 0) (E:bOp fr H hi l.length):Y P w0 S0 n fr is ⟨dst,.slice t x L H none,ty,pos,aft,gd⟩ (subV v sz lo.toNat (hi.toNat - lo.toNat)):=by
 obtain ⟨c,ti,d,f,_⟩:=zA p;obtain ⟨j,m,D,rfl⟩:=zbu hs;intro a w b s;have key: ∀(A:Option Addr) (cap:Nat),l.length<=cap->(Instr.sliceAt t (.slice A l.length cap) (L.map a.eval) (H.map a.eval) none).run P w= .ok (subV (.slice A l.length cap) sz lo.toNat (hi.toNat - lo.toNat)) w:=by
  intro A cap o;have G: ∀i:Int,0<=i->i<=(cap:Int)->True:=λ_ _ _=>trivial;cases L with
  | none=>
    obtain rfl:lo=0:=F;cases H with
    | none=>obtain rfl:hi=(l.length:Int):=E;simp[Instr.sliceAt,Instr.slice,Instr.sliceBounds,run_underlying c,sizeOf,typeInfo,d,f,subV]
    | some y=>obtain ⟨k,g⟩:=E;simp[Instr.sliceAt,Instr.slice,Instr.sliceBounds,Instr.sliceBound,asIntOf,b.eval g,run_underlying c,sizeOf,typeInfo,d,f,subV,show 0<=hi by omega,show hi<=(cap:Int) by omega]
  | some y=>
    obtain ⟨k,g⟩:=F;cases H with
    | none=>obtain rfl:hi=(l.length:Int):=E;simp[Instr.sliceAt,Instr.slice,Instr.sliceBounds,Instr.sliceBound,asIntOf,b.eval g,run_underlying c,sizeOf,typeInfo,d,f,subV,j,m]
    | some y2=>obtain ⟨k2,u⟩:=E;simp[Instr.sliceAt,Instr.slice,Instr.sliceBounds,Instr.sliceBound,asIntOf,b.eval g,b.eval u,run_underlying c,sizeOf,typeInfo,d,f,subV,j,show 0<=hi by omega,show hi<=(cap:Int) by omega,show (hi.toNat:Int)=hi by omega,m,show max hi 0=hi by omega]
 rcases q.row s with ⟨B,_,rfl⟩ | ⟨C,cap,vs,S,rfl,o,_⟩
 ·have:=key none 0 (by omega);rw[B]at this;simp[execOp,b.eval h,this]
 ·have:=key (some C) cap o;simp[execOp,b.eval h,this]
def nz (q:Int):Option Unit:=if q=0 then none else some ()
def capOk (v:Va) (n:Nat):Prop:=match v with | .slice _ _ cap=>n<=cap | _=>False
def delV (v:Va) (n:Nat):Va:=match v with | .slice a _ cap=>.slice a n cap | _=>undef
theorem zh7 {c a b:List α} {i j:Int} (d:piece l i j=some c) (e:piece l 0 i=some a) (f:piece l j (l.length:Int)=some b):(a++b).length<=l.length:=by obtain ⟨g,h,k,_⟩:=zbu d;obtain ⟨_,_,_,rfl⟩:=zbu e;obtain ⟨_,_,_,rfl⟩:=zbu f;grind
def Can.cap {v:Va} {sz k:Nat} {cs:List C} (a:Can w0 S0 is v (.sl sz k cs)): ∀w,St w0 S0 is w->capOk v k:=by
 intro w hs;rcases a.row hs with ⟨b,_,rfl⟩ | ⟨c,cap,vs,S,rfl,d,_⟩
 ·exact Fz b
 ·trivial
def TO.fact {l:List Oper} (g: ∀w,St w0 S0 is w->p) (h:p->TO P w0 S0 m n fr is ops l Q):TO P w0 S0 m n fr is ops l Q:=
 λr b a w c hs=>h (g w hs) r b a w c hs
def TA.fact (g: ∀w,St w0 S0 is w->p) (h:p->TA P w0 S0 m n fr is H ops fuel L Q):TA P w0 S0 m n fr is H ops fuel L Q:=
 λr b a w c hs=>h (g w hs) r b a w c hs
def sub3V (v:Va) (sz lo n m:Nat):Va:=match v with
 | .slice a _ _=>.slice (if m=lo then a else a.map (·.add (lo*sz))) n (m - lo)
 | _=>undef
def Y.subs3 {z:List α} {c d:Od} {g h:Ik} (hs:piece l lo hi=some z) (p:elemB P t=some (e,sz,by_)) (q:Can w0 S0 is v (.sl sz' l.length cs)) (i:ev fr x=some v) (j:ev fr c=some (.int g lo)) (k:ev fr y2=some (.int k2 hi)) (m:ev fr d=some (.int h l.length)):
    Y P w0 S0 n fr is ⟨dst,.slice t x (some c) (some y2) (some d),ty,pos,aft,gd⟩ (sub3V v sz lo.toNat (hi.toNat - lo.toNat) l.length):=by
 obtain ⟨s,ti,u,y,_⟩:=zA p;obtain ⟨B,C,D,rfl⟩:=zbu hs;intro a w b E;have key: ∀(A:Option Addr) (cap:Nat),l.length<=cap->(Instr.sliceAt t (.slice A l.length cap) (some (.int g lo)) (some (.int k2 hi)) (some (.int h l.length))).run P w= .ok (sub3V (.slice A l.length cap) sz lo.toNat (hi.toNat - lo.toNat) l.length) w:=by intro A cap f;simp[Instr.sliceAt,Instr.slice,Instr.sliceBounds,Instr.sliceBound,asIntOf,run_underlying s,sizeOf,typeInfo,u,y,sub3V,f,B,D,show 0<=hi by omega,show (hi.toNat:Int)=hi by omega,C,show max hi 0=hi by omega]
 rcases q.row E with ⟨F,_,rfl⟩ | ⟨G,cap,vs,S,rfl,f,_⟩
 ·have H:l= []:=Bh F;subst H;have:=key none 0 (by simp);have o:=b.eval m;have I:(execOp a.eval ⟨dst,.slice t x (some c) (some y2) (some d),ty,pos,aft,gd⟩).run P w= .ok (.value (sub3V (.slice none 0 0) sz lo.toNat (hi.toNat - lo.toNat) 0)) w:=by simp only[Hu]at this o;simp only[execOp,b.eval i,b.eval j,b.eval k,o,Dm,Sem.run_bind,this,Result.andThen_ok,Sem.run_pure]
  trivial
 ·have:=key (some G) cap f;simp[execOp,b.eval i,b.eval j,b.eval k,b.eval m,this]
theorem Ef.del [Enc α] {y:Od} {X c f:List α} {i j:Int} (ks:J4) (Y:piece l i j=some X) (Z:piece l 0 i=some c) (E:piece l j (l.length:Int)=some f) (he:elemB P t=some (e,sz,by_)) (a0:Enc.sz α=sz) (hp:pulls ks is=some (.own v (lc l)::is')) (hx:ev fr x=some (subV v sz (0:Int).toNat (i.toNat - (0:Int).toNat))) (hy:ev fr y=some (subV v sz j.toNat ((l.length:Int).toNat - j.toNat))):
 Ef P w0 S0 n fr is ⟨d,.call {callee:=.builtin .append,args:=#[x,y],argTypes:=#[t,t]},ty,pos,aft,gd⟩ (λ_:Unit=>delV v (c++f).length) (λ_=>.own (delV v (c++f).length) (lc (c++f))::is'):=by
 subst a0;obtain ⟨F,ti,G,H,b3⟩:=zA he;obtain ⟨p0,p1,I,_⟩:=zbu Y;obtain ⟨_,_,p3,a1⟩:=zbu Z;obtain ⟨_,_,_,a2⟩:=zbu E;have s:c=l.take i.toNat:=by rw[a1];simp
 have u:f=l.drop j.toNat:=by rw[a2];exact Dk (by simp)
 have J:c.length=i.toNat:=by rw[s,Bf];omega
 have L:f.length=l.length - j.toNat:=by rw[u,Cy]
 have hl:l=c++((l.drop i.toNat).take (j.toNat - i.toNat)++f):=by rw[s,u];conv=>lhs;rw[<-Bl i.toNat l,<-Bl (j.toNat - i.toNat) (l.drop i.toNat),Ge,show i.toNat+(j.toNat - i.toNat)=j.toNat by omega]
 have lm:((l.drop i.toNat).take (j.toNat - i.toNat)).length=j.toNat - i.toNat:=by rw[Bf,Cy];omega
 intro a w K Q M hs hK;have hs':St w0 S0 ([.own v (lc l)]++is') w:=hs.pulls ks hp;have key: ∀A,sats w [.own v (lc l)] A->A.Nodup->∃w',(Builtin.append_ #[t,t] ty #[subV v (Enc.sz α) (0:Int).toNat (i.toNat - (0:Int).toNat),subV v (Enc.sz α) j.toNat ((l.length:Int).toNat - j.toNat)]).run P w= .ok (delV v (c++f).length) w'/\
  ∃A',Chg w w' A/\sats w' [.own (delV v (c++f).length) (lc (c++f))] A'/\A'.Nodup/\∀b∈A',b∈A\/w.heap.size<=b:=by
  rintro A ⟨A1,A2,rfl,hA,hA2⟩ N
  rw[show A2= [] from hA2,Dl]at N |-
  have hA':Ow w v (.sl (Enc.sz α) l.length (l.flatMap Enc.enc)) A1:=hA
  generalize O:l.length=ln at hA' L
  generalize a3:l.flatMap (Enc.enc (α:=α))=cs at hA'
  cases hA' with
  | nil=>
    have a4:l= []:=Bh O;subst a4;have a5:i.toNat=0:=by simp at I;omega
    have a6:j.toNat=0:=by simp at I;omega
    have hz:c++f= []:=by rw[s,u];simp
    rw[hz,a5,a6];have g:=append_none_any (P:=P) (ty:=ty) F G (.slice none 0 0) 0 [] (OwR.nil w 0 (Enc.sz α));exact ⟨w,by simpa[subV,delV] using g,[],Chg.refl _ _,⟨[],[],rfl,.nil _,rfl⟩,Et,by simp⟩
  | row b nn cap e' sz cur vs _ S z hc hm b4 R C=>
    subst a3;have T:vs.length=ln*Enc.sz α:=by rw[C.length,zbh,O]
    rw[hl,Cx,Cx]at C;obtain ⟨S1,S23,rfl,D,a7⟩:=C.split;obtain ⟨S2,S3,rfl,b5,m⟩:=a7.split;have fl1:(c.flatMap (Enc.enc (α:=α))).length=i.toNat*Enc.sz α:=by rw[zbh,J]
    have flm:(((l.drop i.toNat).take (j.toNat - i.toNat)).flatMap (Enc.enc (α:=α))).length=(j.toNat - i.toNat)*Enc.sz α:=by rw[zbh,lm]
    rw[fl1]at D m;rw[flm,Ge,<-Cj,show i.toNat+(j.toNat - i.toNat)=j.toNat by omega]at m;have b6:ln*Enc.sz α<=cap*Enc.sz α:=An _ hc;have b7:i.toNat*Enc.sz α<=j.toNat*Enc.sz α:=An _ (by omega);have b8:j.toNat*Enc.sz α+(ln - j.toNat)*Enc.sz α=ln*Enc.sz α:=by rw[<-Cj];congr 1;omega
    have U:(vs.drop (j.toNat*Enc.sz α)).length=(ln - j.toNat)*Enc.sz α:=by rw[Cy,T];omega
    have V:(c++f).length=i.toNat+(ln - j.toNat):=by rw[Cq,J,L]
    have o:subV (.slice (some ⟨b,0,none⟩) ln cap) (Enc.sz α) (0:Int).toNat (i.toNat - (0:Int).toNat)= .slice (some ⟨b,0,none⟩) i.toNat cap:=by
     have:(⟨b,0,none⟩:Addr).add 0=⟨b,0,none⟩:=by simp[Addr.add]
     simp[subV,this]
    have g: ∃ad,(Builtin.append_ #[t,t] ty #[.slice (some ⟨b,0,none⟩) i.toNat cap,.slice (some ad) (ln - j.toNat) (cap - j.toNat)]).run P w= .ok (.slice (some ⟨b,0,none⟩) (i.toNat+(ln - j.toNat)) cap) (w.setRow b (cur.toList.take (i.toNat*ti.size)++vs.drop (j.toNat*Enc.sz α)++cur.toList.drop (i.toNat*ti.size+(vs.drop (j.toNat*Enc.sz α)).length)).toArray)/\
     subV (.slice (some ⟨b,0,none⟩) ln cap) (Enc.sz α) j.toNat ((ln:Int).toNat - j.toNat)= .slice (some ad) (ln - j.toNat) (cap - j.toNat):=by
     refine ⟨if cap=j.toNat then ⟨b,0,none⟩ else ⟨b,j.toNat*Enc.sz α,none⟩,append_room_any (P:=P) (ty:=ty) F G b i.toNat cap cur z _ (ln - j.toNat) (cap - j.toNat) _ (by rw[U,H]) ?_ (λq h=>m.oneCells q h) (by omega) ?_,?_⟩
     ·intro k q h;have hk:=(Bt.1 h).1;have a8: ¬cap=j.toNat:=by grind
      rw[iN a8,add_lit,cell_of_row w b (j.toNat*Enc.sz α+k) cur e' (0,0) z,<-h,Di,<-R,By,iP (by omega)];simp
     ·grind
     ·by_cases e:cap=j.toNat
      ·simp[subV,e]
      ·have:(⟨b,0,none⟩:Addr).add (j.toNat*Enc.sz α)=⟨b,j.toNat*Enc.sz α,none⟩:=by rw[add_lit];simp
       simp[subV,e,this]
    obtain ⟨ad,a9,p⟩:=g;have b9:=D.lt;have c0:=m.lt;obtain ⟨c1,hndS⟩:=En.1 N;have b0: ∀q∈S1++S3,(w.setRow b (cur.toList.take (i.toNat*ti.size)++vs.drop (j.toNat*Enc.sz α)++cur.toList.drop (i.toNat*ti.size+(vs.drop (j.toNat*Enc.sz α)).length)).toArray).heap[q]? =w.heap[q]?:=by
     intro q h;refine (Chg.setRow w b _).keep q ?_ ?_
     ·grind
     ·grind
    have hO:=(D.append m).keep b0;refine ⟨_,by rw[o,p,a9,V];rfl,b::(S1++S3),?_,⟨b::(S1++S3),[],by rw[Dl],?_,rfl⟩,?_,?_⟩
    ·refine ⟨(Chg.setRow w b _).os,(Chg.setRow w b _).tape,(Chg.setRow w b _).output,(Chg.setRow w b _).size,λq h W=>(Chg.setRow w b _).keep q h ?_⟩;grind
    ·show Ow _ (.slice (some ⟨b,0,none⟩) (c++f).length cap) (.sl (Enc.sz α) (c++f).length ((c++f).flatMap Enc.enc)) _;rw[Cx];refine .row b _ cap e' (Enc.sz α) _ _ _ _ (setRow_heap w b _ _ e' _ z) (by omega) hm ?_ ?_ hO
     ·simp;omega
     ·have c2:cur.toList.take (i.toNat*ti.size)=vs.take (i.toNat*Enc.sz α):=by rw[H,<-R,Gq,Eo (by omega)]
      have c3:(vs.take (i.toNat*Enc.sz α)++vs.drop (j.toNat*Enc.sz α)).length=(c++f).length*Enc.sz α:=by rw[Cq,U,Bf,T,V,Cj];omega
      grind
    ·grind
    ·grind
 obtain ⟨SA,hSA⟩:=hs'.own;obtain ⟨A,B,rfl,hA,hB⟩:=zb0.1 hSA.1;obtain ⟨w',g,_⟩:=key A hA (Da.1 hSA.2.1).1;have b1:St w0 S0 ([.own (delV v (c++f).length) (lc (c++f))]++is') w':=hs'.step λA hA W=>by obtain ⟨w2,E,h3⟩:=key A hA W;grind
 have b2:(execOp a.eval ⟨d,.call {callee:=.builtin .append,args:=#[x,y],argTypes:=#[t,t]},ty,pos,aft,gd⟩).run P w= .ok (.value (delV v (c++f).length)) w':=by have o:=M.eval hx;have p:=M.eval hy;generalize subV v (Enc.sz α) (0:Int).toNat (i.toNat - (0:Int).toNat)=X1 at o g;generalize subV v (Enc.sz α) j.toNat ((l.length:Int).toNat - j.toNat)=Y1 at p g;simp[execOp,resolve,invoke,builtin,o,p,g]
 unfold Oper.wp;rw[b2];exact hK () w' b1
def Y.tail {f:Od} {hi:Nat} {g:Ik} (b:capOk v hi) (h:N<=hi) (i:elemB P t=some (e,sz,by_)) (c:ev fr x=some (delV v N)) (j:ev fr f=some (.int g N)) (k:ev fr y2=some (.int k2 hi)):
    Y P w0 S0 n fr is ⟨dst,.slice t x (some f) (some y2) none,ty,pos,aft,gd⟩ (subV (delV v N) sz N (hi - N)):=by
 obtain ⟨l,ti,o,p,_⟩:=zA i;intro a w d s
 match v,b,c with
 | .slice A m cap,b,c=>have q:hi<=cap:=b;simp[execOp,d.eval c,d.eval j,d.eval k,delV,Instr.sliceAt,Instr.slice,Instr.sliceBounds,Instr.sliceBound,asIntOf,run_underlying l,sizeOf,typeInfo,o,p,subV,q,h,show N<=cap by omega]
theorem Ef.clearTail {z:Va} {y:Od} {hi:Nat} (p:capOk v hi) (a2:N<=hi) (O:elemB P t=some (e,sz,by_)) (R:zeroB P e=some z) (T:Bw z.cells.size sz=true) (a3:z.cells.toList.all (·.oneCell')=true) (j:is[k]? =some (.own (delV v N) (.sl sz N cs))) (l:ev fr y=some (subV (delV v N) sz N (hi - N))):
 Ef P w0 S0 n fr is ⟨none,.call {callee:=.builtin .clear,args:=#[y],argTypes:=#[t]},ty,pos,aft,gd⟩ (λ_:Unit=>.tuple #[]) (λ_=>is):=by
 obtain ⟨s,ti,a4,a5,_⟩:=zA O;have U:z.cells.size=sz:=by simpa using T
 intro a w K Q E u hK
 match v,p,j,l with
 | .slice A m cap,p,j,l=>
   have a6:hi<=cap:=p;by_cases V:hi - N=0
   ·have x:(execOp a.eval ⟨none,.call {callee:=.builtin .clear,args:=#[y],argTypes:=#[t]},ty,pos,aft,gd⟩).run P w= .ok (.value (.tuple #[])) w:=by
     have f:a.eval y= .slice (if cap=N then A else A.map (·.add (N*sz))) 0 (cap - N):=by rw[E.eval l,V];rfl
     by_cases hA:(if cap=N then A else A.map (·.add (N*sz)))=none
     ·simp[execOp,resolve,invoke,builtin,f,hA,Builtin.clear_,run_underlying s]
     ·obtain ⟨q,c⟩:=Option.ne_none_iff_exists'.1 hA;simp[execOp,resolve,invoke,builtin,f,c,Builtin.clear_,run_underlying s]
    unfold Oper.wp;rw[x];exact hK () w u
   ·obtain ⟨A0,hA0,_⟩:=zcj j u.own.choose_spec.1;have F: ∀A1,Ow w (.slice A N cap) (.sl sz N cs) A1->∃b cur e' vs S,A=some ⟨b,0,none⟩/\w.heap[b]? =some (.cells cur e' (0,0))/\N<=cap/\cap<=maxLen/\cap*sz<=cur.size/\cur.toList.take (N*sz)=vs/\Ows w vs cs S/\A1=b::S:=by
     intro A1 h;cases h with
     | nil=>omega
     | row b n cap e' sz cur vs cs S g B o hs G H=>exact ⟨b,cur,e',vs,S,rfl,g,B,o,hs,G,H,rfl⟩
    obtain ⟨b,cur,e',vs,S,rfl,g,B,o,hs,G,H,_⟩:=F A0 hA0;have W:(Builtin.zeroCells z.cells (hi - N)).toList.length=(hi - N)*sz:=by rw[Bp,size_zeroCells,U]
    have X: ∀q∈(Builtin.zeroCells z.cells (hi - N)).toList,q.oneCell'=true:=by
     intro q c;have a7:q∈(Builtin.zeroCells z.cells (hi - N)):=by simpa using c
     have: ∀n,∀q∈Builtin.zeroCells z.cells n,q∈z.cells:=by
      intro n q c;unfold Builtin.zeroCells at c;simp only[Array.mem_map,Array.mem_range]at c;obtain ⟨i,hi,rfl⟩:=c;have Y:0<z.cells.size:=by grind
      have o:i % z.cells.size<z.cells.size:=Hy _ Y;simp_all
     grind
    have a8:N*sz+(hi - N)*sz<=cap*sz:=by rw[<-Cj];exact An _ (by omega)
    have C:=run_storeCells_at P b (N*sz) e' (Builtin.zeroCells z.cells (hi - N)).toList 0 cur w g (by rw[W];omega) X;have x:(execOp a.eval ⟨none,.call {callee:=.builtin .clear,args:=#[y],argTypes:=#[t]},ty,pos,aft,gd⟩).run P w= .ok (.value (.tuple #[])) (w.setRow b (cur.toList.take (N*sz)++(Builtin.zeroCells z.cells (hi - N)).toList++cur.toList.drop (N*sz+(Builtin.zeroCells z.cells (hi - N)).toList.length)).toArray):=by
     have f:a.eval y= .slice (some ⟨b,N*sz,none⟩) (hi - N) (cap - N):=by
      rw[E.eval l];have:(⟨b,0,none⟩:Addr).add (N*sz)=⟨b,N*sz,none⟩:=by rw[add_lit];simp
      simp[delV,subV,show ¬cap=N by omega,this]
     obtain ⟨q,c⟩: ∃q,hi - N=q+1:=⟨hi - N - 1,by omega⟩;simp only[Ff]at C;rw[c]at C f |-
     simp[execOp,resolve,invoke,builtin,f,Builtin.clear_,run_underlying s,zgM R,C]
    unfold Oper.wp;rw[x];refine hK () _ ?_;have Z:is.set k (.own (delV (.slice (some ⟨b,0,none⟩) m cap) N) (.sl sz N cs))=is:=by apply Ee;grind
    rw[<-Z];refine u.upd j λA1 hA1 I=>?_;obtain ⟨d,cur2,D,vs2,S2,J,L,_,_,_,a9,M,rfl⟩:=F A1 hA1;obtain rfl:d=b:=by simp at J;exact J.symm
    obtain ⟨rfl,rfl⟩:cur2=cur/\D=e':=by rw[g]at L;cases L;exact ⟨rfl,rfl⟩
    have a0:=(En.1 I).1;refine ⟨d::S2,?_,?_,I,λq c=>.inl c⟩
    ·refine ⟨(Chg.setRow w d _).os,(Chg.setRow w d _).tape,(Chg.setRow w d _).output,(Chg.setRow w d _).size,λq c hn=>(Chg.setRow w d _).keep q c ?_⟩;simp_all
    ·refine .row d N cap D sz _ vs2 _ S2 (setRow_heap w d _ _ D _ g) B o ?_ ?_ (M.keep λq c=>(Chg.setRow w d _).keep q (M.lt q c) λa1=>a0 (by rw[Dh.1 a1]at c;exact c))
     ·grind
     ·grind
end
def ins (by_:Nat) (l:List α) (i:Int) (k:List α):Option (List α):=
 if 0<=i/\i<=l.length/\(l.length+k.length)*by_<=140737488355328/\l.length+k.length<=4611686018427387904 then some (l.take i.toNat++(k++l.drop i.toNat)) else none
def zvU {k r:List α} {i:Int} (h:ins by_ l i k=some r):0<=i/\i<=l.length/\(l.length+k.length)*by_<=140737488355328/\l.length+k.length<=4611686018427387904/\r=l.take i.toNat++(k++l.drop i.toNat):=by unfold ins at h;simp_all
def zxB {s v r:List α} {i:Int} (h:ins b s i v=some r):app b s v=some (s++v):=by obtain ⟨_,_,a,c,_⟩:=zvU h;unfold app;rw[iP ⟨a,by omega⟩]
section
variable {P:Pm} {w0:Wo} {S0:J4}
variable {pos:String}
def TW.cond_t {c:Od} {x y:Code} {b:Bool} (a:ev fr c=some (.bool b)) (d:b=true) (e:TW P w0 S0 m n fr is x Q):TW P w0 S0 m n fr is (.cond c x y) Q:=by subst d;exact TW.cond_true a e
def TW.cond_f {c:Od} {x y:Code} {b:Bool} (a:ev fr c=some (.bool b)) (d:b=false) (e:TW P w0 S0 m n fr is y Q):TW P w0 S0 m n fr is (.cond c x y) Q:=by subst d;exact TW.cond_false a e
def TW.known {c:Code} (h: ∀r,m=some r->TW P w0 S0 (some r) n fr is c Q):TW P w0 S0 m n fr is c Q:=λr a=>h r a r rfl
def zkB (p z us:J3):splice (p++z) p.length us=p++(us++z.drop us.length):=by have:=zfJ p z us 0;rw[Ff]at this;rw[this];simp[splice]
def ztU (p z us:J3) (c:Nat):splice (p++z) (p.length+c) us=p++(z.take c++us++z.drop (c+us.length)):=zfJ p z us c
theorem insA {A:J3} {m I cap B G:Nat} (D:I<=n) (j:n<=cap) (b:m<=B) (a:cap*sz<=cur.length) (c:B*sz<=A.length) (k:zs.length=(G - I)*sz) (E:n+m<=G):
 ((A.drop 0).take (m*sz)).length=m*sz/\((cur.drop (0+I*sz)).take ((n - I)*sz)).length=(n - I)*sz/\(cur.take (I*sz)++zs).length=G*sz/\
 (splice (cur.take (I*sz)++zs) (0+I*sz) ((A.drop 0).take (m*sz))).length=G*sz/\
 (splice (splice (cur.take (I*sz)++zs) (0+I*sz) ((A.drop 0).take (m*sz))) (0+(I+m)*sz) ((cur.drop (0+I*sz)).take ((n - I)*sz))).length=G*sz/\
 (splice (splice (cur.take (I*sz)++zs) (0+I*sz) ((A.drop 0).take (m*sz))) (0+(I+m)*sz) ((cur.drop (0+I*sz)).take ((n - I)*sz))).take ((n+m)*sz)=(cur.take (n*sz)).take (I*sz)++(A.take (m*sz)++(cur.take (n*sz)).drop (I*sz)):=by
 have l:I*sz<=cur.length:=Cv (An _ (by omega)) a;have o:m*sz<=A.length:=Cv (An _ b) c;have p:I*sz+(n - I)*sz<=cur.length:=by rw[<-Cj];exact Cv (An _ (by omega)) a
 have q:(n+m)*sz=I*sz+(m*sz+(n - I)*sz):=by rw[<-Cj,<-Cj];congr 1;omega
 have s:G*sz=I*sz+(G - I)*sz:=by rw[<-Cj];congr 1;omega
 have t:m*sz+(n - I)*sz<=(G - I)*sz:=by rw[<-Cj];exact An _ (by omega)
 have u:(I+m)*sz=I*sz+m*sz:=Cj _ _ _;have v:(cur.take (I*sz)).length=I*sz:=by rw[Bf];omega
 have d:(A.take (m*sz)).length=m*sz:=by rw[Bf];omega
 have e:((cur.drop (I*sz)).take ((n - I)*sz)).length=(n - I)*sz:=by rw[Bf,Cy];omega
 have f:(cur.take (n*sz)).drop (I*sz)=(cur.drop (I*sz)).take ((n - I)*sz):=by rw[Gr];grind
 have g:(cur.take (n*sz)).take (I*sz)=cur.take (I*sz):=by rw[Gq,Eo (An _ D)]
 rw[f,g];simp only[Dy,Fh];have h:splice (cur.take (I*sz)++zs) (I*sz) (A.take (m*sz))=cur.take (I*sz)++(A.take (m*sz)++zs.drop (m*sz)):=by have:=zkB (cur.take (I*sz)) zs (A.take (m*sz));simp_all
 have i:splice (cur.take (I*sz)++(A.take (m*sz)++zs.drop (m*sz))) ((I+m)*sz) ((cur.drop (I*sz)).take ((n - I)*sz))=cur.take (I*sz)++(A.take (m*sz)++((cur.drop (I*sz)).take ((n - I)*sz)++(zs.drop (m*sz)).drop ((n - I)*sz))):=by have:=zkB (cur.take (I*sz)++A.take (m*sz)) (zs.drop (m*sz)) ((cur.drop (I*sz)).take ((n - I)*sz));simp_all
 rw[h,i];refine ⟨d,e,?_,?_,?_,?_⟩
 ·simp_all
 ·grind
 ·grind
 ·grind
theorem insB {A:J3} {m I cap B:Nat} (E:I<=n) (c:n+m<=cap) (d:m<=B) (a:cap*sz<=cur.length) (e:B*sz<=A.length):
 ((A.drop 0).take (m*sz)).length=m*sz/\((cur.drop (0+I*sz)).take ((n - I)*sz)).length=(n - I)*sz/\
 (splice cur (0+(I+m)*sz) ((cur.drop (0+I*sz)).take ((n - I)*sz))).length=cur.length/\
 (splice (splice cur (0+(I+m)*sz) ((cur.drop (0+I*sz)).take ((n - I)*sz))) (0+I*sz) ((A.drop 0).take (m*sz))).length=cur.length/\
 (splice (splice cur (0+(I+m)*sz) ((cur.drop (0+I*sz)).take ((n - I)*sz))) (0+I*sz) ((A.drop 0).take (m*sz))).take ((n+m)*sz)=(cur.take (n*sz)).take (I*sz)++(A.take (m*sz)++(cur.take (n*sz)).drop (I*sz)):=by
 have l:I*sz<=cur.length:=Cv (An _ (by omega)) a;have o:m*sz<=A.length:=Cv (An _ d) e;have p:I*sz+(n - I)*sz<=cur.length:=by rw[<-Cj];exact Cv (An _ (by omega)) a
 have q:(n+m)*sz=I*sz+(m*sz+(n - I)*sz):=by rw[<-Cj,<-Cj];congr 1;omega
 have s:(n+m)*sz<=cap*sz:=An _ c;have t:(I+m)*sz=I*sz+m*sz:=Cj _ _ _;have u:(cur.take (I*sz)).length=I*sz:=by rw[Bf];omega
 have f:(A.take (m*sz)).length=m*sz:=by rw[Bf];omega
 have b:((cur.drop (I*sz)).take ((n - I)*sz)).length=(n - I)*sz:=by rw[Bf,Cy];omega
 have g:(cur.take (n*sz)).drop (I*sz)=(cur.drop (I*sz)).take ((n - I)*sz):=by rw[Gr];grind
 have h:(cur.take (n*sz)).take (I*sz)=cur.take (I*sz):=by rw[Gq,Eo (An _ E)]
 rw[g,h];simp only[Dy,Fh];generalize D:(cur.drop (I*sz)).take ((n - I)*sz)=ds at b;have i:(cur.drop (I*sz)).length=cur.length - I*sz:=by rw[Cy]
 have j:splice cur ((I+m)*sz) ds=cur.take (I*sz)++((cur.drop (I*sz)).take (m*sz)++ds++(cur.drop (I*sz)).drop (m*sz+(n - I)*sz)):=by have:=ztU (cur.take (I*sz)) (cur.drop (I*sz)) ds (m*sz);simp_all
 have v:((cur.drop (I*sz)).take (m*sz)).length=m*sz:=by rw[Bf,i];omega
 have k:splice (cur.take (I*sz)++((cur.drop (I*sz)).take (m*sz)++ds++(cur.drop (I*sz)).drop (m*sz+(n - I)*sz))) (I*sz) (A.take (m*sz))=cur.take (I*sz)++(A.take (m*sz)++(ds++(cur.drop (I*sz)).drop (m*sz+(n - I)*sz))):=by have:=zkB (cur.take (I*sz)) ((cur.drop (I*sz)).take (m*sz)++ds++(cur.drop (I*sz)).drop (m*sz+(n - I)*sz)) (A.take (m*sz));simp_all
 rw[j,k];refine ⟨f,b,?_,?_,?_⟩
 ·grind
 ·grind
 ·grind
theorem zuh {I:Nat} (h: ∀u∈cur.take (n*sz),u.oneCell'=true) (A:I<=n): ∀u∈(cur.drop (0+I*sz)).take ((n - I)*sz),u.oneCell'=true:=by
 intro u a;refine h u ?_;have:(cur.take (n*sz)).drop (I*sz)=(cur.drop (I*sz)).take ((n - I)*sz):=by rw[Gr];congr 1;rw[<-Nat.sub_mul]
 grind
def Ow.row_inv (h:Ow w v (.sl sz k cs) S) (i:0<k):
    ∃b cap e cur T,v= .slice (some ⟨b,0,none⟩) k cap/\w.heap[b]? =some (.cells cur e (0,0))/\k<=cap/\cap<=maxLen/\cap*sz<=cur.size/\Ows w (cur.toList.take (k*sz)) cs T/\S=b::T:=by
 cases h with
 | nil=>omega
 | row b n cap e sz cur vs cs S a c d hs f g=>subst f;exact ⟨b,cap,e,cur,S,rfl,a,c,d,hs,g,rfl⟩
theorem TW.openRows [Enc α] {k:List α} {V U:Va} {c:Code} (hl:0<l.length) (j:0<k.length) (h: ∀b cap e cur d I f J,V= .slice (some ⟨b,0,none⟩) l.length cap->U= .slice (some ⟨d,0,none⟩) k.length I->b≠d->l.length<=cap->cap<=maxLen->k.length<=I->I<=maxLen->
 cap*Enc.sz α<=cur.length->I*Enc.sz α<=J.length->(∀u∈cur.take (l.length*Enc.sz α),u.oneCell'=true)->(∀u∈J.take (k.length*Enc.sz α),u.oneCell'=true)->
 TW P w0 S0 m n fr [.box b e cur,.box d f J,.ows (cur.take (l.length*Enc.sz α)) (l.flatMap Enc.enc),.ows (J.take (k.length*Enc.sz α)) (k.flatMap Enc.enc)] c Q):
 TW P w0 S0 m n fr [.own V (lc l),.own U (lc k)] c Q:=by
 intro r o a w p hs;obtain ⟨os,tape,output,size,base,S,⟨A,B,rfl,hA,A2,Z,rfl,O,W⟩,q,s⟩:=hs;rw[show Z= [] from W,Dl]at q s;obtain ⟨b,cap,e,cur,T,hV,t,v,x,y,g,rfl⟩:=Ow.row_inv hA hl;obtain ⟨d,I,f,J,M,hU,z,C,D,E,i,rfl⟩:=Ow.row_inv O j;have F:b≠d:=by simp_all
 refine h b cap e cur.toList d I f J.toList hV hU F v x C D (by rw[Bp];exact y) (by rw[Bp];exact E) g.oneCells i.oneCells r o a w p ?_;have G:([b]++([d]++(T++M))).Perm ((b::T)++(d::M)):=by grind
 refine ⟨os,tape,output,size,base,[b]++([d]++(T++(M++ []))),⟨[b],_,rfl,⟨rfl,by simpa using t⟩,[d],_,rfl,⟨rfl,by simpa using z⟩,T,_,rfl,g,M,[],by simp,i,rfl⟩,?_,?_⟩
 ·grind
 ·grind
theorem Gh.fold [Enc α] {k:List α} {B:J3} {cap:Nat} {r:J5} (qs:J4) (c:pulls qs is=some (.box b e cur:: .ows us (l.flatMap Enc.enc):: .ows B (k.flatMap Enc.enc)::r)) (hi:i<=l.length) (d:l.length+k.length<=cap) (f:cap<=maxLen) (hl:cap*Enc.sz α<=cur.length) (g:cur.take ((l.length+k.length)*Enc.sz α)=us.take (i*Enc.sz α)++(B++us.drop (i*Enc.sz α))):
 Gh w0 S0 is (λ_:Unit=>.own (.slice (some ⟨b,0,none⟩) (l.length+k.length) cap) (lc (l.take i++(k++l.drop i)))::r):=by
 intro w h;refine ⟨(),?_⟩;have j:St w0 S0 ([.box b e cur,.ows us (l.flatMap Enc.enc),.ows B (k.flatMap Enc.enc)]++r) w:=h.pulls qs c;refine St.trade (js:=[_]) j λA G=>?_;obtain ⟨A1,I,rfl,⟨rfl,m⟩,A2,J,rfl,n,D,F,rfl,o,p⟩:=G;rw[show F= [] from p];have q:l=l.take i++l.drop i:=(Bl i l).symm;have s:Ows w us ((l.take i).flatMap Enc.enc++(l.drop i).flatMap Enc.enc) A2:=by rw[<-Cx,<-q];exact n
 obtain ⟨S1,E,rfl,a,k2⟩:=s.split;rw[zbh,Bf,Eo hi]at a k2;have t:(l.take i++(k++l.drop i)).length=l.length+k.length:=by simp only[Cq,Bf,Cy];omega
 refine ⟨[b]++(S1++(D++E)),⟨b::(S1++(D++E)),[],by simp,?_,rfl⟩,?_⟩
 ·show Ow w _ (.sl (Enc.sz α) (l.take i++(k++l.drop i)).length _) _;rw[t,Cx,Cx];exact .row b _ cap e (Enc.sz α) cur.toArray _ _ _ m d f (by simpa using hl) (by simpa using g) (a.append (o.append k2))
 ·grind
def Y.capRaw {cap:Nat} {b:Option Addr} (c:elemB P t=some (e,sz,by_)) (d:ev fr x=some (.slice b len cap)):
    Y P w0 S0 n fr is ⟨dst,.call {callee:=.builtin .cap,args:=#[x],argTypes:=#[t]},ty,pos,aft,gd⟩ (.int .i64 cap):=by obtain ⟨f,_⟩:=zA c;intro a w g hs;simp[execOp,resolve,invoke,builtin,g.eval d,Builtin.cap_,run_underlying f,goInt]
def Y.toRaw {y:Od} {cap o hi:Nat} {k:Ik} (d:elemB P t=some (e,sz,by_)) (f:hi<=cap) (g:zi=(hi:Int)) (h:ev fr x=some (.slice (some ⟨b,o,none⟩) len cap)) (i:ev fr y=some (.int k zi)):
    Y P w0 S0 n fr is ⟨dst,.slice t x none (some y) none,ty,pos,aft,gd⟩ (.slice (some ⟨b,o,none⟩) hi cap):=by
 subst g;obtain ⟨j,ti,l,m,_⟩:=zA d;intro a w c hs;have p:(⟨b,o,none⟩:Addr).add 0=⟨b,o,none⟩:=by simp[Addr.add]
 simp[execOp,c.eval h,c.eval i,Instr.sliceAt,Instr.slice,Instr.sliceBounds,Instr.sliceBound,asIntOf,run_underlying j,sizeOf,typeInfo,l,m,f,p]
def Y.fromRaw {y:Od} {cap o lo:Nat} {k:Ik} (d:elemB P t=some (e,sz,by_)) (f:lo<=len) (q:lo<cap) (g:zi=(lo:Int)) (h:ev fr x=some (.slice (some ⟨b,o,none⟩) len cap)) (i:ev fr y=some (.int k zi)):
    Y P w0 S0 n fr is ⟨dst,.slice t x (some y) none none,ty,pos,aft,gd⟩ (.slice (some ⟨b,o+lo*sz,none⟩) (len - lo) (cap - lo)):=by subst g;obtain ⟨j,ti,l,m,_⟩:=zA d;intro a w c hs;have p:(⟨b,o,none⟩:Addr).add (lo*sz)=⟨b,o+lo*sz,none⟩:=add_lit b o (lo*sz);simp[execOp,c.eval h,c.eval i,Instr.sliceAt,Instr.slice,Instr.sliceBounds,Instr.sliceBound,asIntOf,run_underlying j,sizeOf,typeInfo,l,m,f,p,show ¬cap=lo by omega]
def Ef.rawCopy {y:Od} {o dl dc Z U sl V sc W:Nat} {T:J3} (p q:Nat) (m:elemB P t=some (e,sz,by_)) (h:is[p]? =some (.box b bt cur)) (s:is[q]? =some (.box Z W T)) (c:ev fr x=some (.slice (some ⟨b,o,none⟩) dl dc)) (z:ev fr y=some (.slice (some ⟨Z,U,none⟩) V sc)) (B:min V dl=sl) (C:o+sl*sz<=cur.length) (O:U+sl*sz<=T.length) (D: ∀u∈(T.drop U).take (sl*sz),u.oneCell'=true) (E:is.set p (.box b bt (splice cur o ((T.drop U).take (sl*sz))))=is'):
    Ef P w0 S0 n fr is ⟨d,.call {callee:=.builtin .copy,args:=#[x,y],argTypes:=#[t,t]},ty,pos,aft,gd⟩ (λ_:Unit=>goInt sl) (λ_=>is'):=by
 obtain ⟨F,ti,G,H,_⟩:=zA m;intro a w K Q i f hK;have I:=zd5 f h;have J:=zd5 f s;have g:((T.drop U).take (sl*sz)).length=sl*sz:=by rw[Bf,Cy];omega
 have hl:=run_loadCells_list (P:=P) w ⟨Z,U,none⟩ ((T.drop U).take (sl*sz)) (λj v k=>by
  have L:j<sl*sz:=by rw[<-g];exact (Bt.1 k).1
  rw[add_lit,cell_of_row w Z (U+j) _ W (0,0) J,<-k,By,iP L,Di];simp)
 have l:=run_storeCells_at P b o bt ((T.drop U).take (sl*sz)) 0 cur.toArray w I (by rw[g];simpa using C) D;simp only[Ff]at l;rw[g]at hl;have M:(execOp a.eval ⟨d,.call {callee:=.builtin .copy,args:=#[x,y],argTypes:=#[t,t]},ty,pos,aft,gd⟩).run P w= .ok (.value (goInt sl)) (w.setRow b (splice cur o ((T.drop U).take (sl*sz))).toArray):=by have N:min V dl=sl:=B;simp[execOp,resolve,invoke,builtin,i.eval c,i.eval z,Builtin.copy_,run_underlying F,Builtin.lenOf,Builtin.firstCells,sizeOf,typeInfo,G,H,N,hl,l,splice]
 unfold Oper.wp;rw[M];refine hK () _ ?_;subst E;refine f.upd h λA hA R=>?_;obtain ⟨rfl,hA2⟩:=hA;refine ⟨[b],Chg.setRow w b _,⟨rfl,?_⟩,by simp,λx c=>.inl c⟩;exact setRow_heap w b _ _ bt _ hA2
abbrev Grown (k N sz:Nat):={x:(Nat × Nat) × (Nat × J3) // x.2.2.length=(x.1.2 - k)*sz/\N<=x.1.2/\x.1.2<=maxLen}
theorem Ef.rawGrow {y:Od} {tn cap q:Nat} {kq:Ik} {z:Va} (p:Nat) (s:elemB P t=some (e,sz,by_)) (i:intB P tn=some kq) (f:zeroB P e=some z) (v:Bw z.cells.size sz=true) (A:Dj 0 sz=true) (B:is[p]? =some (.box b bt cur)) (C:ev fr x=some (.slice (some ⟨b,0,none⟩) k cap)) (D:ev fr y=some (.int kq zi)) (g:zi=(q:Int)) (hN:k+q=N) (E:k<=cap) (hl:cap*sz<=cur.length) (F:0<q) (G:cap<N) (a1:N<=9223372036854775807) (H:N*by_<=140737488355328):
 Ef P w0 S0 n fr is ⟨d,.call {callee:=.builtin .append,args:=#[x,y],argTypes:=#[t,tn]},ty,pos,aft,gd⟩ (λX:Grown k N sz=>.slice (some ⟨X.1.1.1,0,none⟩) N X.1.1.2)
  (λX=>.box X.1.1.1 X.1.2.1 (cur.take (k*sz)++X.1.2.2)::is):=by
 subst hN g;obtain ⟨c,ti,l,I,J⟩:=zA s;have L:P.underlying tn=some (.int kq):=by unfold intB at i;split at i<;>simp_all
 have g:ti.zero=some z:=by unfold zeroB at f;rw[l]at f;simpa using f
 have M:z.cells.size=sz:=by simpa using v
 have a2:0<sz:=by simpa using A
 intro a w K Q m o hK;have O:=zd5 o B;have a3:k*sz<=cur.length:=Cv (An _ E) hl;have R:(Builtin.firstCells ti.size k (.slice (some ⟨b,0,none⟩) k cap)).run P w.drew= .ok (cur.take (k*sz)).toArray w.drew:=by refine run_firstCells_some (P:=P) w.drew ti.size k ⟨b,0,none⟩ k cap (cur.take (k*sz)) (by rw[Bf,I];omega) ?_;intro j u c;have h:=(Bt.1 c).1;rw[Bf]at h;rw[add_lit,cell_of_row w.drew b (0+j) cur.toArray bt (0,0) O,<-c,By,iP (by omega)];simp
 have S:q*ti.bytes<=281474976710656:=by grind
 have T:=Lib.run_append_grow_zeros (P:=P) w t tn ty e ti z kq kq c L l g (some ⟨b,0,none⟩) k cap _ R q F (by omega) G (by omega) S (growslice_fits (by omega) (by rw[J];exact H));have U:=grownCap_ge w (k+q) cap e;have V:grownCap w (k+q) cap e<=maxLen:=grownCap_le_maxLen w (k+q) cap e (by simp only[maxLen];omega);have W:(execOp a.eval ⟨d,.call {callee:=.builtin .append,args:=#[x,y],argTypes:=#[t,tn]},ty,pos,aft,gd⟩).run P w= .ok (.value (.slice (some ⟨w.heap.size,0,none⟩) (k+q) (grownCap w (k+q) cap e)))
  (w.drew.alloc (.cells ((cur.take (k*sz)).toArray++Builtin.zeroCells z.cells q++Builtin.zeroCells z.cells (grownCap w (k+q) cap e - (k+q))) e)):=by
  simp[execOp,resolve,invoke,builtin,m.eval C,m.eval D,T]
 unfold Oper.wp;rw[W];have Y:(Builtin.zeroCells z.cells q++Builtin.zeroCells z.cells (grownCap w (k+q) cap e - (k+q))).toList.length=(grownCap w (k+q) cap e - k)*sz:=by rw[Bp,Fj,size_zeroCells,size_zeroCells,M,<-Cj];grind
 refine hK ⟨((w.heap.size,grownCap w (k+q) cap e),(e,(Builtin.zeroCells z.cells q++Builtin.zeroCells z.cells (grownCap w (k+q) cap e - (k+q))).toList)),Y,U,V⟩ _ ?_;have Z:Chg w (w.drew.alloc (.cells ((cur.take (k*sz)).toArray++Builtin.zeroCells z.cells q++Builtin.zeroCells z.cells (grownCap w (k+q) cap e - (k+q))) e)) []:=⟨rfl,rfl,rfl,by simp,λj h _=>heap_alloc_old w.drew _ h⟩;have a0:(Item.box w.heap.size e (cur.take (k*sz)++(Builtin.zeroCells z.cells q++Builtin.zeroCells z.cells (grownCap w (k+q) cap e - (k+q))).toList)).sat (w.drew.alloc (.cells ((cur.take (k*sz)).toArray++Builtin.zeroCells z.cells q++Builtin.zeroCells z.cells (grownCap w (k+q) cap e - (k+q))) e)) [w.heap.size]:=by refine ⟨rfl,?_⟩;have:=heap_alloc_new w.drew (.cells ((cur.take (k*sz)).toArray++Builtin.zeroCells z.cells q++Builtin.zeroCells z.cells (grownCap w (k+q) cap e - (k+q))) e);simp_all
 exact o.add Z _ [w.heap.size] a0 (by simp) (by simp)
def zapp (by_:Nat) (q:Int):Option Nat:=if 0<q/\q*by_<=140737488355328/\q<=4611686018427387904 then some q.toNat else none
theorem zya (h:zapp by_ q=some k):q=(k:Int)/\0<k/\k*by_<=140737488355328/\k<=4611686018427387904:=by unfold zapp at h;grind
def Ef.appZeros [Flat α] {y:Od} {W:Nat} {kq:Ik} (p:zapp by_ q=some k) (s:elemB P t=some (e,sz,by_)) (f:intB P W=some kq) (b:zeroB P e=some zv) (u:zv.cells.toList=Flat.vals z) (c:Enc.sz α=sz) (g:zv.cells.size=sz) (A:ev fr x=some (.slice none 0 0)) (B:ev fr y=some (.int kq q)):
    Ef P w0 S0 n fr is ⟨d,.call {callee:=.builtin .append,args:=#[x,y],argTypes:=#[t,W]},ty,pos,aft,gd⟩ (λv:Va=>v) (λv=>.own v (lc (Bo k z))::is):=by
 obtain ⟨rfl,C,D,S⟩:=zya p;obtain ⟨E,ti,h,T,i⟩:=zA s;have F:P.underlying W=some (.int kq):=by unfold intB at f;split at f<;>simp_all
 have G:ti.zero=some zv:=by unfold zeroB at b;rw[h]at b;simpa using b
 have U:0<sz:=by rw[<-c];exact Enc.pos
 intro a w K Q l H Z;have I:(Builtin.firstCells ti.size 0 (.slice none 0 0)).run P w.drew= .ok #[] w.drew:=by simp[Builtin.firstCells,loadCells,loadCellsFrom]
 have J:k*ti.bytes<=281474976710656:=by rw[i];omega
 have L:=Lib.run_append_grow_zeros (P:=P) w t W ty e ti zv kq kq E F h G none 0 0 _ I k C (by omega) (by omega) (by omega) J (growslice_fits (by omega) (by rw[i];simpa using D));have m:=grownCap_ge w (0+k) 0 e;have o:grownCap w (0+k) 0 e<=maxLen:=grownCap_le_maxLen w (0+k) 0 e (by simp only[maxLen];omega);have M:(execOp a.eval ⟨d,.call {callee:=.builtin .append,args:=#[x,y],argTypes:=#[t,W]},ty,pos,aft,gd⟩).run P w= .ok (.value (.slice (some ⟨w.heap.size,0,none⟩) (0+k) (grownCap w (0+k) 0 e)))
  (w.drew.alloc (.cells (#[]++Builtin.zeroCells zv.cells k++Builtin.zeroCells zv.cells (grownCap w (0+k) 0 e - (0+k))) e)):=by
  simp[execOp,resolve,invoke,builtin,l.eval A,l.eval B,L]
 unfold Oper.wp;rw[M];refine Z (.slice (some ⟨w.heap.size,0,none⟩) (0+k) (grownCap w (0+k) 0 e)) _ ?_;have N:Chg w (w.drew.alloc (.cells (#[]++Builtin.zeroCells zv.cells k++Builtin.zeroCells zv.cells (grownCap w (0+k) 0 e - (0+k))) e)) []:=⟨rfl,rfl,rfl,by simp,λj O _=>heap_alloc_old w.drew _ O⟩;have V:(Builtin.zeroCells zv.cells k).toList=(Bo k z).flatMap Flat.vals:=by rw[<-zrk z k,c,<-u];simp[Builtin.zeroCells,madeCells,g]
 refine H.add N _ [w.heap.size] ?_ (by simp) (by simp);show Ow _ _ (.sl (Enc.sz α) (Bo k z).length ((Bo k z).flatMap Enc.enc)) [w.heap.size];rw[Dp];have R:(0+k)=k:=Dy k;rw[R]at m o |-
 refine .row w.heap.size k _ e (Enc.sz α) _ ((Bo k z).flatMap Flat.vals) _ [] (heap_alloc_new w.drew _) m o ?_ ?_ (Ows.of_vals (zba _))
 ·rw[Fj,Fj,size_zeroCells,size_zeroCells,g,c];have:(#[]:Array Va).size=0:=rfl;rw[this,Dy,<-Cj];simp_all
 ·have hl:((Bo k z).flatMap (Flat.vals (α:=α))).length=k*Enc.sz α:=by rw[zZ,Dp]
  simp_all
def Ef.overlaps {d:Option Nat} {f:Oe} {fn:Func} {x y:Od} {t tr e sz by_ b o la ca c g lb cb bt bt2:Nat} {ats:Array Ti} {cur cur2:J3} (p q:Nat) (l:P.funcs[f]? =some fn) (m:(fn.name == "runtime.NumGoroutine")=false) (s:fn.body.isNone=true) (u:Extern.findNext fn=none) (v:Extern.find fn=some (Extern.SlicesOverlaps.overlaps #[t,t] #[tr])) (z:elemB P t=some (e,sz,by_)) (A:ev fr x=some (.slice (some ⟨b,o,none⟩) la ca)) (B:ev fr y=some (.slice (some ⟨c,g,none⟩) lb cb)) (C:b≠c) (D:is[p]? =some (.box b bt cur)) (E:is[q]? =some (.box c bt2 cur2)) (hl:cur2≠[]):
    Ef P w0 S0 n fr is ⟨d,.call {callee:=.value (.func f),args:=#[x,y],argTypes:=ats},ty,pos,aft,gd⟩ (λ_:Unit=>.bool false) (λ_=>is):=by
 obtain ⟨F,ti,G,M,N⟩:=zA z;intro a w K Q j h hK;have i:=zd5 h D;have H:=zd5 h E;have hs: ∀w,(Go.sizeOf e).run P w= .ok ti.size w:=λw=>by simp[sizeOf,typeInfo,G]
 have I:=Lib.run_overlaps_apart (P:=P) w t tr e F ti.size hs ⟨b,o,none⟩ ⟨c,g,none⟩ la ca lb cb C bt bt2 cur.length cur2.length
  (by simp[World.shape?,i]) (by simp[World.shape?,H]) (by simpa using hl) (by simp[World.frozen?,i]) (by simp[World.frozen?,i])
 have J:(execOp a.eval ⟨d,.call {callee:=.value (.func f),args:=#[x,y],argTypes:=ats},ty,pos,aft,gd⟩).run P w= .ok (.value (.bool false)) w:=by have k:=run_callFunc_extern l m s u v #[.slice (some ⟨b,o,none⟩) la ca,.slice (some ⟨c,g,none⟩) lb cb] w;rw[I]at k;simp only[Result.andThen_ok]at k;have L:a.eval (.func f)= .func (.func f) #[] #[]:=rfl;simp[execOp,resolve,L,Deferred.ofValue,invoke,j.eval A,j.eval B];trivial
 unfold Oper.wp;rw[J];exact hK () w h
end
def nn (q:Int):Option Unit:=if q<0 then none else some ()
def nn_ge {u:Unit} (h:nn q=some u):0<=q:=by unfold nn at h;simp_all
def lenIs (n:Nat) (l:List α):Option Unit:=if l.length=n then some () else none
def zjB {u:Unit} (h:lenIs n l=some u):l.length=n:=by unfold lenIs at h;simp_all
structure Wrd where
 v:Int
deriving DecidableEq
instance:Enc Wrd:=⟨1,λx=>[.int .u32 x.v],λ_=>rfl,Fq⟩
instance:Flat Wrd:={vals:=λx=>[.int .u32 x.v],flat:=λ_=>rfl}
def arrV [Flat α] (l:List α):Va:=.agg (l.flatMap Flat.vals).toArray
def arrS (b n:Nat):Va:=.slice (some ⟨b,0,none⟩) n n
def arrB (P:Pm) (t:Ti):Option (Nat × Ti × Nat):=match P.underlying t with
 | some (.array n e)=>(P.info? e).map λi=>(n,e,i.size)
 | _=>none
def zmn {P:Pm} {t:Ti} {e:Ti} (h:arrB P t=some (n,e,sz)):P.underlying t=some (.array n e)/\∃i,P.info? e=some i/\i.size=sz:=by
 unfold arrB at h;split at h
 ·rename_i A e' a;cases hi:P.info? e' with
  | none=>rw[hi]at h;cases h
  | some i=>simp_all
 ·cases h
section
variable {P:Pm} {w0:Wo} {S0:J4}
variable {pos:String}
def Gh.arr [Flat α] (l:List α) (hl:l.flatMap Flat.vals=vs) (a:l.length=k) (c:k<=maxLen):Gh w0 S0 (.box b t vs::is) (λ_:Unit=>.own (arrS b k) (lc l)::is):=by
 intro w hs;refine ⟨(),?_⟩;obtain ⟨os,tape,output,size,base,S,⟨A,B,rfl,⟨rfl,d⟩,h⟩,e,f⟩:=hs;refine ⟨os,tape,output,size,base,[b]++B,⟨[b],B,rfl,?_,h⟩,e,f⟩;subst hl a;show Ow w (arrS b l.length) (.sl (Enc.sz α) l.length (l.flatMap Enc.enc)) [b];refine .row b l.length l.length t _ _ (l.flatMap Flat.vals) _ [] d (Bz _) c ?_ ?_ (Ows.of_vals (zba _))
 ·rw[Ep,zZ];exact Bz _
 ·rw[Ea,Dk (by rw[zZ];exact Bz _)]
def Ef.allocArr [Flat α] (l:List α) (c:zeroB P t=some (arrV l)) (d:l.length=k) (e:k<=maxLen):
    Ef P w0 S0 n fr is ⟨dst,.alloc t,ty,pos,aft,gd⟩ (λb:Nat=>.pointer (some ⟨b,0,none⟩)) (λb=>.own (arrS b k) (lc l)::is):=by intro a w K Q f hs A;refine Al (zs:=l.flatMap Flat.vals) c rfl a w K Q f hs λb w' hs'=>A b w' ?_;obtain ⟨_,h⟩:=Gh.arr l rfl d e w' hs';exact h
def Y.index_arr {y:Od} {D:Ik} {i:Int} (f:arrB P t=some (k,e,sz)) (g:Can w0 S0 is (arrS b k) (.sl sz' l.length cs')) (hi:idx l i=some z) (h:ev fr x=some (.pointer (some ⟨b,0,none⟩))) (j:ev fr y=some (.int D i)):
    Y P w0 S0 n fr is ⟨dst,.indexAddr t x y,ty,pos,aft,gd⟩ (elP (arrS b k) (i.toNat*sz+0)):=by
 obtain ⟨m,ti,o,p⟩:=zmn f;obtain ⟨q,u,v⟩:=zQ hi;intro a w c hs;have A:l.length=k:=by
  rcases g.row hs with ⟨B,_,d⟩ | ⟨C,cap,vs,S,d,_⟩
  ·omega
  ·unfold arrS at d;simp_all
 have s:i<(k:Int):=by omega
 simp[execOp,c.eval h,c.eval j,Instr.indexAt,Instr.sureAddr,run_underlying m,asIntOf,q,s,sizeOf,typeInfo,o,p,elP,arrS]
def zq4 [Flat α] (c:Can w0 S0 is (arrS b k) (lc l)) (hs:St w0 S0 is w) (e:0<k):
    l.length=k/\∀j,j<(l.flatMap (Flat.vals (α:=α))).length->w.cell? ((⟨b,0,none⟩:Addr).add j)=(l.flatMap Flat.vals)[j]?:=by
 rcases c.row hs with ⟨f,_,a⟩ | ⟨g,cap,vs,S,a,h,i,m,d⟩
 ·cases a
 ·unfold arrS at a;cases a;have n:=d.vals (zba l);simp_all
def Y.load_arr [Flat α] (c:kindB P t=some (true,s)) (hs':k*Enc.sz α=s) (d:0<k) (e:Can w0 S0 is (arrS b k) (lc l)) (f:ev fr x=some (.pointer (some ⟨b,0,none⟩))):
    Y P w0 S0 n fr is ⟨dst,.load t x,ty,pos,aft,gd⟩ (arrV l):=by intro a w g hs;obtain ⟨h,i⟩:=zq4 e hs d;have:=zb8 (P:=P) (v:=arrV l) c i (.inl ⟨rfl,by rw[zZ,h,hs'],rfl⟩);simp[execOp,g.eval f,Instr.loadAt,Instr.sureAddr,this]
def zxq [Flat α] (l:List α): ∀u∈l.flatMap (Flat.vals (α:=α)),u.oneCell'=true:=by
 have: ∀w:Wo,Ows w (l.flatMap (Flat.vals (α:=α))) (l.flatMap Enc.enc) []:=λw=>Ows.of_vals (zba l);intro u a;obtain ⟨x,f,a⟩:=List.mem_flatMap.1 a;have e: ∀{cs:List C} {vs:J3},valsC cs=some vs->∀u∈vs,u.oneCell'=true:=by
  intro cs;induction cs with
  | nil=>intro vs h u a;simp[valsC]at h;subst h;cases a
  | cons c cs ih=>
    intro vs h u a;unfold valsC at h;cases b:valC c with
    | none=>rw[b]at h;simp at h
    | some v=>
      cases d:valsC cs with
      | none=>rw[b,d]at h;simp at h
      | some r=>
        rw[b,d]at h;simp at h;subst h;rcases Dd.1 a with rfl | a
        ·exact zjR b
        ·simp_all
 exact e (Flat.flat x) u a
def Ef.store_arr [Flat α] {y:Od} {l':List α} (i:Nat) (p:kindB P t=some (true,s)) (hs':k*Enc.sz α=s) (J:0<k) (hl:l'.length=k) (hi:is[i]? =some (.own (arrS b k) (lc l))) (d:ev fr x=some (.pointer (some ⟨b,0,none⟩))) (q:ev fr y=some (arrV l')) (u:is.set i (.own (arrS b k) (lc l'))=is'):
    Ef P w0 S0 n fr is ⟨none,.store t x y,ty,pos,aft,gd⟩ (λ_:Unit=>undef) (λ_=>is'):=by
 intro a w K Q g h hK;obtain ⟨W,V,_⟩:=zcj hi h.own.choose_spec.1;have z: ∃cur e',w.heap[b]? =some (.cells cur e' (0,0))/\l.length=k/\k<=maxLen/\k*Enc.sz α<=cur.size:=by
  have O:Ow w (arrS b k) (.sl (Enc.sz α) l.length (l.flatMap Enc.enc)) W:=V;unfold arrS at O;generalize j:l.flatMap (Enc.enc (α:=α))=cs at O;generalize B:l.length=ln at O;cases O with
  | row b n cap e sz cur vs cs S c C m hs D o=>exact ⟨cur,e,c,rfl,m,hs⟩
 obtain ⟨cur,e',c,L,E,j⟩:=z;have f:(l'.flatMap (Flat.vals (α:=α))).length=k*Enc.sz α:=by rw[zZ,hl]
 have F:=zeP (P:=P) (off:=0) (v:=arrV l') (us:=l'.flatMap Flat.vals) p c rfl (by rw[f,hs'];simp) (zxq l') (by rw[f];omega);have G:(execOp a.eval ⟨none,.store t x y,ty,pos,aft,gd⟩).run P w= .ok .skip (w.setRow b (splice cur.toList 0 (l'.flatMap Flat.vals)).toArray):=by simp[execOp,g.eval d,g.eval q,Instr.storeAt,Instr.sureAddr,F]
 have H:(splice cur.toList 0 (l'.flatMap (Flat.vals (α:=α)))).length=cur.size:=by rw[zgk _ _ _ (by simp only[Bp];omega),Bp]
 unfold Oper.wp;rw[G];refine hK () _ ?_;subst u;refine h.upd hi λA Z M=>?_;have U:A= [b]:=by
  have T:Ow w (arrS b k) (.sl (Enc.sz α) l.length (l.flatMap Enc.enc)) A:=Z;unfold arrS at T;generalize I:l.flatMap (Enc.enc (α:=α))=cs at T;generalize B:l.length=ln at T;cases T with
  | row b n cap e sz cur vs cs S c C m hs D o=>subst I;rw[o.noS (zba l)]
 refine ⟨[b],?_,?_,by simp,λx d=>.inl (by rw[U];exact d)⟩
 ·rw[U];exact Chg.setRow w b _
 ·show Ow _ (arrS b k) (.sl (Enc.sz α) l'.length (l'.flatMap Enc.enc)) [b];rw[hl];refine .row b k k e' (Enc.sz α) _ (l'.flatMap Flat.vals) _ [] (setRow_heap w b _ _ e' _ c) (Bz _) E (by simpa[H] using j) ?_ (Ows.of_vals (zba _));rw[Ea,<-f];unfold splice;simp
def zvV {t:Ti} (a:kindB P t=some (ag,s)) (w:Wo):(isAgg t).run P w= .ok ag w:=by obtain ⟨d,i,b,hi,c,e⟩:=zg9 a;simp_all
def Y.idx_arr {y:Od} {B:Ik} {i:Int} {l:List Wrd} {z:Wrd} (c:arrB P t=some (k,e,1)) (d:kindB P e=some (false,1)) (hl:l.length=k) (hi:idx l i=some z) (f:ev fr x=some (arrV l)) (g:ev fr y=some (.int B i)):Y P w0 S0 n fr is ⟨dst,.index t x y,ty,pos,aft,gd⟩ (.int .u32 z.v):=by
 obtain ⟨h,ti,j,m⟩:=zmn c;obtain ⟨o,A,p⟩:=zQ hi;intro a w b hs;have q:i<(k:Int):=by omega
 have s: ∀l:List Wrd,l.flatMap (Flat.vals (α:=Wrd))=l.map λx=>Value.int .u32 x.v:=by
  intro l;induction l with
  | nil=>rfl
  | cons x l ih=>rw[Ct,ih];rfl
 have u:(l.flatMap (Flat.vals (α:=Wrd)))[i.toNat]? =some (.int .u32 z.v):=by rw[s,Fi,p];rfl
 simp[execOp,b.eval f,b.eval g,Instr.index,run_underlying h,asIntOf,o,q,sizeOf,typeInfo,j,m,arrV,Go.part,zvV d,u]
def zo7 {f g:Nat->Option (Nat × Nat)} : ∀{ps:List (Nat × Va)} {cur:Array Va},(∀p∈ps,f p.1=g p.1)->Instr.fill f cur ps=Instr.fill g cur ps
 | [],_,_=>rfl
 | (i,v)::ps,cur,h=>by
   simp only[Instr.fill];rw[h (i,v) (.head _)];cases g i with
   | none=>rfl
   | some x=>
     simp only;split
     ·rfl
     ·exact zo7 λp a=>h p (.tail _ a)
def Y.build_arr {t:Ti} {cells:J3} (qs:List (Nat × J3)) (b:arrB P t=some (k,e,sz)) (c:zeroB P t=some (.agg zs.toArray)) (d:Parts w0 S0 is fr ps qs) (f:ps.all (λp=>Dj p.1 k)=true) (g:fills ((Gs k).map λi=>(i*sz,sz)) zs qs=some cells) (h:Value.agg cells.toArray=v):Y P w0 S0 n fr is ⟨dst,.build t ps.toArray,ty,pos,aft,gd⟩ v:=by
 obtain ⟨j,ti,l,m⟩:=zmn b;intro a w o hs;subst h;have q:=zog (place:=(Gs k).map λi=>(i*sz,sz)) o hs d g;have s:Instr.fill (λi=>some (i*sz,sz)) zs.toArray (ps.map λ(i,x)=>(i,a.eval x))=some cells.toArray:=by rw[<-q];refine zo7 λp u=>?_;obtain ⟨⟨i,x⟩,y,rfl⟩:=Fx.1 u;have:=Ey.1 f _ y;simp_all
 have z:(Instr.build t (ps.toArray.map λ(i,x)=>(i,a.eval x))).run P w= .ok (.agg cells.toArray) w:=by simp only[Instr.build,Sem.run_bind,zgM c,run_underlying j,Result.andThen_ok,sizeOf,typeInfo,run_program,l,Sem.run_pure,m,Value.cells,Eh,s]
 simp only[execOp,Sem.run_bind,z,Result.andThen_ok,Sem.run_pure]
def RV.cell_arr [Flat α] {p:Nat} {r:List ResultVar} (a:lk p fr=some (.pointer (some ⟨b,0,none⟩))) (c:is[i]? =some (.own (arrS b k) (lc l))) (d:kindB P t=some (true,s)) (e:k*Enc.sz α=s) (f:0<k) (h:RV P fr is r vs):RV P fr is (.cell p t::r) (arrV l::vs):=
 ⟨⟨_,a,λw0 S0 w hs=>by obtain ⟨g,j⟩:=zq4 (Oc i c) hs f;exact zb8 (P:=P) (v:=arrV l) d j (.inl ⟨rfl,by rw[zZ,g,e],rfl⟩)⟩,h⟩
end
section
variable {P:Pm} {w0:Wo} {S0:J4} {pos:String}
def append_room_str {t u e e':Ti} {i:TypeInfo} (b:P.underlying t=some (.slice e)) (c:P.underlying u=some .string) (hi:P.info? e=some i) (d:i.size=1) (g A B:Nat) (cur:Array Va) (f:w.heap[g]? =some (.cells cur e' (0,0))) (s:ByteArray) (h:A+s.size<=B) (j:A+s.size<=cur.size):
    (Builtin.append_ #[t,u] ty #[.slice (some ⟨g,0,none⟩) A B,.string s]).run P w=
      .ok (.slice (some ⟨g,0,none⟩) (A+s.size) B) (w.setRow g (cur.toList.take A++Lib.strCells s++cur.toList.drop (A+s.size)).toArray):=by have k:=Lib.run_firstCells_string (P:=P) w 1 s;have a:=run_storeCells_at P g A e' (Lib.strCells s) 0 cur w f (by simpa[Lib.strCells_length] using j) (Lib.strCells_oneCell s);simp only[Ff,Lib.strCells_length]at a;simp[Builtin.append_,run_underlying b,run_underlying c,sizeOf,typeInfo,hi,d,Builtin.lenOf,h,k,Addr.add_lit,a]
theorem append_str_raw {t u e:Ti} (c:P.underlying t=some (.slice e)) (d:P.underlying u=some .string) (f:P.info? e=some ti) (l:ti.zero=some (.int .u8 0)) (m:ti.size=1) (o:ti.bytes=1) (h:w.ownsRow 0 e 1 v n us) (s:ByteArray) (y:n+s.size<=9223372036854775807) (p:n+s.size<=140737488355328):
 ∃T w',(Builtin.append_ #[t,u] ty #[v,.string s]).run P w= .ok T w'/\w'.ownsRow 0 e 1 T (n+s.size) (us++Lib.strCells s)/\w.grownBy w' v.ownBlock/\∀b∈T.ownBlock.toList,b∈v.ownBlock.toList\/w.heap.size<=b:=by
 rcases h.2 with ⟨rfl,rfl⟩ | ⟨g,cap,cur,rfl,_,z,K,D,E,L⟩
 ·have F:us= []:=Bh (by simpa using h.1);subst F;obtain ⟨T,w',A,G,H,M⟩:=Lib.run_append_own_string (P:=P) w 0 t u ty e ti c d f l m o (.slice none 0 0) 0 [] (World.ownsRow_nil w 0 e 1) s (by simp only[maxLen];exact y) p (Ei _);refine ⟨T,w',A,G,H,?_⟩;intro b hb';have i:=zhn hb';by_cases N:s.size=0
  ·simp_all
  ·have a:=run_append_nil_string (P:=P) w t u ty e ti (.int .u8 0) c d f l s (by omega) (by omega) (by rw[o];omega);rw[A]at a;simp only[Result.ok.injEq]at a;rw[a.1]at i;simp only[Value.ownBlock,Ba]at i;omega
 ·have q:us.length=n:=by simpa using h.1
  have B:(us++Lib.strCells s).length=(n+s.size)*1:=by rw[Cq,q,Lib.strCells_length,Gg]
  by_cases C:n+s.size<=cap
  ·have O:cur.size=cap:=by simpa using E
   have a:=append_room_str (P:=P) (ty:=ty) c d f m g n cap cur z s C (by omega);refine ⟨_,_,a,⟨B,.inr ⟨g,cap,_,rfl,Ei _,setRow_heap w g cur _ e _ z,C,D,?_,?_⟩⟩,⟨rfl,rfl,rfl,by simp,λk _ x=>setRow_other w g k _ (λe=>x (by simp[Value.ownBlock,e]))⟩,λb p=>.inl p⟩
   ·grind
   ·grind
  ·have I: ∀j u,us[j]? =some u->w.cell? ((⟨g,0,none⟩:Addr).add j)=some u:=h.cells (g:=g) rfl;have a:=Lib.run_append_grow_string (P:=P) w t u ty e ti (.int .u8 0) c d f l ⟨g,0,none⟩ n cap us (by rw[m];simpa using q) I s (by omega) (by omega) (by rw[o];exact growslice_fits (by omega) (by omega));refine ⟨_,_,a,⟨B,.inr ⟨w.heap.size,_,_,rfl,Ei _,heap_alloc_new w.drew _,grownCap_ge w (n+s.size) cap e,grownCap_le_maxLen w (n+s.size) cap e (by simp only[maxLen];exact y),?_,?_⟩⟩,⟨rfl,rfl,rfl,by simp,λk x _=>heap_alloc_old w.drew _ x⟩,λb hb'=>?_⟩
   ·have Q:=grownCap_ge w (n+s.size) cap e;have J:(Value.int IntKind.u8 0).cells.size=1:=rfl;simp only[Fj,Ep,size_zeroCells,J,q,Lib.strCells_length];omega
   ·grind
   ·have i:=zhn hb';simp only[Value.ownBlock,Ba]at i;omega
def Buf.own {e:Ti} {l:J2} (h:Buf w v e l S):w.ownsRow 0 e 1 v l.length (l.map λx=>Value.int .u8 x.toNat)/\S=v.ownBlock.toList:=by
 rcases h with ⟨rfl,rfl,rfl⟩ | ⟨g,cap,cur,rfl,a,b,c,f,d,rfl⟩
 ·exact ⟨World.ownsRow_nil w 0 e 1,rfl⟩
 ·refine ⟨⟨by simp,.inr ⟨g,cap,cur,rfl,Ei _,a,b,c,by omega,by rw[Gg];exact d⟩⟩,rfl⟩
def Buf.of_own {e:Ti} {l:J2} (h:w.ownsRow 0 e 1 v l.length (l.map λx=>Value.int .u8 x.toNat)):Buf w v e l v.ownBlock.toList:=by
 rcases h.2 with ⟨rfl,b⟩ | ⟨g,cap,cur,rfl,_,c,d,f,i,a⟩
 ·exact .inl ⟨rfl,Bh b,rfl⟩
 ·refine .inr ⟨g,cap,cur,rfl,c,d,f,by omega,by rw[Gg]at a;exact a,rfl⟩
theorem append_go_str {l k r:J2} (hs':St w0 S0 (.buf v e l::is') w) (j:app 1 l k=some r) (m:elemB P t=some (e,1,1)) (g:isStrB P t2=true) (d:zeroB P e=some (.int .u8 0)):
 ∃O w',(Builtin.append_ #[t,t2] ty #[v,strV k]).run P w= .ok O w'/\St w0 S0 (.buf O e r::is') w':=by
 obtain ⟨n,ti,h,o,p⟩:=zA m;have s:P.underlying t2=some .string:=by unfold isStrB at g;split at g<;>simp_all
 obtain ⟨rfl,I,u⟩:=zkG j;have y:ti.zero=some (.int .u8 0):=by unfold zeroB at d;rw[h]at d;simpa using d
 obtain ⟨os,tape,output,size,base,S,hS,z,J⟩:=hs';obtain ⟨A,B,W,hA,hB⟩:=hS;obtain ⟨C,Z⟩:=Buf.own hA;have f:(⟨k.toArray⟩:ByteArray).size=k.length:=by simp[ByteArray.size]
 obtain ⟨O,w',D,i,E,K⟩:=append_str_raw (P:=P) (ty:=ty) n s h y o p C ⟨k.toArray⟩ (by rw[f];exact u) (by rw[f];omega);have F:(l.map λx=>Value.int .u8 x.toNat)++Lib.strCells ⟨k.toArray⟩=(l++k).map λx=>Value.int .u8 x.toNat:=by rw[Hx];rfl
 rw[f,F,<-Cq]at i;refine ⟨O,w',D,?_⟩;have G:Buf w' O e (l++k) O.ownBlock.toList:=Buf.of_own i;have L: ∀q:Va,q.ownBlock.toList.Nodup:=by intro q;cases q.ownBlock<;>simp
 obtain ⟨hndA,hndB,H⟩:=Da.1 (W ▸ z);have U:=zfw hB;have T: ∀b∈v.ownBlock.toList,b∈A:=λb a=>by rw[Z];exact a
 have c:=Chg.of_grown E A T;refine ⟨c.os.trans os,c.tape.trans tape,c.output.trans output,Cv size c.size,?_,O.ownBlock.toList++B,⟨_,B,rfl,G,zgI hB λb a=>c.keep b (U b a) λV=>H b V b a rfl⟩,?_,?_⟩
 ·intro b a M;rw[c.keep b (Ej a size) λV=>?_]
  ·simp_all
  ·grind
 ·grind
 ·grind
def Ef.bufAppend {y:Od} {l k r:J2} (B:J4) (c:app 1 l k=some r) (f:elemB P t=some (e,1,1)) (g:isStrB P t2=true) (h:zeroB P e=some (.int .u8 0)) (i:pulls B is=some (.buf v e l::is')) (j:ev fr x=some v) (m:ev fr y=some (strV k)):
    Ef P w0 S0 n fr is ⟨d,.call {callee:=.builtin .append,args:=#[x,y],argTypes:=#[t,t2]},ty,pos,aft,gd⟩ (λA:Va=>A) (λA=>.buf A e r::is'):=by
 intro a w K Q b hs D;obtain ⟨A,w',o,p⟩:=append_go_str (ty:=ty) (hs.pulls B i) c f g h;have q:(execOp a.eval ⟨d,.call {callee:=.builtin .append,args:=#[x,y],argTypes:=#[t,t2]},ty,pos,aft,gd⟩).run P w= .ok (.value A) w':=by simp[execOp,resolve,invoke,builtin,b.eval j,b.eval m,o]
 unfold Oper.wp;rw[q];exact D A w' p
def Ef.bufNew {y:Od} {k r:J2} (c:app 1 [] k=some r) (f:elemB P t=some (e,1,1)) (g:isStrB P t2=true) (h:zeroB P e=some (.int .u8 0)) (i:ev fr x=some (.slice none 0 0)) (j:ev fr y=some (strV k)):
    Ef P w0 S0 n fr is ⟨d,.call {callee:=.builtin .append,args:=#[x,y],argTypes:=#[t,t2]},ty,pos,aft,gd⟩ (λA:Va=>A) (λA=>.buf A e r::is):=by
 intro a w K Q b hs B;have l:St w0 S0 (.buf (.slice none 0 0) e []::is) w:=hs.add (Chg.refl w []) _ [] (.inl ⟨rfl,rfl,rfl⟩) (by simp) (by simp);obtain ⟨A,w',m,o⟩:=append_go_str (ty:=ty) l c f g h;have p:(execOp a.eval ⟨d,.call {callee:=.builtin .append,args:=#[x,y],argTypes:=#[t,t2]},ty,pos,aft,gd⟩).run P w= .ok (.value A) w':=by simp[execOp,resolve,invoke,builtin,b.eval i,b.eval j,m]
 unfold Oper.wp;rw[p];exact B A w' o
def ixor8 (p q:UInt8):ixor .u8 (p.toNat:Int) (q.toNat:Int)=(((p ^^^ q).toNat:Nat):Int):=by
 have a:=p.toNat_lt;have b:=q.toNat_lt;have c:=Nat.xor_lt_two_pow (n:=8) a b;unfold ixor;have e:(Dx IntKind.u8.bits (p.toNat:Int) ^^^ Dx IntKind.u8.bits (q.toNat:Int)).toNat=p.toNat ^^^ q.toNat:=by show (Dx 8 (p.toNat:Int) ^^^ Dx 8 (q.toNat:Int)).toNat=p.toNat ^^^ q.toNat;simp
 rw[e,UInt8.toNat_xor];simp[IntKind.wrap,IntKind.bits,IntKind.signed];omega
def Y.xor8 {y:Od} {t:Ti} {p q:UInt8} (a:ev fr x=some (.int .u8 (p.toNat:Int))) (b:ev fr y=some (.int .u8 (q.toNat:Int))):
    Y P w0 S0 n fr is ⟨dst,.binOp .xor t x y t',ty,pos,aft,gd⟩ (.int .u8 (((p ^^^ q).toNat:Nat):Int)):=by rw[<-ixor8];exact Y.xor a b
def ptrB (P:Pm) (t:Ti):Option (Ti × Nat):=match P.underlying t with
 | some (.pointer e)=>(P.info? e).map λi=>(e,i.size)
 | _=>none
def zgG (h:ptrB P t=some (e,k)):P.underlying t=some (.pointer e)/\∃j,P.info? e=some j/\j.size=k:=by
 unfold ptrB at h;split at h
 ·rename_i e' b;cases a:P.info? e' with
  | none=>rw[a]at h;cases h
  | some j=>simp_all
 ·cases h
def Y.ptr_nil {y:Od} (h:ptrB P t=some (e,k)) (c:ev fr x=some (.pointer none)) (f:ev fr y=some (.pointer none)):
    Y P w0 S0 n fr is ⟨dst,.binOp .eql t x y t',ty,pos,aft,gd⟩ (.bool true):=by
 obtain ⟨g,j,l,_⟩:=zgG h;intro a w b _;have i: ∀d:Nat,(Op.equalIn (d+1) t (.pointer none) (.pointer none)).run P w= .ok true w:=λd=>by simp[Op.equalIn,run_underlying g]
 simp[execOp,b.eval c,b.eval f,eqGuard,binOp,Op.equal,Op.maxDepth,i 9999]
def Y.ptr_some {y:Od} {b:Addr} (h:ptrB P t=some (e,k)) (f:ev fr x=some (.pointer (some b))) (g:ev fr y=some (.pointer none)):
    Y P w0 S0 n fr is ⟨dst,.binOp .eql t x y t',ty,pos,aft,gd⟩ (.bool false):=by
 obtain ⟨i,j,m,_⟩:=zgG h;intro a w c _;have l: ∀d:Nat,(Op.equalIn (d+1) t (.pointer (some b)) (.pointer none)).run P w= .ok false w:=λd=>by simp[Op.equalIn,run_underlying i]
 simp[execOp,c.eval f,c.eval g,eqGuard,binOp,Op.equal,Op.maxDepth,l 9999]
def Y.ptr_self {y:Od} {b:Addr} (h:ptrB P t=some (e,k)) (d:ev fr x=some (.pointer (some b))) (f:ev fr y=some (.pointer (some b))):
    Y P w0 S0 n fr is ⟨dst,.binOp .neq t x y t',ty,pos,aft,gd⟩ (.bool false):=by obtain ⟨g,j,i,_⟩:=zgG h;intro a w c _;have l:=Lib.run_neq_ptr_same (P:=P) w b g i;simp[execOp,c.eval d,c.eval f,eqGuard,l]
def unsB (P:Pm) (t:Ti):Bool:=match P.underlying t with
 | some .unsafePointer=>true
 | _=>false
def zrH (h:unsB P t=true):P.underlying t=some .unsafePointer:=by unfold unsB at h;split at h<;>simp_all
def zq5 (hs:St w0 S0 is w) (hi:is[i]? =some (.box b t vs)):w.shape? b=some (t,vs.length):=by have:=zd5 hs hi;simp[World.shape?,this]
def Y.toUnsafe (i:Nat) (d:ptrB P src=some (e,k)) (c:Bw k 0=false) (f:unsB P tgt=true) (hi:is[i]? =some (.box b t vs)) (hl:Dj 0 vs.length=true) (g:ev fr x=some (.pointer (some ⟨b,0,none⟩))):Y P w0 S0 n fr is ⟨dst,.convert src tgt x,ty,pos,aft,gd⟩ (.pointer (some ⟨b,0,none⟩)):=by obtain ⟨h,j,l,m⟩:=zgG d;intro a w o hs;have p:=zq5 hs hi;have q:=Lib.run_to_unsafe (P:=P) w ⟨b,0,none⟩ h (zrH f) l (by rw[m];intro e;rw[e]at c;cases c) p (by simpa using hl);simp[execOp,o.eval g,q]
def Y.fromUnsafe (i:Nat) (c:ptrB P tgt=some (e,k)) (d:unsB P src=true) (hi:is[i]? =some (.box b t vs)) (hl:liesAt P P.depth t (vs.length / P.cellsOf t) 0 e 1=true) (f:ev fr x=some (.pointer (some ⟨b,0,none⟩))):Y P w0 S0 n fr is ⟨dst,.convert src tgt x,ty,pos,aft,gd⟩ (.pointer (some ⟨b,0,none⟩)):=by obtain ⟨g,j,h,p⟩:=zgG c;intro a w l hs;have m:=zq5 hs hi;have o:=Lib.run_from_unsafe (P:=P) w ⟨b,0,none⟩ (zrH d) g h m hl;simp[execOp,l.eval f,o]
def Y.noEscape {f:Oe} {fn:Func} {ts:Array Ti} (c:P.funcs[f]? =some fn) (d:(fn.name == "runtime.NumGoroutine")=false) (e:fn.body.isNone=true) (g:Extern.findNext fn=none) (h:Extern.find fn=some Extern.AbiNoEscape.same) (i:ev fr x=some v):Y P w0 S0 n fr is ⟨dst,.call {callee:=.value (.func f),args:=#[x],argTypes:=ts},ty,pos,aft,gd⟩ v:=by
 intro a w j _;have b:=run_callFunc_extern c d e g h #[v] w;rw[Lib.run_noEscape]at b;have k:(callFunc f #[v]).run P w= .ok (.value v) w:=b;obtain rfl:a.eval x=v:=j.eval i;have l:(execOp a.eval ⟨dst,.call {callee:=.value (.func f),args:=#[x],argTypes:=ts},ty,pos,aft,gd⟩).run P w=(callFunc f #[a.eval x]).run P w:=by simp[execOp,resolve,Act.eval,Deferred.ofValue,invoke]
 simp_all
def TW.fact {c:Code} (g: ∀w,St w0 S0 is w->p) (h:p->TW P w0 S0 m n fr is c Q):TW P w0 S0 m n fr is c Q:=
 λr b a w d hs=>h (g w hs) r b a w d hs
theorem zqc {l:J2} (hs:St w0 S0 is w) (hi:is[i]? =some (.buf v e l)): ∃A,Buf w v e l A:=by
 obtain ⟨_,_,_,_,_,S,h,_,_⟩:=hs;have key: ∀(is:J5) (i:Nat) (S:J4),is[i]? =some (.buf v e l)->sats w is S->∃A,Buf w v e l A:=by
  intro is;induction is with
  | nil=>intro i S hi;simp at hi
  | cons x r ih=>
    intro i S hi h;obtain ⟨A,B,rfl,a,b⟩:=h;cases i with
    | zero=>simp only[Dn,Ba]at hi;subst hi;exact ⟨A,a⟩
    | succ i=>exact ih i B (by simpa using hi) b
 grind
theorem zvy {l:J2} (hi:is[i]? =some (.buf v e l)) (hl:l≠[]): ∀w,St w0 S0 is w->∃g c,v= .slice (some ⟨g,0,none⟩) l.length c/\c≠0:=by
 intro w hs;obtain ⟨A,h⟩:=zqc hs hi;rcases h with ⟨_,h,_⟩ | ⟨g,cap,cur,a,b,d,_⟩
 ·trivial
 ·grind
def One.buf {i e:Nat} {v:Va} {l:J2} (hi:is[i]? =some (.buf v e l)):One w0 S0 is v:=by intro w hs;obtain ⟨A,h⟩:=zqc hs hi;rcases h with ⟨rfl,_⟩ | ⟨g,cap,cur,rfl,_⟩<;>rfl
def strOf (l:J2):Option J2:=if l= [] then none else some l
theorem zxd {l r:J2} (h:strOf l=some r):l≠[]/\l=r:=by unfold strOf at h;grind
def Y.sliceData {b:Addr} {c:Nat} {h:Array Ti} (d:c≠0) (e:ev fr x=some (.slice (some b) k c)):Y P w0 S0 n fr is ⟨dst,.call {callee:=.builtin .unsafeSliceData,args:=#[x],argTypes:=h},ty,pos,aft,gd⟩ (.pointer (some b)):=by intro a w f _;have g:=Lib.run_unsafeSliceData_row (P:=P) w h ty b k c d;simp[execOp,resolve,invoke,builtin,f.eval e,g]
def Y.lenV {b:Option Addr} {c:Nat} (d:elemB P t=some (e,sz,by_)) (f:ev fr x=some (.slice b k c)):Y P w0 S0 n fr is ⟨dst,.call {callee:=.builtin .len,args:=#[x],argTypes:=#[t]},ty,pos,aft,gd⟩ (.int .i64 k):=by obtain ⟨g,_⟩:=zA d;intro a w h _;simp[execOp,resolve,invoke,builtin,h.eval f,Builtin.len_,run_underlying g,goInt]
theorem Ef.takeStr {y:Od} {g c pt it:Nat} {l:J2} (ks:J4) (hl:l≠[]) (v:ptrB P pt=some (e,k)) (z:Bw (P.cellsOf e) 1=true) (B:pulls ks is=some (.buf (.slice (some ⟨g,0,none⟩) l.length c) e l::is')) (C:ev fr x=some (.pointer (some ⟨g,0,none⟩))) (D:ev fr y=some (.int .i64 l.length)):
 Ef P w0 S0 n fr is ⟨d,.call {callee:=.builtin .unsafeString,args:=#[x,y],argTypes:=#[pt,it]},ty,pos,aft,gd⟩ (λ_:Unit=>strV l) (λ_=>is'):=by
 obtain ⟨E,j,m,_⟩:=zgG v;intro a w K Q o hs hK;have hs':=hs.pulls ks B;obtain ⟨A,W⟩:=zqc hs' (i:=0) rfl;rcases W with ⟨h,_⟩ | ⟨g',cap,cur,f,p,O,F,R,G,S⟩
 ·cases h
 ·simp only[Value.slice.injEq,Ba,Addr.mk.injEq,true_and,and_true]at f;obtain ⟨rfl,rfl⟩:=f;have H:w.shape? g=some (e,cur.size):=by simp[World.shape?,p]
  have I: ∀j x,l[j]? =some x->w.cell? ((⟨g,0,none⟩:Addr).add j)=some (.int .u8 x.toNat):=by
   intro j x s;have J:(⟨g,0,none⟩:Addr).add j=⟨g,j,none⟩:=by unfold Addr.add;split<;>simp_all
   obtain ⟨m,_⟩:=Bt.1 s;have t:=congrArg (λq=>q[j]?) G;simp only[Fi,s,Dm]at t;rw[By,iP m]at t;rw[J,cell_of_row w g j cur e (0,0) p];simp_all
  have L:l.length<=9223372036854775807:=by simp only[maxLen]at F;omega
  have M:=Lib.run_unsafeString_row (P:=P) w pt it ty e E (Ec z) g cur.size H l hl (by omega) L I;have N:(execOp a.eval ⟨d,.call {callee:=.builtin .unsafeString,args:=#[x,y],argTypes:=#[pt,it]},ty,pos,aft,gd⟩).run P w= .ok (.value (strV l)) (w.freeze ⟨g,0,none⟩ l.length):=by simp[execOp,resolve,invoke,builtin,o.eval C,o.eval D,M,strV]
  unfold Oper.wp;rw[N];refine hK () _ ?_;refine St.step (is:=[.buf (.slice (some ⟨g,0,none⟩) l.length c) e l]) (js:=[]) (r:=is') hs' λA W T=>⟨[],?_,rfl,Et,λb u=>by cases u⟩;obtain ⟨A1,B1,rfl,Z,hB1⟩:=W;have U:g∈A1:=by
   rcases Z with ⟨h,_⟩ | ⟨g',_,_,f,_,_,_,_,_,rfl⟩
   ·cases h
   ·simp_all
  unfold World.freeze;split
  ·simp_all
  ·refine ⟨rfl,rfl,rfl,by simp,λb u V=>?_⟩;grind
end
section
variable {P:Pm} {w0:Wo} {S0:J4} {pos:String}
def byteRoom (s:J2):Option Unit:=if s.length<=140737488355328 then some () else none
def Ef.toBytes {s:J2} {z:Unit} (c:byteRoom s=some z) (hs:isStrB P src=true) (h:elemB P tgt=some (e,sz,by_)) (d:intB P e=some .u8) (i:ev fr x=some (strV s)):
    Ef P w0 S0 n fr is ⟨dst,.convert src tgt x,ty,pos,aft,gd⟩ (λv:Va=>v) (λv=>.frz v e s::is):=by
 obtain ⟨j,_⟩:=zA h;have hs':P.underlying src=some .string:=by unfold isStrB at hs;split at hs<;>simp_all
 have k:P.underlying e=some (.int .u8):=by unfold intB at d;split at d<;>simp_all
 intro a w K Q l m B;have f:=Lib.run_convert_string_bytes (P:=P) w src tgt e ⟨s.toArray⟩ hs' j k;have o:(ByteArray.mk s.toArray).size=s.length:=by rw[ByteArray.size_mk'];rfl
 rw[o]at f;have p:=grownCap_ge w s.length 0 e;have q:(execOp a.eval ⟨dst,.convert src tgt x,ty,pos,aft,gd⟩).run P w= .ok (.value (.slice (some ⟨w.heap.size,0,none⟩) s.length (grownCap w s.length 0 e))) (Lib.bytesWorld w e ⟨s.toArray⟩):=by simp[execOp,l.eval i,strV,f]
 unfold Oper.wp;rw[q];refine B _ _ ?_;refine St.step (is:=[]) (js:=[.frz (.slice (some ⟨w.heap.size,0,none⟩) s.length (grownCap w s.length 0 e)) e s]) (r:=is) m λA D _=>⟨[w.heap.size],?_,?_,by simp,λb c=>.inr (by rw[Dh.1 c];exact Bz _)⟩
 ·have t:=Lib.bytesWorld_size w e ⟨s.toArray⟩;refine ⟨?_,?_,?_,by omega,λb c _=>Lib.bytesWorld_at_old w e _ b c⟩<;>(unfold Lib.bytesWorld World.freeze;split<;>rfl)
 ·have g:(Lib.bytesCells w e ⟨s.toArray⟩).size=grownCap w s.length 0 e:=by unfold Lib.bytesCells;simp_all
  refine ⟨[w.heap.size],[],rfl,⟨w.heap.size,grownCap w s.length 0 e,Lib.bytesCells w e ⟨s.toArray⟩,rfl,?_,p,g,?_,rfl⟩,rfl⟩
  ·rw[Lib.bytesWorld_at_new,g]
  ·unfold Lib.bytesCells;simp
def zxA {l:J2} (hs:St w0 S0 is w) (hi:is[i]? =some (.frz v e l)): ∃A,Frz w v e l A:=by obtain ⟨A,h,_⟩:=zcj hi hs.own.choose_spec.1;exact ⟨A,h⟩
def zrd (l:J2):l.map (λx=>Value.int .u8 x.toNat)=l.flatMap (Flat.vals (α:=UInt8)):=by
 induction l with
 | nil=>rfl
 | cons x l ih=>rw[Dg,Ct,ih];rfl
def Can.frz {v:Va} {e:Ti} {l:J2} (k:Nat) (h:is[k]? =some (.frz v e l)):Can w0 S0 is v (lc l):=by
 intro w S hs _;obtain ⟨A,E,m⟩:=zcj h hs;obtain ⟨g,cap,cur,rfl,c,d,n,f,rfl⟩:=E;obtain ⟨T,F,D⟩:=Ows.rds (Ows.of_vals (w:=w) (zba l));have B:T= []:=by
  cases T with
  | nil=>rfl
  | cons x T=>exact absurd (D x (by simp)) (by simp)
 subst B;have a:Enc.sz UInt8=1:=rfl;refine ⟨_,.row ⟨g,0,none⟩ l.length cap (Enc.sz UInt8) (l.flatMap Flat.vals) _ [] (by rw[<-zrd];simp[a]) d ?_ F,?_⟩
 ·intro j b;rw[a,Gg]at b;have i:(⟨g,0,none⟩:Addr).add j=⟨g,j,none⟩:=by unfold Addr.add;split<;>simp_all
  rw[i,cell_of_row w g j cur e (cap,cap+1) c,<-zrd,<-f,By,iP b];simp
 ·simp_all
def zoK {off ty:Nat} {cur:Array Va} {lo hi:Nat} (c:kindB P ty=some (false,1)) (a:w.heap[b]? =some (.cells cur e (lo,hi))) (n:cur.size<=lo) (f:v.cells= #[v]) (g:v.oneCell'=true) (h:off<cur.size):
    (storeVar ty ⟨b,off,none⟩ v).run P w= .ok () (w.setRow b (cur.setIfInBounds off v)):=by
 obtain ⟨d,i,o,j,k,_⟩:=zg9 c;have l:w.cell? ⟨b,off,none⟩=some cur[off]:=by simp[World.cell?,a,h]
 have m:w.frozen? ⟨b,off,none⟩=false:=by simp only[World.frozen?,a,Gp,decide_eq_false_iff_not];omega
 have p:(store (⟨b,off,none⟩:Addr) v).run P w= .ok () (w.setRow b (cur.setIfInBounds off v)):=by rw[run_store P w _ v _ g,l];simp[m,setCell_eq_setRow w b off cur e (lo,hi) v a]
 have q:(⟨b,off,none⟩:Addr).add 0=⟨b,off,none⟩:=by unfold Addr.add;split<;>simp_all
 simp only[storeVar,Sem.run_bind,sizeOf,typeInfo,run_program,Result.andThen_ok,j,Sem.run_pure,f,k];trivial
theorem Ef.store_frz {y:Od} {c:Nat} {l:J2} {z:UInt8} (M:UInt8) (i:Nat) (j:kindB P t=some (false,1)) (hi:is[i]? =some (.frz v e l)) (E:l[k]? =some z) (b:ev fr x=some (elP v (k*sz+c))) (hs:Bw sz 1=true) (m:Bw c 0=true) (o:ev fr y=some (.int .u8 (M.toNat:Int))) (p:is.set i (.frz v e (l.set k M))=is'):
 Ef P w0 S0 n fr is ⟨none,.store t x y,ty,pos,aft,gd⟩ (λ_:Unit=>undef) (λ_=>is'):=by
 obtain rfl:sz=1:=Ec hs;obtain rfl:c=0:=Ec m;intro a w K Q d f V;have F:k<l.length:=by grind
 obtain ⟨W,g,cap,cur,rfl,h,q,s,u,_⟩:=zxA f hi;have B:k<cur.size:=by omega
 have C:=zoK (P:=P) (ty:=t) (off:=k) (v:=.int .u8 (M.toNat:Int)) j h (by omega) rfl rfl B;have D:(execOp a.eval ⟨none,.store t x y,ty,pos,aft,gd⟩).run P w= .ok .skip (w.setRow g (cur.setIfInBounds k (.int .u8 (M.toNat:Int)))):=by simp[execOp,d.eval b,d.eval o,elP,Instr.storeAt,Instr.sureAddr,add_lit,C]
 unfold Oper.wp;rw[D];refine V () _ ?_;subst p;refine f.upd hi λA U G=>?_;have J:A= [g]:=by obtain ⟨Z,O,T,H,_,_,_,_,I⟩:=U;simp_all
 refine ⟨[g],?_,?_,by simp,λx b=>.inl (by rw[J];exact b)⟩
 ·rw[J];exact Chg.setRow w g _
 ·refine ⟨g,cap,cur.setIfInBounds k (.int .u8 (M.toNat:Int)),by rw[El],setRow_heap w g cur _ e (cap,cap+1) h,by rw[El];exact q,by simpa using s,?_,rfl⟩;rw[El,Gf,List.take_set,u,List.map_set]
def Kt {l:List Oper} (g: ∀w,St w0 S0 is w->St w0 S0 is' w) (h:TO P w0 S0 m n fr is' ops l Q):TO P w0 S0 m n fr is ops l Q:=
 λr b a w c hs=>h r b a w c (g w hs)
def Kw {c:Code} (g: ∀w,St w0 S0 is w->St w0 S0 is' w) (h:TW P w0 S0 m n fr is' c Q):TW P w0 S0 m n fr is c Q:=
 λr b a w d hs=>h r b a w d (g w hs)
def Ke {e:Exit} (g: ∀w,St w0 S0 is w->St w0 S0 is' w) (h:TE w0 S0 m n fr is' e Q):TE w0 S0 m n fr is e Q:=
 λr b a w c hs=>h r b a w c (g w hs)
def St.alt_new (v:Va) (c:C): ∀w,St w0 S0 is w->St w0 S0 (.alt v c v c::is) w:=
 λw h=>h.add (Chg.refl w []) _ [] (.inr ⟨rfl,rfl,rfl⟩) (by simp) (by simp)
def St.alt_own (E:Va) (B:C) (a:is[i]? =some (.own v c)) (d:is.set i (.alt v c E B)=is'): ∀w,St w0 S0 is w->St w0 S0 is' w:=by subst d;intro w h;exact h.upd a λA D e=>⟨A,Chg.refl w _,.inl D,e,λb f=>.inl f⟩
theorem St.cut [Enc α] {z:List α} (a:piece l (0:Int) hi=some z) (d:Enc.sz α=sz) (f:is[i]? =some (.own v (lc l))) (g:is.set i (.own (subV v sz (0:Int).toNat (hi.toNat - (0:Int).toNat)) (lc z))=is'):
 ∀w,St w0 S0 is w->St w0 S0 is' w:=by
 subst d g;obtain ⟨B,C,h,rfl⟩:=zbu a;intro w hs;refine hs.upd f λA O D=>?_;have j:(0:Int).toNat=0:=rfl;rw[j,Ed,Fh];have M:Ow w v (.sl (Enc.sz α) l.length (l.flatMap Enc.enc)) A:=O;generalize k:l.flatMap (Enc.enc (α:=α))=cs at M;generalize m:l.length=ln at M;cases M with
 | nil sz=>
   have hl:l= []:=Bh m;subst hl;refine ⟨[],Chg.refl w _,?_,Et,by simp⟩;have e:hi.toNat=0:=by have:hi<=((0:Nat):Int):=h;omega
   rw[e];trivial
 | row b n cap e sz cur vs cs S o E p a F c=>
   have q:hi.toNat<=ln:=by omega
   have s:cs=(l.take hi.toNat).flatMap (Enc.enc (α:=α))++(l.drop hi.toNat).flatMap (Enc.enc (α:=α)):=by rw[<-Cx,Bl,k]
   rw[s]at c;obtain ⟨S1,T,rfl,t,_⟩:=c.split;have G:((l.take hi.toNat).flatMap (Enc.enc (α:=α))).length=hi.toNat*Enc.sz α:=by rw[zbh,Bf];simp_all
   have H:hi.toNat*Enc.sz α<=ln*Enc.sz α:=An _ q;refine ⟨b::S1,Chg.refl w _,?_,?_,λx I=>.inl ?_⟩
   ·show Ow w (subV _ _ _ _) (.sl (Enc.sz α) (l.take hi.toNat).length ((l.take hi.toNat).flatMap Enc.enc)) (b::S1);have u:(l.take hi.toNat).length=hi.toNat:=by rw[Bf];omega
    rw[u];have J:(⟨b,0,none⟩:Addr).add (0*Enc.sz α)=⟨b,0,none⟩:=by rw[Ev];unfold Addr.add;split<;>simp_all
    have y:subV (.slice (some ⟨b,0,none⟩) ln cap) (Enc.sz α) 0 hi.toNat= .slice (some ⟨b,0,none⟩) hi.toNat cap:=by unfold subV;simp_all
    rw[y];refine .row b hi.toNat cap e _ cur (vs.take ((l.take hi.toNat).flatMap (Enc.enc (α:=α))).length) _ S1 o (by omega) p a ?_ t;grind
   ·grind
   ·grind
def Y.subs_nil {L H:Option Od} {z:List α} (hs:piece ([]:List α) lo hi=some z) (b:elemB P t=some (e,sz,by_)) (d:ev fr x=some (.slice none 0 0)) (B:bOp fr L lo 0) (A:bOp fr H hi 0):
    Y P w0 S0 n fr is ⟨dst,.slice t x L H none,ty,pos,aft,gd⟩ (.slice none 0 0):=by
 have h:=Y.subs (P:=P) (w0:=w0) (S0:=S0) (n:=n) (fr:=fr) (is:=is) (dst:=dst) (ty:=ty) (pos:=pos) (aft:=aft) (gd:=gd) (cs:=[]) hs b (sz':=sz) (Can.plain (v:=.slice none 0 0) (c:=.sl sz 0 []) λ_=>.nil _) d B A;obtain ⟨i,j,a,_⟩:=zbu hs;have f:lo.toNat=0:=by simp at a;omega
 have k:hi.toNat - lo.toNat=0:=by simp at a;omega
 rw[f]at h;have g:hi.toNat - 0=0:=by omega
 rw[g]at h;exact h
def Ow.sub_del {A:J4} (h:Ow w v (.sl sz n cs) A) (sz':Nat):subV v sz' 0 N=delV v N:=by
 cases h with
 | nil=>rfl
 | row b n cap e sz cur vs cs S c d f g i j=>
   have a:(⟨b,0,none⟩:Addr).add (0*sz')=⟨b,0,none⟩:=by rw[Ev];unfold Addr.add;split<;>simp_all
   simp only[subV,delV,Dm,a,Ed,ite_self]
def zxe (v:Va) (sz lo k N:Nat):subV (delV v N) sz lo k=subV v sz lo k:=by unfold delV;cases v<;>rfl
def Ef.clearView [Enc α] {c:Va} {z:List α} {y:Od} (f:piece l (0:Int) lo=some z) (m:elemB P t=some (e,sz,by_)) (o:zeroB P e=some c) (p:Enc.sz α=sz) (s:Bw c.cells.size sz=true) (u:c.cells.toList.all (λq=>q.oneCell')=true) (b:is[i]? =some (.own v (lc l))) (g:ev fr y=some (subV v sz lo.toNat ((l.length:Int).toNat - lo.toNat))) (h:is.set i (.own (subV v sz (0:Int).toNat (lo.toNat - (0:Int).toNat)) (lc z))=is'):
    Ef P w0 S0 n fr is ⟨none,.call {callee:=.builtin .clear,args:=#[y],argTypes:=#[t]},ty,pos,aft,gd⟩ (λ_:Unit=>.tuple #[]) (λ_=>is'):=by
 intro a w K Q x d T;have A:=St.cut f p b h w d;have B:=Can.cap (Oc i b) w d;obtain ⟨G,H,I,C⟩:=zbu f;obtain ⟨O,M,_⟩:=zcj b d.own.choose_spec.1;have j:(0:Int).toNat=0:=rfl;have D:subV v sz (0:Int).toNat (lo.toNat - (0:Int).toNat)=delV v lo.toNat:=by rw[j,Ed];exact Ow.sub_del (show Ow w v (.sl (Enc.sz α) l.length (l.flatMap Enc.enc)) O from M) sz
 have J:z.length=lo.toNat:=by rw[C,j,Fh,Ed,Bf];omega
 have E:is'[i]? =some (.own (delV v lo.toNat) (.sl sz lo.toNat (z.flatMap Enc.enc))):=by subst h;rw[List.getElem?_set_self (Bt.1 b).1,D];unfold lc;simp_all
 have F:((l.length:Int)).toNat=l.length:=Eg _;rw[F]at g;exact Ef.clearTail (is:=is') (v:=v) (N:=lo.toNat) (hi:=l.length) (k:=i) B (by omega) m o s u E (by rw[zxe];exact g) a w K Q x A T
def Y.sub_again {y:Od} {m:Nat} {k:Ik} (h:is[i]? =some (.own (subV v sz (0:Int).toNat (hi.toNat - (0:Int).toNat)) (.sl sz m cs))) (g:0<=hi) (j:elemB P t=some (e,sz,by_)) (l:ev fr x=some v) (o:ev fr y=some (.int k hi)):
    Y P w0 S0 n fr is ⟨dst,.slice t x none (some y) none,ty,pos,aft,gd⟩ (subV v sz (0:Int).toNat (hi.toNat - (0:Int).toNat)):=by
 obtain ⟨p,ti,q,s,_⟩:=zA j;intro a w c d;have u:=Can.cap (Oc i h) w d;obtain ⟨M,J,_⟩:=zcj h d.own.choose_spec.1;have I:Ow w (subV v sz (0:Int).toNat (hi.toNat - (0:Int).toNat)) (.sl sz m cs) M:=J;have z:(0:Int).toNat=0:=rfl;rw[z,Ed]at I u |-
 cases v with
 | slice A O cap=>
   have B:hi.toNat<=cap:=by
    unfold subV at I;simp only[Ed]at I;generalize (if cap=0 then A else Option.map (λx=>x.add (0*sz)) A)=A' at I;generalize C:hi.toNat=E at I;cases I with
    | nil=>omega
    | row b n cap e sz cur vs cs S C D B F G H=>exact D
   simp[execOp,c.eval l,Instr.sliceAt,Instr.slice,Instr.sliceBounds,Instr.sliceBound,asIntOf,c.eval o,run_underlying p,sizeOf,typeInfo,q,s,subV,g,show hi<=(cap:Int) by omega]
 | _=>exact absurd I (by intro f;unfold subV at f;cases f)
def Y.subs30 {z:List α} {c:Od} {f:Ik} (hs:piece l (0:Int) hi=some z) (k:elemB P t=some (e,sz,by_)) (m:Can w0 S0 is v (.sl sz' l.length cs)) (g:ev fr x=some v) (h:ev fr y2=some (.int k2 hi)) (i:ev fr c=some (.int f l.length)):
    Y P w0 S0 n fr is ⟨dst,.slice t x none (some y2) (some c),ty,pos,aft,gd⟩ (sub3V v sz (0:Int).toNat (hi.toNat - (0:Int).toNat) l.length):=by
 obtain ⟨o,ti,p,q,_⟩:=zA k;obtain ⟨E,s,u,rfl⟩:=zbu hs;intro a w b y;have F:(0:Int).toNat=0:=rfl;have key: ∀(A:Option Addr) (cap:Nat),l.length<=cap->(Instr.sliceAt t (.slice A l.length cap) none (some (.int k2 hi)) (some (.int f l.length))).run P w= .ok (sub3V (.slice A l.length cap) sz (0:Int).toNat (hi.toNat - (0:Int).toNat) l.length) w:=by intro A cap d;simp[Instr.sliceAt,Instr.slice,Instr.sliceBounds,Instr.sliceBound,asIntOf,run_underlying o,sizeOf,typeInfo,p,q,sub3V,d,u,show (hi.toNat:Int)=hi by omega,s,show max hi 0=hi by omega]
 rcases m.row y with ⟨B,_,rfl⟩ | ⟨C,cap,vs,S,rfl,d,_⟩
 ·have D:l= []:=Bh B;subst D;have:=key none 0 (by simp);have j:=b.eval i;have G:(execOp a.eval ⟨dst,.slice t x none (some y2) (some c),ty,pos,aft,gd⟩).run P w= .ok (.value (sub3V (.slice none 0 0) sz (0:Int).toNat (hi.toNat - (0:Int).toNat) 0)) w:=by simp only[Hu]at this j;simp only[execOp,b.eval g,b.eval h,j,Dm,Ht,Sem.run_bind,this,Result.andThen_ok,Sem.run_pure]
  trivial
 ·have:=key (some C) cap d;simp[execOp,b.eval g,b.eval h,b.eval i,this]
def St.clip [Enc α] {z:List α} (a:piece l (0:Int) hi=some z) (c:hi=(l.length:Int)) (f:is[i]? =some (.own v (lc l))) (g:is.set i (.own (sub3V v sz (0:Int).toNat (hi.toNat - (0:Int).toNat) l.length) (lc z))=is'):
    ∀w,St w0 S0 is w->St w0 S0 is' w:=by
 subst g c;obtain ⟨_,_,_,rfl⟩:=zbu a;intro w hs;refine hs.upd f λA D h=>⟨A,Chg.refl w A,?_,h,λb j=>.inl j⟩;have k:(0:Int).toNat=0:=rfl;rw[k,Eg,Ed,Fh,List.take_length];have B:Ow w v (.sl (Enc.sz α) l.length (l.flatMap Enc.enc)) A:=D;show Ow w (sub3V v sz 0 l.length l.length) (.sl (Enc.sz α) l.length (l.flatMap Enc.enc)) A;generalize t:l.flatMap (Enc.enc (α:=α))=cs at B |-
 generalize u:l.length=ln at B |-
 cases B with
 | nil sz'=>exact .nil _
 | row b n cap e sz' cur vs cs S c d m a o p=>
   have q:(⟨b,0,none⟩:Addr).add (0*sz)=⟨b,0,none⟩:=by rw[Ev];unfold Addr.add;split<;>simp_all
   have s:sub3V (.slice (some ⟨b,0,none⟩) ln cap) sz 0 ln ln= .slice (some ⟨b,0,none⟩) ln ln:=by simp only[sub3V,Dm,q,Ed,ite_self]
   rw[s];exact .row b ln ln e (Enc.sz α) cur vs cs S c (Bz _) (Cv d m) (Cv (An _ d) a) o p
structure Sv where
 v:Va
 h:v.oneCell'=true
instance:Enc Sv:=⟨1,λx=>[.raw x.v],λ_=>rfl,Fq⟩
instance:Flat Sv:={vals:=λx=>[x.v],flat:=λx=>by simp[valsC,valC,x.h,Enc.enc]}
def Base.oneCell {v:Va} {c:C} (h:Base w0 S0 v c):v.oneCell'=true:=by obtain ⟨F,A,_⟩:=h;exact A.oneCell
def Bases {α:Type} [Enc α] (w0:Wo) (S0:J4):List Sv->List (List α)->Prop
 | [],[]=>True
 | s::ss,l::ls=>Base w0 S0 s.v (lc l)/\Bases w0 S0 ss ls
 | _,_=>False
def Bases.one [Enc α] (h:Base w0 S0 v (lc l)):Bases w0 S0 [Sv.mk v h.oneCell] [l]:=⟨h,trivial⟩
def Bases.append {α:Type} [Enc α]: ∀{a b:List Sv} {x y:List (List α)},Bases w0 S0 a x->Bases w0 S0 b y->Bases w0 S0 (a++b) (x++y)
 | [],_,[],_,_,h=>h
 | _::_,_,_::_,_,c,d=>⟨c.1,Bases.append c.2 d⟩
 | [],_,_::_,_,h,_=>h.elim
 | _::_,_,[],_,h,_=>h.elim
def Bases.length {α:Type} [Enc α]: ∀{a:List Sv} {x:List (List α)},Bases w0 S0 a x->a.length=x.length
 | [],[],_=>rfl
 | _::_,_::_,h=>by simp[Bases.length h.2]
 | [],_::_,h=>h.elim
 | _::_,[],h=>h.elim
def Rds.bases {α:Type} [Enc α] [Enc (List α)] (e: ∀l:List α,(Enc.enc l:List C)= [lc l]): ∀{vs:J3} {T:List (List α)} {S:J4},Rds w0 vs (T.flatMap Enc.enc) S->(∀b∈S,b∉S0)->∃A:List Sv,Bases w0 S0 A T/\Rds w0 vs (A.flatMap Enc.enc) []
 | vs,[],S,h,_=>by cases h;exact ⟨[],trivial,.nil⟩
 | vs,t::T,S,h,f=>by
   rw[Ct,e]at h;cases h with
   | cons v c S1 vs cs B a g=>obtain ⟨A,i,j⟩:=Rds.bases e g λb d=>f b (Bm.2 (.inr d));refine ⟨Sv.mk v a.oneCell::A,⟨⟨S1,a,λb d=>f b (Bm.2 (.inl d))⟩,i⟩,?_⟩;exact .cons v (.raw v) [] vs _ [] (.raw v a.oneCell) j
def Base.rows [Enc α] [Enc (List α)] (d: ∀l:List α,(Enc.enc l:List C)= [lc l]) {T:List (List α)} (h:Base w0 S0 v (lc T)): ∃A:List Sv,Bases w0 S0 A T/\Base w0 S0 v (lc A):=by
 have e:Enc.sz (List α)=1:=by rw[<-Enc.len ([]:List α),d];rfl
 obtain ⟨F,B,f⟩:=h;have g:(T.flatMap (Enc.enc (α:=List α))).length=T.length:=by rw[zbh,e,Gg]
 unfold lc at B;generalize m:T.flatMap (Enc.enc (α:=List α))=cs at B g;generalize i:T.length=k at B g;rw[e]at B;cases B with
 | nil sz=>have:T= []:=Bh i;subst this;exact ⟨[],trivial,[],.nil _,by simp⟩
 | row a n cap sz vs cs S hl o p q=>
   subst m;obtain ⟨A,j,s⟩:=Rds.bases (S0:=S0) d q λb c=>f b (Bm.2 (.inr c));refine ⟨A,j,(if k*1=0 then [] else [a.block])++ [],?_,λb c=>f b (Bm.2 (.inl (by rwa [Dl]at c)))⟩;have t:A.length=k:=by rw[j.length,i]
   show Rd w0 _ (.sl 1 A.length _) _;rw[t];exact .row a k cap 1 vs _ [] hl o p s
def Bases.rds {α:Type} [Enc α] [Enc (List α)] (d: ∀l:List α,(Enc.enc l:List C)= [lc l]) {w:Wo} (e: ∀b,b<w0.heap.size->b∉S0->w.heap[b]? =w0.heap[b]?):
    ∀{B:List Sv} {T:List (List α)},Bases w0 S0 B T->∃F,Rds w (B.map Sv.v) (T.flatMap Enc.enc) F/\∀b∈F,b<w0.heap.size/\b∉S0
 | [],[],_=>⟨[],.nil,by simp⟩
 | s::ss,l::ls,h=>by
   obtain ⟨F,g,i⟩:=Bases.rds d e h.2
   obtain ⟨G,a,f⟩:=h.1
   rw[Ct,d]
   refine ⟨G++F,.cons s.v (lc l) G _ _ F (a.keep λb A=>e b (a.lt b A) (f b A)) g,?_⟩
   intro b A
   rcases Bm.1 A with c | c
   ·exact ⟨a.lt b c,f b c⟩
   ·simp_all
 | [],_::_,h=>h.elim
 | _::_,[],h=>h.elim
def svals: ∀h:List Sv,valsR (h.flatMap Enc.enc)=some (h.map Sv.v)
 | []=>rfl
 | s::ss=>by show valsR (.raw s.v::ss.flatMap Enc.enc)=_;unfold valsR;rw[svals ss];rfl
theorem Can.rows [Enc α] [Enc (List α)] (b: ∀l:List α,(Enc.enc l:List C)= [lc l]) {B:List Sv} {T:List (List α)} (k:Nat) (h:is[k]? =some (.own v (lc B))) (E:Bases w0 S0 B T):Can w0 S0 is v (lc T):=by
 have d:Enc.sz (List α)=1:=by rw[<-Enc.len ([]:List α),b];rfl
 intro w S hs e;obtain ⟨A,G,u⟩:=zcj h hs;obtain ⟨U,I,x⟩:=Ow.rd G;obtain ⟨F,f,y⟩:=Bases.rds b e E;have c:=E.length;have D:Rd w v (.sl 1 B.length (B.flatMap Enc.enc)) U:=I;show ∃F,Rd w v (.sl (Enc.sz (List α)) T.length (T.flatMap Enc.enc)) F/\_;rw[d,<-c];generalize g:B.flatMap (Enc.enc (α:=Sv))=cs at D;generalize i:B.length=m at D;cases D with
 | nil sz=>have j:B= []:=Bh i;subst j;have o:T= []:=Bh c.symm;subst o;exact ⟨[],.nil _,by simp⟩
 | row a n cap sz vs cs S hl p q s=>subst g;have t:vs=B.map Sv.v:=s.valsR (svals B);subst t;refine ⟨_,.row a m cap 1 _ _ F hl p q f,?_⟩;grind
def zsn {β:Type} {k z:List α} {l' k':List β} (h:app by_ l k=some z) (a:l'.length=l.length) (b:k'.length=k.length):app by_ l' k'=some (l'++k'):=by obtain ⟨_,c,d⟩:=zkG h;unfold app;simp_all
def Bases.app {α:Type} [Enc α] {by_:Nat} {a b:List Sv} {x y z:List (List α)} (h:app by_ x y=some z) (c:Bases w0 S0 a x) (d:Bases w0 S0 b y):Bases w0 S0 (a++b) z:=by rw[(zkG h).1];exact Bases.append c d
def Ka (h: ∀w,St w0 S0 is w->St w0 S0 is' w) (k:TA P w0 S0 m n fr is' H ops fuel L Q):TA P w0 S0 m n fr is H ops fuel L Q:=
 λr b a w c hs=>k r b a w c (h w hs)
end
inductive Ce where
 | int (k:Ik)
 | bool
 | str
 | sl (sz:Nat) (s:List Ce)
mutual
inductive Fit:Ce->C->Prop
 | int (k:Ik) (n:Int):(Lit.int k n).wf=true->Fit (.int k) (.int k n)
 | bool (b:Bool):Fit .bool (.bool b)
 | str (s:J2):s.length<=maxLen->Fit .str (.str s)
 | sl (sz n:Nat) (s:List Ce) (cs:List C):n<=maxLen->Rep s n cs->Fit (.sl sz s) (.sl sz n cs)
inductive Fits:List Ce->List C->Prop
 | nil:Fits [] []
 | cons (c:Ce) (d:C) (cs:List Ce) (ds:List C):Fit c d->Fits cs ds->Fits (c::cs) (d::ds)
inductive Rep:List Ce->Nat->List C->Prop
 | nil (s:List Ce):Rep s 0 []
 | cons (s:List Ce) (n:Nat) (c r:List C):Fits s c->Rep s n r->Rep s (n+1) (c++r)
end
def Fits.append {a b:List Ce} {x y:List C} (h:Fits a x) (k:Fits b y):Fits (a++b) (x++y):=by
 induction a generalizing x with
 | nil=>cases h;exact k
 | cons c a ih=>cases h with | cons c d cs ds e f=>exact .cons _ _ _ _ e (ih f)
def fieldsB (P:Pm) (r:Ti->Option (List Ce)) (h:Nat):Nat->List Field->Option (List Ce)
 | off,[]=>bif Bw off h then some [] else none
 | off,f::fs=>bif Bw f.offset off then (match r f.type,fieldsB P r h (off+P.cellsOf f.type) fs with
   | some s,some q=>some (s++q)
   | _,_=>none) else none
def shB (P:Pm):Nat->Ti->Option (List Ce)
 | 0,_=>none
 | n+1,t=>match P.underlying t with
   | some (.int k)=>some [.int k]
   | some .bool=>some [.bool]
   | some .string=>some [.str]
   | some (.slice e)=>(shB P n e).map λs=>[.sl (P.cellsOf e) s]
   | some (.struct fs)=>fieldsB P (shB P n) (P.cellsOf t) 0 fs.toList
   | _=>none
section
variable {H:Type} {enc:Ti × Va->H} {P:Pm} {base:Nat} {spare:Nat->Bool} {held:Bool}
theorem zo6 {r:Ti->Option (List Ce)} {cs:J3} {A:Nat} (hl:cs.length=A): ∀{B:List Field} {off:Nat} {s:List Ce},fieldsB P r A off B=some s->off<=A->
 (∀f∈B,∀s,r f.type=some s->∃D S,Rds w ((cs.drop f.offset).take (P.cellsOf f.type)) D S/\Fits s D)->∃D S,Rds w (cs.drop off) D S/\Fits s D
 | [],off,s,h,j,_=>by
   unfold fieldsB at h;cases a:Bw off A with
   | false=>rw[a]at h;cases h
   | true=>
     rw[a]at h;have:off=A:=by simpa using a
     cases h;subst this;rw[Eb (by omega)];exact ⟨[],[],.nil,.nil⟩
 | f::B,off,s,h,j,e=>by
   unfold fieldsB at h;cases a:Bw f.offset off with
   | false=>rw[a]at h;cases h
   | true=>
     rw[a]at h;have k:f.offset=off:=by simpa using a
     simp only[cT]at h;cases b:r f.type with
     | none=>rw[b]at h;cases h
     | some l=>
       cases d:fieldsB P r A (off+P.cellsOf f.type) B with
       | none=>rw[b,d]at h;cases h
       | some t=>
         rw[b,d]at h;cases h;obtain ⟨E,S1,i,m⟩:=e f (by simp) l b;have c:off+P.cellsOf f.type<=A\/A<off+P.cellsOf f.type:=by omega
         rcases c with c | c
         ·obtain ⟨F,G,n,p⟩:=zo6 hl d c λg q=>e g (by simp[q]);refine ⟨E++F,S1++G,?_,m.append p⟩;rw[k]at i;have:=i.append n;rw[<-Ge,Bl]at this;trivial
         ·exfalso;have key: ∀(B:List Field) (o:Nat) (s:List Ce),fieldsB P r A o B=some s->o<=A:=by
           intro B;induction B with
           | nil=>
             intro o s h;unfold fieldsB at h;cases a:Bw o A with
             | false=>rw[a]at h;cases h
             | true=>have:o=A:=by simpa using a
                     omega
           | cons f B ih=>intro o s h;unfold fieldsB at h;grind
          grind
theorem zq8 {a:Addr} {s:List Ce} {sz:Nat} : ∀(n k:Nat),(∀i,i<n->∃us A S,us.length=sz/\(∀j,j<sz->w.cell? (a.add ((k+i)*sz+j))=us[j]?)/\Rds w us A S/\Fits s A)->
 ∃vs A S,vs.length=n*sz/\(∀j,j<n*sz->w.cell? (a.add (k*sz+j))=vs[j]?)/\Rds w vs A S/\Rep s n A
 | 0,k,_=>⟨[],[],[],by simp,λj b=>by simp at b,.nil,.nil s⟩
 | n+1,k,h=>by
   obtain ⟨us,B,S1,c,m,d,e⟩:=h 0 (by omega);obtain ⟨vs,D,E,f,o,g,l⟩:=zq8 (a:=a) (s:=s) (sz:=sz) n (k+1) λi hi=>by grind
   refine ⟨us++vs,B++D,S1++E,by rw[Cq,c,f,Do];omega,?_,d.append g,.cons s n B D e l⟩;grind
theorem zm9: ∀(fuel n:Nat) (t:Ti) (cs:J3) (x:DataW H × List MemPlace) (s:List Ce),shB P n t=some s->DataW.trod enc P w base spare held fuel t cs=some x->∃O S,Rds w cs O S/\Fits s O
 | 0,_,_,_,_,_,_,h=>by simp[DataW.trod]at h
 | _,0,_,_,_,_,hs,_=>by simp[shB]at hs
 | fuel+1,n+1,t,cs,x,s,hs,h=>by
   unfold shB at hs;split at hs
   ·rename_i k c;cases hs;obtain ⟨m,rfl,_,g⟩:=DataW.trod_int c h;exact ⟨[.int k m],[]++ [],.cons _ _ _ _ _ _ (.int k m) .nil,.cons _ _ _ _ (.int k m g) .nil⟩
   ·rename_i c;cases hs;obtain ⟨b,rfl,_⟩:=DataW.trod_bool c h;exact ⟨[.bool b],[]++ [],.cons _ _ _ _ _ _ (.bool b) .nil,.cons _ _ _ _ (.bool b) .nil⟩
   ·rename_i c;cases hs;obtain ⟨b,rfl,_,g⟩:=DataW.trod_string c h;obtain ⟨⟨b⟩⟩:=b;exact ⟨[.str b],[]++ [],.cons _ _ _ _ _ _ (.str b) .nil,.cons _ _ _ _ (.str b g) .nil⟩
   ·rename_i e c;cases l:shB P n e with
    | none=>rw[l]at hs;cases hs
    | some T=>
      rw[l]at hs;cases hs;rcases DataW.trod_slice c h with ⟨rfl,_⟩ | ⟨a,len,cap,U,rest,m,q,rfl,_,_,u,K,L,o,_,_⟩
      ·exact ⟨[.sl (P.cellsOf e) 0 []],[]++ [],.cons _ _ _ _ _ _ (.nil _) .nil,.cons _ _ _ _ (.sl _ 0 T [] (by simp[maxLen]) (.nil T)) .nil⟩
      ·obtain rfl:fuel=m:=by omega
       obtain ⟨vs,O,S,v,M,y,z⟩:=zq8 (w:=w) (a:=a) (s:=T) (sz:=P.cellsOf e) len 0 λi hi=>by have d:=o i hi;rw[Db (by omega)]at d;obtain ⟨us,A,B⟩:=Option.bind_eq_some_iff.1 d;obtain ⟨_,C,D⟩:=World.cells?_some A;obtain ⟨O,S,E,p⟩:=zm9 fuel n e us _ T l B;refine ⟨us,O,S,C,λj F=>?_,E,p⟩;rw[<-D j F,add_add,Dy]
       refine ⟨[.sl (P.cellsOf e) len O],_++ [],.cons _ _ _ _ _ _ (.row a len cap (P.cellsOf e) vs O S v u ?_ y) .nil,.cons _ _ _ _ (.sl _ len T O (by omega) z) .nil⟩;simp_all
   ·rename_i V c;obtain ⟨xs,m,q,_,G,N,o⟩:=DataW.trod_struct c h;obtain rfl:fuel=m:=by omega
    have:=zo6 (w:=w) G hs (Ei _) (by
     intro f p T hs';obtain ⟨i,hi⟩:=List.getElem?_of_mem p;have I:V[i]? =some f:=by simpa using hi
     have d:=o i f I;have J:i<xs.length:=by grind
     rw[Db J]at d;exact zm9 fuel n f.type _ _ T hs' d)
    trivial
   ·trivial
end
def Fits.nil_inv (h:Fits [] cs):cs= []:=by cases h;rfl
def Fits.cons_inv {c:Ce} {s:List Ce} (h:Fits (c::s) cs): ∃d ds,cs=d::ds/\Fit c d/\Fits s ds:=by cases h with | cons c d s ds a b=>exact ⟨d,ds,rfl,a,b⟩
class Dec (α:Type) extends Enc α where
 sh:List Ce
 ok:α->Prop
 dec: ∀cs,Fits sh cs->∃x,cs=enc x/\ok x
def okl [Dec α] (l:List α):Prop:=l.length<=9223372036854775807/\∀x∈l,Dec.ok x
def Fit.int_inv {k:Ik} (h:Fit (.int k) c): ∃n,c= .int k n/\(Lit.int k n).wf=true:=by cases h;exact ⟨_,rfl,by assumption⟩
def Fit.bool_inv (h:Fit .bool c): ∃b,c= .bool b:=by cases h;exact ⟨_,rfl⟩
def Fit.str_inv (h:Fit .str c): ∃s,c= .str s/\s.length<=9223372036854775807:=by cases h;exact ⟨_,rfl,by assumption⟩
theorem Rep.dec {α:Type} [Dec α]: ∀{n:Nat} {cs:List C},Rep (Dec.sh α) n cs->∃l:List α,l.length=n/\cs=l.flatMap Enc.enc/\∀x∈l,Dec.ok x
 | 0,cs,h=>by cases h;exact ⟨[],rfl,rfl,by simp⟩
 | n+1,cs,h=>by
   cases h with
   | cons s n c r a b=>obtain ⟨x,rfl,d⟩:=Dec.dec _ a;obtain ⟨l,hl,rfl,e⟩:=Rep.dec b;exact ⟨x::l,by simp[hl],rfl,λy f=>by grind⟩
def Fit.sl_inv [Dec α] (h:Fit (.sl sz (Dec.sh α)) c) (a:Enc.sz α=sz): ∃l:List α,c=lc l/\okl l:=by
 subst a;cases h with
 | sl sz n s cs b d=>obtain ⟨l,rfl,rfl,e⟩:=d.dec;exact ⟨l,rfl,b,e⟩
def okI (n:Int):Prop:=-9223372036854775808<=n/\n<=9223372036854775807
def zmT {n:Int} (h:(Lit.int .i64 n).wf=true):okI n:=by simp only[Lit.wf,Cg,decide_eq_true_eq]at h;trivial
instance:Dec Int where
 sh:=[.int .i64]
 ok:=okI
 dec cs h:=by obtain ⟨d,ds,rfl,h1,h2⟩:=h.cons_inv;obtain rfl:=h2.nil_inv;obtain ⟨n,rfl,hw⟩:=h1.int_inv;exact ⟨n,rfl,zmT hw⟩
instance:Dec UInt8 where
 sh:=[.int .u8]
 ok:=λ_=>True
 dec cs h:=by obtain ⟨d,ds,rfl,h1,h2⟩:=h.cons_inv;obtain rfl:=h2.nil_inv;obtain ⟨n,rfl,hw⟩:=h1.int_inv;simp only[Lit.wf,Cg,decide_eq_true_eq]at hw;have e1:IntKind.u8.min=0:=rfl;have e2:IntKind.u8.max=255:=rfl;refine ⟨Hj n.toNat,?_,trivial⟩;show _= [C.int .u8 ((Hj n.toNat).toNat:Int)];simp;omega
instance:Dec Bool where
 sh:=[.bool]
 ok:=λ_=>True
 dec cs h:=by obtain ⟨d,ds,rfl,h1,h2⟩:=h.cons_inv;obtain rfl:=h2.nil_inv;obtain ⟨n,rfl⟩:=h1.bool_inv;exact ⟨n,rfl,trivial⟩
instance:Dec J2 where
 sh:=[.str]
 ok:=λs=>s.length<=9223372036854775807
 dec cs h:=by obtain ⟨d,ds,rfl,h1,h2⟩:=h.cons_inv;obtain rfl:=h2.nil_inv;obtain ⟨n,rfl,hw⟩:=h1.str_inv;exact ⟨n,rfl,hw⟩
section
variable {H:Type} {enc:Ti × Va->H} {P:Pm} {base:Nat} {spare:Nat->Bool} {held:Bool}
def zll {t:Ti} {d:DataW H} {p:List MemPlace} {s:List Ce} (n:Nat) (hs:shB P n t=some s) (h:DataW.Trod enc P w base spare held t v d p): ∃A S,Rds w v.cells.toList A S/\Fits s A:=by obtain ⟨fuel,a⟩:=h;exact zm9 fuel n t _ _ s hs a
def Rds.nil_inv (h:Rds w vs [] S):vs= []:=by cases h;rfl
def Rds.cons_inv (h:Rds w vs (c::cs) S): ∃v r,vs=v::r/\Base w [] v c/\∃T,Rds w r cs T:=by cases h with | cons v c S1 vs cs T a b=>exact ⟨v,vs,rfl,⟨S1,a,by simp⟩,T,b⟩
def Base.val {S0:J4} {v u:Va} {c:C} (h:Base w S0 v c) (a:valC c=some u):v=u:=by obtain ⟨F,A,_⟩:=h;exact A.val a
def ztt {e t:Ti} {r:Reach} (d:P.underlying t=some (.slice e)) (h:Value.okWide P w r b t v):v.cells.toList= [v]:=by obtain ⟨a,l,c,rfl⟩:=Go.WideShapes.okWide_slice d h;rfl
def zvB {k:Ik} {t:Ti} {r:Reach} (a:P.underlying t=some (.int k)) (h:Value.okWide P w r b t v):v.cells.toList= [v]:=by obtain ⟨n,rfl⟩:=Go.WideShapes.okWide_int a h;rfl
def zq7 {t:Ti} {r:Reach} (a:P.underlying t=some .string) (h:Value.okWide P w r b t v):v.cells.toList= [v]:=by obtain ⟨n,rfl⟩:=Go.WideShapes.okWide_string a h;rfl
def Con.below {f:Oe} {args:J3} {rds:List (Va × C)} {b:Bool} {W:Wo} (h:Con P f args [] rds (λ_:Unit=>.bool b) (λ_=>[])) (a: ∀p∈rds,Base W [] p.1 p.2):
    Calls P f args.toArray W λe w'=>e= .returned (.bool b)/\Below W.heap.size W w':=by refine (h W [] (St.nil W) a).mono ?_;rintro e w' ⟨_,rfl,hs⟩;exact ⟨rfl,hs.os,hs.tape,hs.output,hs.size,λk c=>hs.base k c (by simp)⟩
end
def za {n:Int} (a: -9223372036854775808<=n:=by omega) (b:n<=9223372036854775807:=by omega):J7 n=n:=by show IntKind.i64.wrap n=n;rw[IntKind.wrap_i64];omega
def zb (l:List α) (k:Nat) (h:k<l.length):idx l (k:Int)=some l[k]:=by unfold idx;simp[h]
theorem zoF (a:by_*n<=281474976710656) (b:n<=9223372036854775807):mkLen by_ (n:Int)=some n:=by unfold mkLen;grind
def zf {k:List α} (a:(l.length+k.length)*by_<=140737488355328) (b:l.length+k.length<=9223372036854775807):app by_ l k=some (l++k):=by unfold app;rw[iP ⟨a,b⟩]
def zcg {s u:J2} (h:s.length+u.length<=9223372036854775807):cat s u=some (s++u):=by unfold cat;rw[iP h]
@[simp] theorem zyx (r:R) (k:τ->Option R):bindC (some (.done r)) k=some r:=rfl
@[simp] theorem ze (t:τ) (k:τ->Option R):bindC (some (.go t)) k=k t:=rfl
theorem zh {a:τ} (f:Nat->τ) (n:Nat) {r:ρ} (b:a=f 0) (h: ∀k,k<n->body (f k)=some (.go (f (k+1)))) (c:body (f n)=some (.done r)):loopO body a=some r:=by
 subst b;have key: ∀j,j<=n->loopO body (f (n - j))=some r:=by
  intro j;induction j with
  | zero=>intro _;rw[zG,Ed,c]
  | succ j ih=>intro d;rw[zG,h (n - (j+1)) (by omega)];grind
 have:=key n (Bz _);simp_all
def runL {α σ ρ:Type} (step:Nat->α->σ->Option (Ctl σ ρ)) (h:σ->Option ρ):Nat->List α->σ->Option ρ
 | _,[],s=>h s
 | k,x::l,s=>match step k x s with
   | some (.go s')=>runL step h (k+1) l s'
   | some (.done r)=>some r
   | none=>none
def Ctl.mapGo (f:σ->τ):Ctl σ ρ->Ctl τ ρ
 | .go s=>.go (f s)
 | .done r=>.done r
def zu0 {b:τ} (a:List α) (mk:Nat->σ->τ) (step:Nat->α->σ->Option (Ctl σ ρ)) (A:σ->Option ρ) (s0:σ) (d:b=mk 0 s0) (e: ∀k (h:k<a.length) s,body (mk k s)=(step k a[k] s).map (Ctl.mapGo (mk (k+1)))) (f: ∀s,body (mk a.length s)=(A s).map .done):
    loopO body b=runL step A 0 a s0:=by
 subst d;have key: ∀(r l:List α) (s:σ),a=l++r->loopO body (mk l.length s)=runL step A l.length r s:=by
  intro r;induction r with
  | nil=>intro l s h;rw[Dl]at h;subst h;rw[zG,f,runL];cases A s<;>rfl
  | cons x r ih=>
    intro l s h;have hl:l.length<a.length:=by rw[h];simp
    have g:a[l.length]=x:=by simp[h]
    rw[zG,e l.length hl s,g,runL];cases hs:step l.length x s with
    | none=>rfl
    | some c=>
      cases c with
      | done r=>rfl
      | go B=>simp only[Dm,Ctl.mapGo];have:=ih (l++ [x]) B (by rw[h];simp);simp_all
 exact key a [] s0 rfl
def zs4 {α ρ:Type} {step:Nat->α->Unit->Option (Ctl Unit ρ)} {A:Unit->Option ρ} (p:α->Bool) (a:ρ): ∀(l:List α) (k:Nat),(∀k x,x∈l->step k x ()=if p x then some (.go ()) else some (.done a))->
    runL step A k l ()=if l.all p then A () else some a
 | [],_,_=>rfl
 | x::l,k,h=>by
   rw[runL,h k x (by simp)]
   cases b:p x with
   | false=>simp[b]
   | true=>
     simp only[iT]
     rw[zs4 p a l (k+1) λk y c=>h k y (by simp[c])]
     simp_all
theorem set_take (a:List α) (k m:Nat) (z:α) (h:k<a.length) (b:m=a.length):(a.take k++Bo (m - k) z).set k a[k]=a.take (k+1)++Bo (m - (k+1)) z:=by subst b;apply Ee;grind
section
def to_loop (a:List α) (z:α) (f:α->Option α) (c: ∀x∈a,f x=some x) (hl:a.length<=4611686018427387904):
    loopO (ρ:=Ctl (List α) (List α)) (λ(h:Int × List α)=>if (Dc (h.1<(a.length:Int)))=true then ((idx a h.1).bind λB=>(f B).bind λA=>(idx h.2 h.1).bind λ_=>
     some (.go (J7 (h.1+(1:Int)),(h.2.set h.1.toNat A)))) else (some (.done (.go h.2)))) ((0:Int),(Bo a.length z))=some (.go a):=by
 rw[zh (λk=>((k:Int),a.take k++Bo (a.length - k) z)) a.length (r:=.go a) ?h0]
 case h0=>simp
 ·intro k b;have d:(a.take k++Bo (a.length - k) z).length=a.length:=by simp;omega
  simp only[zb a k b,zb (a.take k++Bo (a.length - k) z) k (by omega),Df,c a[k] (Ds _)];rw[za];simp only[Eg,set_take a k a.length z b rfl];simp_all
 ·simp
def zvq [DecidableEq α] {a b:List α} (hl:a.length=b.length):(a.zip b).all (λx=>decide (x.1=x.2))=Dc (a=b):=by
 induction a generalizing b with
 | nil=>cases b with | nil=>rfl | cons y b=>simp at hl
 | cons x a ih=>
   cases b with
   | nil=>simp at hl
   | cons y b=>simp_all
theorem eq_loop [DecidableEq α] (a b:List α) (f:α->α->Option Bool) (hf: ∀x y,x∈a->y∈b->f x y=some (Dc (x=y))) (hl:a.length=b.length) (g:a.length<=4611686018427387904):
 loopO (ρ:=Ctl Unit Bool) (λ(h:Int)=>if (Dc (h<(a.length:Int)))=true then ((idx a h).bind λB=>(idx b h).bind λD=>(f B D).bind λA=>
  if (!A)=true then (some (.done (.done false))) else (some (.go (J7 (h+(1:Int)))))) else (some (.done (.go ())))) (0:Int)=some (if a=b then .go () else .done false):=by
 rw[zu0 (a.zip b) (λk (_:Unit)=>(k:Int)) (λ_ x _=>if x.1=x.2 then some (Ctl.go ()) else some (Ctl.done (Ctl.done false))) (λ_=>some (Ctl.go ())) () ?h0 ?hs ?hf]
 case h0=>rfl
 case hs=>
  intro k e _
  have c:k<a.length:=by simp at e;omega
  simp only[zb a k c,zb b k (by omega),Df,List.getElem_zip,hf a[k] b[k] (Ds _) (Ds _)]
  rw[za]
  by_cases d:a[k]=b[k]
  ·simp[d,Ctl.mapGo,c]
  ·simp[d,Ctl.mapGo,c]
 case hf=>intro _;simp[hl]
 rw[zs4 (λx=>decide (x.1=x.2)) (Ctl.done false) _ _ (by intro k x _;simp),zvq hl];grind
theorem zeS [DecidableEq α] (a b:List α) (f:α->α->Option Bool) (c: ∀x y,x∈a->y∈b->f x y=some (Dc (x=y))) (d:a.length<=4611686018427387904):
 (if (!(Dc ((a.length:Int)=(b.length:Int))))=true then (some false) else (bindC (loopO (λ(h:Int)=>if (Dc (h<(a.length:Int)))=true then ((idx a h).bind λB=>(idx b h).bind λD=>(f B D).bind λA=>
   if (!A)=true then (some (.done (.done false))) else (some (.go (J7 (h+(1:Int)))))) else (some (.done (.go ())))) (0:Int)) (λ(_:Unit)=>some true)))=some (Dc (a=b)):=by
 by_cases hl:a.length=b.length
 ·rw[iN (by simp[hl]),eq_loop a b f c hl d];by_cases g:a=b<;>simp[g]
 ·have:a≠b:=λe=>hl (by rw[e]);grind
theorem ztk (l:List α) (f:α->Option Int) (g:α->Int) (c: ∀x∈l,f x=some (g x)) (d: ∀x∈l,0<=g x/\g x<=1099511627776) (hl:l.length<=1048576) (s0:Int) (h0:0<=s0) (h:s0<=1099511627776):
 loopO (ρ:=Ctl Int ρ) (λ(A:Int × Int)=>if (Dc (A.2<(l.length:Int)))=true then ((idx l A.2).bind λB=>(f B).bind λD=>some (.go (J7 (A.1+D),J7 (A.2+(1:Int))))) else (some (.done (.go A.1))))
  (s0,(0:Int))=some (.go (s0+(l.map g).sum)):=by
 have b: ∀k,k<=l.length->0<=((l.take k).map g).sum/\((l.take k).map g).sum<=1099511627776*k:=by
  intro k;induction k with
  | zero=>intro _;simp
  | succ k ih=>
    intro a;have:=ih (by omega);have e:k<l.length:=by omega
    rw[Fk,Db e];grind
 rw[zh (λk=>(s0+((l.take k).map g).sum,(k:Int))) l.length (r:=.go (s0+(l.map g).sum)) ?h0]
 case h0=>simp
 ·intro k a;have i:=b k (by omega);have j:=b (k+1) (by omega);have m:=d l[k] (Ds _);simp only[zb l k a,Df,c l[k] (Ds _)];rw[Fk,Db a];simp only[Option.toList_some,Hx,Dg,Ie,List.sum_append,Fw,List.sum_nil];rw[za,za];grind
 ·simp
end
def zbi (I:Nat->τ->Prop) (n:Nat) (Q:ρ->Prop) (c:I 0 s0) (h: ∀k s,k<n->I k s->(∃A,body s=some (.go A)/\I (k+1) A)\/(∃r,body s=some (.done r)/\Q r)) (d: ∀s,I n s->∃r,body s=some (.done r)/\Q r): ∃r,loopO body s0=some r/\Q r:=by
 have key: ∀j k s,k+j=n->I k s->∃r,loopO body s=some r/\Q r:=by
  intro j;induction j with
  | zero=>
    intro k s e B;obtain rfl:k=n:=by omega
    obtain ⟨r,a,b⟩:=d s B;exact ⟨r,by rw[zG,a],b⟩
  | succ j ih=>
    intro k s e B;rcases h k s (by omega) B with ⟨A,hs,D⟩ | ⟨r,a,b⟩
    ·obtain ⟨r,a,b⟩:=ih (k+1) A (by omega) D;exact ⟨r,by rw[zG,hs];exact a,b⟩
    ·exact ⟨r,by rw[zG,a],b⟩
 exact key n 0 s0 (by omega) c
def zci (I:Nat->τ->Prop) (n:Nat) (r:ρ) (a:I 0 s0) (h: ∀k s,k<n->I k s->(∃B,body s=some (.go B)/\I (k+1) B)\/body s=some (.done r)) (b: ∀s,I n s->body s=some (.done r)):loopO body s0=some r:=by obtain ⟨D,d,rfl⟩:=zbi (ρ:=ρ) I n (λx=>x=r) a (λk s c A=>(h k s c A).imp id λh=>⟨r,h,rfl⟩) λs A=>⟨r,b s A,rfl⟩;trivial
def zuZ (I:Nat->τ->Prop) (n:Nat) (a:I 0 s0) (h: ∀k s,k<n->I k s->(∃B,body s=some (.go B)/\I (k+1) B)\/(∃r,body s=some (.done r))) (b: ∀s,I n s->∃r,body s=some (.done r)): ∃r,loopO body s0=some r:=by obtain ⟨r,d,_⟩:=zbi (ρ:=ρ) I n (λ_=>True) a (λk s c A=>(h k s c A).imp id λ⟨r,h⟩=>⟨r,h,trivial⟩) λs A=>(b s A).imp λ_ h=>⟨h,trivial⟩;simp_all
def zuE {m:Option (Ctl τ R)} {k:τ->Option R} (h: ∃c,m=some c) (a: ∀t,∃r,k t=some r): ∃r,bindC m k=some r:=by
 obtain ⟨c,rfl⟩:=h;cases c with
 | go t=>exact a t
 | done r=>exact ⟨r,rfl⟩
def szV (left:Int) (w:Nat):Int:=if left<w then -1 else left - w
def zvm {left:Int} {w:Nat} (h: ¬szV left w<0):(w:Int)<=left:=by unfold szV at h;omega
theorem zxh (a:List α) (f:α->Int->Option Int) (w:α->Nat) (c: ∀x∈a,∀left,0<=left->left<=1048576->f x left=some (szV left (w x))) (hl:a.length<=1048576) (left:Int) (d:0<=left) (e:left<=1048576):
 loopO (ρ:=Ctl Int (Int)) (λ(A:Int × Int)=>if (Dc (A.2<(a.length:Int)))=true then ((idx a A.2).bind λD=>(f D A.1).bind λB=>
  if (Dc (B<(0:Int)))=true then (some (.done (.done (-1:Int)))) else (some (.go (B,J7 (A.2+(1:Int)))))) else (some (.done (.go A.1)))) (left,(0:Int))=
  some (if left<((a.map w).sum:Nat) then .done (-1) else .go (left - ((a.map w).sum:Nat))):=by
 refine zci (λk s=>s.2=(k:Int)/\0<=s.1/\s.1<=1048576/\s.1 - (((a.drop k).map w).sum:Nat)=left - ((a.map w).sum:Nat)) a.length _ ⟨rfl,d,e,by simp⟩ ?_ ?_
 ·rintro k ⟨s,i⟩ b ⟨rfl,g,h,j⟩;have l:(((a.drop k).map w).sum:Nat)=w a[k]+((a.drop (k+1)).map w).sum:=by rw[Dq b,Dg,Fw]
  simp only[zb a k b,Df,c a[k] (Ds _) s g h];rw[za];by_cases hs:s<(w a[k]:Int)
  ·right;have:szV s (w a[k])= -1:=by unfold szV;rw[iP hs]
   grind
  ·left;have:szV s (w a[k])=s - w a[k]:=by unfold szV;rw[iN hs]
   simp only[this];refine ⟨(s - w a[k],((k+1:Nat):Int)),?_,rfl,by omega,by omega,by simp only;omega⟩;simp_all
 ·grind
def zwq (a:List α) (f:α->Int->Option Int) (w:α->Nat) (b: ∀x∈a,∀left,0<=left->left<=1048576->f x left=some (szV left (w x))) (hl:a.length<=9223372036854775807) (left:Int) (d:0<=left) (e:left<=1048576):
    (if (Dc (J7 (left - (a.length:Int))<(0:Int)))=true then (some (-1:Int)) else (bindC (loopO (λ(A:Int × Int)=>if (Dc (A.2<(a.length:Int)))=true then ((idx a A.2).bind λD=>
      (f D A.1).bind λB=>if (Dc (B<(0:Int)))=true then (some (.done (.done (-1:Int)))) else (some (.go (B,J7 (A.2+(1:Int)))))) else (some (.done (.go A.1))))
      (J7 (left - (a.length:Int)),(0:Int))) (λ(E:Int)=>some E)))=some (szV left (a.length+(a.map w).sum)):=by
 rw[za];by_cases h:left<(a.length:Int)
 ·rw[iP (by simp;omega)];congr 1;unfold szV;omega
 ·rw[iN (by simp;omega),zxh a f w b (by omega) _ (by omega) (by omega)];unfold szV;by_cases c:left - (a.length:Int)<((a.map w).sum:Nat)
  ·simp_all;omega
  ·rw[iN c,iN (by omega)];simp;omega
def wS (w:α->Nat) (l:List α):Nat:=l.length+(l.map w).sum
def zgK {α:Type} (w:α->Nat): ∀{l:List α} {x:α},x∈l->w x<=(l.map w).sum
 | y::l,x,h=>by
   rw[Dg,Fw];rcases Dd.1 h with rfl | h
   ·omega
   ·have:=zgK w h;omega
theorem zds {α:Type} (w:α->Nat) (m:Nat): ∀{l:List α},(∀x∈l,w x<=m)->(l.map w).sum<=m*l.length
 | [],_=>by simp
 | x::l,h=>by rw[Dg,Fw,Ez,Nat.mul_succ];have:=zds w m (l:=l) λy a=>h y (by simp[a]);grind
def zp4 {w:α->Nat} (h:wS w l<=n):l.length<=n:=by unfold wS at h;omega
def zwy {w:α->Nat} {x:α} (h:wS w l<=n) (a:x∈l):w x<=n:=by have:=zgK w a;unfold wS at h;omega
theorem zm6 {left:Int} {w:Nat} {K:Option Int} (b:0<=left) (c:left<=1048576) (d:n<=9223372036854775807) (A:(n:Int)<=left->J7 (left - ((n:Nat):Int))=left - n->K=some (szV (left - n) w)):
 (if (Dc (J7 (left - ((n:Nat):Int))<(0:Int)))=true then (some (-1:Int)) else K)=some (szV left (n+w)):=by
 have a:J7 (left - ((n:Nat):Int))=left - n:=za;by_cases h:left<(n:Int)
 ·rw[iP (by rw[a];simp;omega)];unfold szV;grind
 ·rw[iN (by rw[a];simp;omega),A (by omega) a];unfold szV;grind
theorem zx3 {left:Int} {w a:Nat} {K:Int->Option Int} (c:0<=left) (A:(w:Int)<=left->K (left - w)=some (szV (left - w) a)):
 ((some (szV left w)).bind λR=>if (Dc (R<(0:Int)))=true then (some (-1:Int)) else K R)=some (szV left (w+a)):=by
 simp only[Df];by_cases h:left<(w:Int)
 ·have:szV left w= -1:=by unfold szV;rw[iP h]
  rw[this,iP (by decide)];unfold szV;grind
 ·have b:szV left w=left - w:=by unfold szV;rw[iN h]
  rw[b,iN (by simp;omega),A (by omega)];unfold szV;grind
theorem zwr {left:Int} (h:0<=left):some left=some (szV left 0):=by unfold szV;grind
theorem eq_step {q:Prop} [Decidable p] [Decidable q] {K:Option Bool} (h:p->K=some (decide q)):(if (!(decide p))=true then (some false) else K)=some (Dc (p/\q)):=by grind
def eq_call {q:Prop} [Decidable p] [Decidable q] {K:Option Bool} (h:p->K=some (decide q)):((some (decide p)).bind λR=>if (!R)=true then (some false) else K)=some (Dc (p/\q)):=eq_step h
def eq_end:some true=some (decide True):=rfl
def mkL {α:Type} (mk:Int->α->α) (c:α->Nat):Int->List α->List α
 | _,[]=>[]
 | k,x::l=>mk k x::mkL mk c (k+c x) l
section
variable {mk:Int->α->α} {c:α->Nat}
def zbo: ∀(l:List α) (k:Int),(mkL mk c k l).length=l.length
 | [],_=>rfl
 | _::l,k=>by simp[mkL,zbo l]
theorem zlD: ∀(l r:List α) (k:Int),mkL mk c k (l++r)=mkL mk c k l++mkL mk c (k+((l.map c).sum:Nat)) r
 | [],_,k=>by simp[mkL]
 | x::l,r,k=>by simp only[List.cons_append,mkL,Dg,Fw];rw[zlD l r];grind
def zxQ (l:List α) (k:Int) (i:Nat) (h:i<l.length):(mkL mk c k l)[i]? =some (mk (k+(((l.take i).map c).sum:Nat)) l[i]):=by
 have hs:l=l.take i++l[i]::l.drop (i+1):=by rw[<-Dq h,Bl]
 have hl:(mkL mk c k (l.take i)).length=i:=by rw[zbo,Bf];omega
 have:mkL mk c k l=mkL mk c k (l.take i)++mkL mk c (k+(((l.take i).map c).sum:Nat)) (l[i]::l.drop (i+1)):=by
  conv=>lhs;rw[hs]
  rw[zlD]
 rw[this,List.getElem?_append_right (by omega),hl,If];rfl
theorem zn8 (l:List α) (i:Nat) (h:i<l.length):((l.take i).map c).sum+c l[i]<=(l.map c).sum:=by
 have hs:l=l.take i++l[i]::l.drop (i+1):=by rw[<-Dq h,Bl]
 grind
theorem zl9 (l:List α) (i:Nat) (h:i<l.length):((l.take (i+1)).map c).sum=((l.take i).map c).sum+c l[i]:=by rw[Fk,Db h];grind
def zb2 {body:Int × Int × List α->Option (Ctl (Int × Int × List α) (Ctl (Int × List α) ρ))} (mk:Int->α->α) (c:α->Nat) (a:List α) (k:Int) (m:1<=k) (n:k+((a.map c).sum:Nat)<=4611686018427387904) (hl:a.length<=4611686018427387904) (e: ∀(q:Int) (i:Nat) (l:List α) (x:α),idx l (i:Int)=some x->x∈a->1<=q->q+c x<=4611686018427387904->l.length=a.length->i<a.length->body (q,(i:Int),l)=some (.go (q+c x,(i:Int)+1,l.set i (mk q x)))) (f: ∀(q:Int) (l:List α),l.length=a.length->body (q,(l.length:Int),l)=some (.done (.go (q,l)))):
    loopO body (k,(0:Int),a)=some (.go (k+((a.map c).sum:Nat),mkL mk c k a)):=by
 rw[zh (λj=>(k+(((a.take j).map c).sum:Nat),(j:Int),mkL mk c k (a.take j)++a.drop j)) a.length (r:=.go (k+((a.map c).sum:Nat),mkL mk c k a)) ?h0]
 case h0=>simp[mkL]
 ·intro j b;have o:=zn8 (c:=c) a j b;have d:(mkL mk c k (a.take j)).length=j:=by rw[zbo,Bf];omega
  have g:idx (mkL mk c k (a.take j)++a.drop j) (j:Int)=some a[j]:=by rw[zb _ j (by rw[Cq,d,Cy];omega)];simp_all
  rw[e _ j _ a[j] g (Ds _) (by omega) (by omega) (by rw[Cq,d,Cy];omega) b,zl9 a j b];congr 3
  ·omega
  congr 1;rw[List.set_append_right _ _ (by omega),d,If,Dq b,Gy];have h:a.take (j+1)=a.take j++ [a[j]]:=by rw[Fk,Db b];rfl
  rw[h,zlD,De];rfl
 ·have:=f (k+((a.map c).sum:Nat)) (mkL mk c k a) (zbo a k);rw[zbo]at this;simp_all
theorem zcx {body:Int × Int->Option (Ctl (Int × Int) ρ)} (mk:Int->α->α) (c:α->Nat) (a:List α) (k:Int) (r:ρ) (f:1<=k) (g:k+((a.map c).sum:Nat)<=4611686018427387904) (d: ∀(q:Int) (i:Nat) (x:α),idx (mkL mk c k a) (i:Int)=some (mk q x)->x∈a->1<=q->q+c x<=4611686018427387904->i<a.length->body (q,(i:Int))=some (.go (q+c x,(i:Int)+1))) (h:body (k+((a.map c).sum:Nat),(a.length:Int))=some (.done r)):loopO body (k,(0:Int))=some r:=by
 rw[zh (λj=>(k+(((a.take j).map c).sum:Nat),(j:Int))) a.length (r:=r) ?h0]
 case h0=>simp
 ·intro j b;have l:=zn8 (c:=c) a j b;have e:idx (mkL mk c k a) (j:Int)=some (mk (k+(((a.take j).map c).sum:Nat)) a[j]):=by unfold idx;rw[iP (by omega),Eg,zxQ a k j b]
  rw[d _ j a[j] e (Ds _) (by omega) (by omega) b,zl9 a j b];grind
 ·simp_all
end
end Go.Proofs.YtblaakdafebglaaGreat.Sl
