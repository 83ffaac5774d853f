/-
  The plain laws: what the pure functions come to, and the statements. Conditions: none.
-/
import Derived.Test.YtblaakdafebglaaGreatQza
set_option linter.unusedVariables false
set_option linter.unusedSimpArgs false
set_option linter.defProp false
open Option renaming bind->Bb
open Decidable renaming decide->Dc
open Option renaming bind_some->Is,getD_some->Nk,map_some->Nq
open Bool renaming false_eq_true->Iu,not_true->Iz,and_eq_true->Jf,not_false->Jm,true_and->Kv,or_eq_false_iff->Lx,false_or->My,or_self->Nf,not_eq_true'->Nh,false_and->Ns,and_self->Nv
open List renaming getElem_mem->Iv,drop_eq_getElem_cons->Iw,pairwise_iff_getElem->Jc,getElem_of_mem->Je,length_singleton->Jh,mem_filter->Jj,append_nil->Jk,pairwise_cons->Jl,take_of_length_le->Jo,filter_append->Jp,nil_append->Jr,take_append_drop->Jt,mem_append->Jx,length_append->Jy,filter_eq_self->Jz,getElem_set_self->Kc,length_filter_le->Kd,drop_length->Kf,pairwise_append->Kh,filter_cons_of_neg->Kj,append_assoc->Km,findIdx?_eq_some_iff_getElem->Kn,mem_cons->Ko,length_cons->Kp,map_append->Kq,length_drop->Kr,drop_drop->Ky,cons_append->Kz,length->La,mem_flatten->Lb,mem_map_of_mem->Lc,map_cons->Ld,getElem_drop->Lf,mem_cons_of_mem->Lj,take_length->Lk,filter_cons->Ll,take_set_of_le->Lm,takeWhile_cons->Lo,getElem?_eq_getElem->Lr,replicate->Ls,filter_eq_nil_iff->Lt,takeWhile_append_dropWhile->Lv,all_eq_true->Lw,length_nil->Ly,length_map->Ma,foldl_append->Mf,exists_mem_of_ne_nil->Mg,flatten_cons->Mh,getElem_append_right->Mj,map_take->Ml,map_drop->Mm,length_take->Mp,filter_cons_of_pos->Mr,drop_of_length_le->Ms,singleton_append->Mt,set_append_right->Mu,drop_zero->Mv,getElem?_set_ne->Mw,flatten_append->Mx,set_cons_zero->Mz,mem_map->Nb,set_set->Nd,pairwise_map->Nj,getElem_map->Nm,foldl_cons->Nn,range->Nr,foldl_nil->Nt
open Int renaming toNat_natCast->Iy,le_refl->Li
open Nat renaming zero_le->Ja,le_refl->Ji,le_trans->Ku,lt_trichotomy->Ng,mul_le_mul->Nu,add_zero->Nz,sub_zero->Oa
open Option.some renaming injEq->Js
open Prod.mk renaming injEq->Ny
noncomputable section
namespace Go.Proofs.YtblaakdafebglaaGreat
open Go Sl
variable {s:Af} {α R:Type} {e:Aa} {key:J2} {z:R} {t:Am} {l:List Op} {d:A7} {m:List KV} {a j k:Nat} {seq:Int} {o:Op} {bad:Bool} {ls:List (Option α)} {body:Int × List α->Option (Ctl (Int × List α) (Ctl (List α) R))} {f:List α->Option R}
theorem zyt (a:Ac) (l:List Ac) (h:ordE l) (f: ∀x∈l,entLt x a=false):ordE (skp a l)/\(∀x∈skp a l,entLt a x=true)/\∀c,c≠keyE a->(skp a l).filter (λx=>decide (keyE x=c))=l.filter (λx=>decide (keyE x=c)):=by
 match l,h,f with
 | [],_,_=>exact ⟨List.Pairwise.nil,λx b=>by trivial,λc _=>rfl⟩
 | y::t,h,f=>
   have d:=Jl.1 h;have e:skp a (y::t)=if entLt a y=true then y::t else t:=rfl
   rw[e];cases g:entLt a y with
   | true=>
     refine ⟨h,λx b=>?_,λc _=>rfl⟩;rcases Ko.1 b with rfl | b
     ·trivial
     ·exact entOrd3.trans a y x g (d.1 x b)
   | false=>
     have i:keyE a=keyE y:=by
      rcases entOrd3.tri a y with t | t | t
      ·simp_all
      ·exact t
      ·simp_all
     refine ⟨d.2,λx b=>?_,λc j=>?_⟩
     ·exact entOrd3.le_lt (entOrd3.irr y a i.symm) (d.1 x b)
     ·grind
theorem zwZ: ∀(l e:List Ac),ordE l->ordE e->ordE (mg l e)/\FstL keyE (mg l e) (l++e):=by
 intro l;induction l with
 | nil=>intro e _ f;exact ⟨f,λc=>(zt6 f c).symm⟩
 | cons a t ih=>
   intro e hl f;unfold mg;have j:=Jl.1 hl;have D:e=e.takeWhile (λx=>entLt x a)++e.dropWhile (λx=>entLt x a):=(Lv).symm;have q:=zkU a e f;have h: ∀x∈e.takeWhile (λx=>entLt x a),entLt x a=true:=λx b=>by have:=Lw.1 (List.all_takeWhile (p:=λx=>entLt x a) (l:=e)) x b;trivial
   generalize e.takeWhile (λx=>entLt x a)=E1 at*;generalize e.dropWhile (λx=>entLt x a)=E2 at*;subst D;have g:=Kh.1 f;obtain ⟨s,w,u⟩:=zyt a E2 g.2.1 q;generalize skp a E2=E3 at*;obtain ⟨v,k⟩:=ih E3 j.2 s;have i: ∀x∈mg t E3,entLt a x=true:=λx b=>by
    rcases Jx.1 (k.mem b) with b | b
    ·simp_all
    ·simp_all
   refine ⟨Kh.2 ⟨g.1,Jl.2 ⟨i,v⟩,?_⟩,?_⟩
   ·intro x b y d;rcases Ko.1 d with rfl | d
    ·simp_all
    ·exact entOrd3.trans x a y (h x b) (i y d)
   ·intro c;by_cases m:keyE a=c
    ·subst m;rw[Jp,Mr (by simp),zjl (l:=E1) (a:=a) (λx b=>.inr (h x b)),zjl (l:=mg t E3) (a:=a) (λx b=>.inl (i x b)),Kz,Mr (by simp)];rfl
    ·have n:=k c;rw[Jp]at n;rw[Jp,Kj (by simp_all),n,Kz,Kj (by simp_all),Jp,Jp,u c (λe=>m e.symm)]
     match z:E1.filter (λx=>decide (keyE x=c)) with
     | []=>rw[Jr,Jr]
     | x::r=>
       have b:x∈E1.filter (λx=>decide (keyE x=c)):=by simp_all
       have o:=(Jj.1 b).1;have A:keyE x=c:=by grind
       have B:t.filter (λy=>decide (keyE y=keyE x))= []:=zjl λy d=>.inl (entOrd3.trans x a y (h x o) (j.1 y d));have t2:E2.filter (λy=>decide (keyE y=keyE x))= []:=zjl λy d=>.inl (g.2.2 x o y d);have C:=zt6 g.1 (keyE x);grind
def ddA:Option Ac->List Ac->List Ac
 | _,[]=>[]
 | p,x::t=>if p.any (λy=>decide (keyE y=keyE x))=true then ddA (some x) t else x::ddA (some x) t
theorem zwI: ∀(l:List Ac) (y:Ac),SrtL entLt (y::l)->ordE (y::ddA (some y) l)/\∀c,(ddA (some y) l).filter (λx=>decide (keyE x=c))=if keyE y=c then [] else (l.filter (λx=>decide (keyE x=c))).take 1:=by
 intro l;induction l with
 | nil=>intro y _;exact ⟨by simp[ddA,ordE],λc=>by simp[ddA]⟩
 | cons x t ih=>
   intro y h;have b:=Jl.1 h;have k:=Jl.1 b.2;obtain ⟨d,f⟩:=ih x b.2;have j1:=Jl.1 d;by_cases g:keyE y=keyE x
   ·have e:ddA (some y) (x::t)=ddA (some x) t:=by show (if _ then _ else _)=_;simp_all
    rw[e];refine ⟨Jl.2 ⟨λz a=>entOrd3.le_lt (entOrd3.irr x y g.symm) (j1.1 z a),j1.2⟩,λc=>?_⟩;rw[f c,<-g];grind
   ·have e:ddA (some y) (x::t)=x::ddA (some x) t:=by show (if _ then _ else _)=_;simp_all
    rw[e];have i:entLt y x=true:=by
     rcases entOrd3.tri y x with q | q | q
     ·exact q
     ·trivial
     ·simp_all
    refine ⟨Jl.2 ⟨λz a=>?_,d⟩,λc=>?_⟩
    ·rcases Ko.1 a with rfl | a
     ·trivial
     ·exact entOrd3.trans y x z i (j1.1 z a)
    ·by_cases j:keyE x=c
     ·subst j;simp_all
     ·rw[Kj (by simp_all),Kj (by simp_all),f,iN j];by_cases m:keyE y=c
      ·subst m;rw[iP rfl,zjl (λz a=>.inl (entOrd3.lt_le i (k.1 z a)))];rfl
      ·simp_all
def zwH (l:List Ac) (h:SrtL entLt l):ordE (ddA none l)/\FstL keyE (ddA none l) l:=by
 match l,h with
 | [],_=>exact ⟨List.Pairwise.nil,λc=>rfl⟩
 | x::t,h=>
   obtain ⟨b,d⟩:=zwI t x h;have e:ddA none (x::t)=x::ddA (some x) t:=rfl;rw[e];refine ⟨b,λc=>?_⟩;by_cases a:keyE x=c
   ·subst a;simp_all
   ·rw[Kj (by simp_all),Kj (by simp_all),d,iN a]
def zhH: ∀(L:List (List Ac)) (A F:List Ac),(∀e∈L,ordE e)->ordE A->FstL keyE A F->ordE (L.foldl mg A)/\FstL keyE (L.foldl mg A) (F++L.flatten):=by
 intro L;induction L with
 | nil=>intro A F _ a b;simpa using ⟨a,b⟩
 | cons e L ih=>
   intro A F h a b;obtain ⟨d,f⟩:=zwZ A e a (h e (by simp));have:=ih (mg A e) (F++e) (λe' g=>h e' (Lj _ g)) d (λc=>by
    rw[f c,Jp,Jp,b c]
    match F.filter (λx=>decide (keyE x=c)) with
    | []=>rfl
    | x::r=>rfl)
   simp_all
def zpC (l:List α) (b:Nat) (hi:Int) (a:hi=(b:Int)) (c:b<=l.length):piece l 0 hi=some (l.take b):=by rw[zR l 0 b 0 hi rfl a (by omega) c];simp
def zcl (l:List (List Ac)):l.flatten.length=totalV l:=by unfold totalV;simp
theorem ztz (n:Nat) (h:n<=1048576):zcq (n:Int)=some []:=by
 unfold zcq;rw[iN (by simp)];have a:J7 (((0:Nat):Int) - ((([]:List Ac).length:Nat):Int))=0:=by rfl
 have b:J7 ((n:Int) - 0)=(n:Int):=by rw[za];omega
 simp only[a,b];rcases Nat.eq_zero_or_pos n with c | c
 ·simp_all
 ·have z:zapp 48 (n:Int)=some n:=by unfold zapp;grind
  rw[iP (dT),z];rfl
theorem zvC (l:List (List Ac)) (h:l.length<=1048576) (i:totalV l<=1048576):zeA l=some l.flatten:=by
 have b: ∀k,k<=l.length->totalV (l.take k)<=totalV l:=by intro k _;have:=zcl l;have e:=zcl (l.take k);rw[<-Jt k l,Mx,Jy]at this;simp_all;omega
 have c: ∀k (a:k<l.length),(l.take (k+1)).flatten=(l.take k).flatten++l[k]:=by intro k a;rw[zX l k a,Mx];simp
 have d: ∀k (a:k<l.length),totalV (l.take (k+1))=totalV (l.take k)+l[k].length:=by intro k a;rw[<-zcl,c k a,Jy,zcl]
 refine zbX (τ:=Int × Int) (ρ:=Int) (R:=List Ac) (λx=>x=some l.flatten) (λk s=>s=((totalV (l.take k):Int),(k:Int))) l.length (λr=>r= .go (totalV l:Int)) ?_ ?_ ?_ ?_
 ·rfl
 ·rintro k _ a rfl;left;have f:idx l (k:Int)=some l[k]:=zb l k a;have j:=d k a;have m:=b (k+1) (by omega);have n:J7 ((totalV (l.take k):Int)+(l[k].length:Int))=(totalV (l.take (k+1)):Int):=by rw[za];omega
  have g:J7 ((k:Int)+1)=((k+1:Nat):Int):=by rw[za];omega
  grind
 ·simp
 ·rintro _ rfl;rw[ze,ztz _ i];refine zbX (τ:=Int × List Ac) (ρ:=List Ac) (R:=List Ac) (λx=>x=some l.flatten) (λk s=>s=((k:Int),(l.take k).flatten)) l.length (λr=>r= .go l.flatten) ?_ ?_ ?_ ?_
  ·rfl
  ·rintro k _ a rfl;left;have f:idx l (k:Int)=some l[k]:=zb l k a;have j:=d k a;have m:=b (k+1) (by omega);have o:=zcl (l.take k);have g:J7 ((k:Int)+1)=((k+1:Nat):Int):=by rw[za];omega
   refine ⟨_,?_,rfl⟩;simp only[f,Is,g];rw[iP (dT),zf (by omega) (by omega),c k a];rfl
  ·simp
  ·simp
def zn0 (a b:Ac):zem a b=some (Dc (keyE a=keyE b)):=by
 unfold zem;by_cases c:a.g=b.g
 ·simp_all
 ·simp_all
def zvF (y x:Ac) (t:List Ac):ddA (some y) (x::t)=if keyE y=keyE x then ddA (some x) t else x::ddA (some x) t:=by show (if _ then _ else _)=_;simp
theorem ztu (s:List Ac) (h:s.length<=1048576):zU s=some (ddA none s):=by
 unfold zU;by_cases c:s.length<2
 ·rw[iP (dT)]
  match s,c with
  | [],_=>rfl
  | [x],_=>rfl
  | _::_::_,c=>simp at c;omega
 ·rw[iN (by grind)];refine zbX (τ:=Int) (ρ:=Unit) (R:=List Ac) (λx=>x=some (ddA none s)) (λt i=>i=((t+1:Nat):Int)/\∃h:t<s.length,ddA none s=s.take (t+1)++ddA (some s[t]) (s.drop (t+1))) (s.length - 1)
   (λr=>(r= .go ()/\ddA none s=s)\/r= .done (ddA none s)) ⟨rfl,by omega,?_⟩ ?_ ?_ ?_
  ·match s,c with
   | [],c=>simp at c
   | x::t,_=>rfl
  ·rintro t _ M ⟨rfl,v,a⟩;have d:t+1<s.length:=by omega
   have C:idx s ((t+1:Nat):Int)=some s[t+1]:=zb s (t+1) d;have D:J7 (((t+1:Nat):Int) - 1)=((t:Nat):Int):=by rw[za];omega
   have E:J7 (((t+1:Nat):Int)+1)=((t+1+1:Nat):Int):=by rw[za];omega
   have F:idx s ((t:Nat):Int)=some s[t]:=zb s t v;rw[Iw d,zvF]at a;have G:Dc (((t+1:Nat):Int)<(s.length:Int))=true:=dT;simp only[G,iT,C,D,F,Is,zn0];by_cases n:keyE s[t+1]=keyE s[t]
   ·rw[iP (dT n)];rw[iP n.symm]at a;rw[zR s (t+1) s.length _ _ rfl rfl (by omega) (by omega)];right;refine zbX (τ:=Int × Int × List Ac) (ρ:=Int × List Ac) (R:=Ctl Int (Ctl Unit (List Ac))) (λx=>∃r,x=some (.done r)/\((r= .go ()/\ddA none s=s)\/r= .done (ddA none s)))
     (λu q=>∃(k:Nat) (O:List Ac),q=((k:Int),((u+1:Nat):Int),O)/\O.length=s.length/\k<=t+1+u/\O.drop (t+1+u)=s.drop (t+1+u)/\∃h:t+1+u<s.length,ddA none s=O.take k++ddA (some s[t+1+u]) (s.drop (t+1+u+1))) (s.length - (t+2))
     (λr=>∃(k:Nat) (O:List Ac),r= .go ((k:Int),O)/\O.length=s.length/\k<=s.length/\ddA none s=O.take k)
     ⟨t+1,s,rfl,rfl,by omega,rfl,d,a⟩ ?_ ?_ ?_
    ·rintro u _ w ⟨k,O,rfl,g,y,f,z,b⟩;left;have m:t+1+u+1<s.length:=by omega
     have o:piece O ((t+1:Nat):Int) (s.length:Int)=some (O.drop (t+1)):=by rw[zR O (t+1) s.length _ _ rfl rfl (by omega) (by omega),Jo (by simp_all)]
     have p:Dc (((u+1:Nat):Int)<(((O.drop (t+1)).length:Nat):Int))=true:=dT (by grind);have A: ∀j (H:t+1+u+j<s.length),idx (O.drop (t+1)) ((u+j:Nat):Int)=some s[t+1+u+j]:=by intro j H;rw[zb _ (u+j) (by grind),Lf];have:=congrArg (λl=>l[j]?) f;grind
     have I:J7 (((u+1:Nat):Int) - 1)=((u+0:Nat):Int):=by rw[za];omega
     have J:J7 (((u+1:Nat):Int)+1)=((u+1+1:Nat):Int):=by rw[za];omega
     simp only[o,Is,p,iT,A 1 m,I,A 0 z,zn0,J];rw[Iw m,zvF]at b;by_cases B:keyE s[t+1+u+1]=keyE s[t+1+u]
     ·rw[iP B.symm]at b;rw[iN];refine ⟨_,rfl,k,O,rfl,g,by omega,?_,m,b⟩;have:=congrArg (List.drop 1) f;rw[Ky,Ky]at this;trivial
     ·rw[iN (λe=>B e.symm)]at b;rw[iP (by grind)];have K:idx O (k:Int)=some O[k]:=zb O k (by omega);have L:J7 ((k:Int)+1)=((k+1:Nat):Int):=by rw[za];omega
      simp only[K,Is,L,Iy];refine ⟨_,rfl,k+1,O.set k s[t+1+u+1],rfl,by simp_all,by omega,?_,m,?_⟩
      ·rw[List.drop_set_of_lt (by omega)];have:=congrArg (List.drop 1) f;rw[Ky,Ky]at this;trivial
      ·rw[b,List.take_succ_eq_append_getElem (by grind),Lm (by omega)];grind
    ·rintro _ ⟨k,O,rfl,g,y,f,z,b⟩;have w:t+1+(s.length - (t+2))+1=s.length:=by omega
     rw[w,Kf]at b;have o:piece O ((t+1:Nat):Int) (s.length:Int)=some (O.drop (t+1)):=by rw[zR O (t+1) s.length _ _ rfl rfl (by omega) (by omega),Jo (by simp_all)]
     have p:Dc (((s.length - (t+2)+1:Nat):Int)<(((O.drop (t+1)).length:Nat):Int))=false:=dF (by grind);simp only[o,Is,p];refine ⟨_,rfl,k,O,rfl,g,by omega,?_⟩;rw[b];exact Jk _
    ·rintro _ ⟨k,O,rfl,g,y,f⟩;rw[ze];rw[zR O k O.length _ _ rfl rfl (by omega) (by omega),zpC O k _ rfl (by omega)];simp_all
   ·left;rw[iN,E];rw[iN (λe=>n e.symm)]at a;refine ⟨_,rfl,rfl,d,?_⟩;rw[zX s (t+1) d,Km];trivial
  ·rintro _ ⟨rfl,v,a⟩;refine ⟨.go (),?_,.inl ⟨rfl,?_⟩⟩
   ·grind
   ·have e:s.length - 1+1=s.length:=by omega
    rw[e,Lk,Kf]at a;rw[a];exact Jk _
  ·rintro _ (⟨rfl,a⟩ | rfl)
   ·simp_all
   ·rfl
def zrm (l:List (List Ac)) (h:l.length<=1048576) (m:totalV l<=262144) (b: ∀e∈l,ordE e):zbZ l=some (l.foldl mg []):=by unfold zbZ;rw[zvC l h (by omega)];simp only[Is];obtain ⟨R,d,f,a⟩:=zwn l.flatten (by rw[zcl];trivial);have A:R.length=l.flatten.length:=a.length;rw[zcl]at A;rw[d];simp only[Is];rw[ztu R (by omega)];simp only[Is];obtain ⟨g,i⟩:=zwH R f;obtain ⟨j,k⟩:=zhH l [] [] b List.Pairwise.nil (λc=>rfl);have:ddA none R=l.foldl mg []:=FstL.uniq g j i k a;rw[this];unfold zfQ;rw[zpC _ _ _ rfl (Ji _),Lk];rfl
theorem zxZ (a:Ac) (l:List Ac):(skp a l).length<=l.length:=by
 match l with
 | []=>exact Ji _
 | x::r=>show (if entLt a x=true then x::r else r).length<=_;grind
theorem zv9: ∀(l e:List Ac),(mg l e).length<=l.length+e.length:=by
 intro l;induction l with
 | nil=>intro e;simp[mg]
 | cons a t ih=>
   intro e;have b:=zxZ a (e.dropWhile (λx=>entLt x a));have c:(e.takeWhile (λx=>entLt x a)).length+(e.dropWhile (λx=>entLt x a)).length=e.length:=by rw[<-Jy,Lv]
   show (_++_::_).length<=_;grind
theorem zjo: ∀(L:List (List Ac)) (h:List Ac),(L.foldl mg h).length<=h.length+totalV L:=by
 intro L;induction L with
 | nil=>intro h;simp
 | cons e L ih=>
   intro h;have a:=zv9 h e;have b:totalV (e::L)=e.length+totalV L:=by rfl
   grind
def zm8 {l:List (List Ac)} {e:List Ac} (h:e∈l):e.length<=totalV l:=zgK La h
def zyq (e:List Ac):mg [] e=e:=rfl
def zxP (a:Ac) (t e:List Ac):mg (a::t) e=e.takeWhile (λx=>entLt x a)++a::mg t (skp a (e.dropWhile (λx=>entLt x a))):=rfl
def mergeOk (l:List (List Ac)):Bool:=Dc (totalV l<=400)&&l.all entsV
def mergeR (l:List (List Ac)):List Ac:=bif mergeOk l then l.foldl mg [] else []
def zle (p:α->Bool) (x:α) (t:List α) (h:p x=false):(x::t).takeWhile p= []/\(x::t).dropWhile p=x::t:=by simp_all
def zlf (p:α->Bool) (x:α) (t:List α) (h:p x=true):(x::t).takeWhile p=x::t.takeWhile p/\(x::t).dropWhile p=t.dropWhile p:=by simp_all
theorem ziI (l:List (List Ac)) (h:l.length<=1048576) (A:totalV l<=1048576):zdU l=some (mergeR l):=by
 unfold zdU;have B: ∀e∈l,entsV e=false->mergeR l= []:=by
  intro e n p;have:l.all entsV=false:=by grind
  unfold mergeR mergeOk;grind
 have M:400<totalV l->mergeR l= []:=by intro N;unfold mergeR mergeOk;grind
 refine zbX (τ:=Int × List Ac) (ρ:=List Ac) (R:=List Ac) (λx=>x=some (mergeR l)) (λk s=>s=((k:Int),(l.take k).foldl mg [])/\∀e∈l.take k,entsV e=true) l.length
  (λr=>(r= .go (l.foldl mg [])/\∀e∈l,entsV e=true)\/(r= .done []/\mergeR l= [])) ⟨rfl,by simp⟩ ?_ ?_ ?_
 ·rintro k _ d ⟨rfl,p⟩;have w:l[k]∈l:=Iv d;have n:=zm8 w;have C:=zjo (l.take k) [];have O:=zjd l k d;have P:=zlU l (k+1);rw[Ly,Nat.zero_add]at C;have Q:(l.take (k+1)).foldl mg []=mg ((l.take k).foldl mg []) l[k]:=by rw[zX l k d,Mf];rfl
  generalize S:(l.take k).foldl mg []=acc at*;have D:Dc ((k:Int)<(l.length:Int))=true:=dT;simp only[D,iT,zb l k d,Is,zfI l[k] (by omega)];cases E:entsV l[k] with
  | false=>exact .inr ⟨_,rfl,.inr ⟨rfl,B _ w E⟩⟩
  | true=>
    by_cases T:l[k].length>400
    ·grind
    ·rw[dF];by_cases U:acc.length>400
     ·grind
     ·rw[dF];have F:app 48 ([]:List Ac) l[k]=some l[k]:=zf (by grind) (by grind);simp only[Iz,Iu,iF,Is,F];left;have V:ordE acc:=by have:=zhH (l.take k) [] [] (λe n=>((zbf e).1 (p e n)).2) List.Pairwise.nil (λc=>rfl);simp_all
      have W: ∀e∈l.take (k+1),entsV e=true:=by intro e n;rw[zX l k d]at n;grind
      have X: ∀(out:List Ac) (j:Nat),j<=l[k].length->out++l[k].drop j=mg acc l[k]->∃s',((piece l[k] (j:Int) (l[k].length:Int)).bind λE73=>(app 48 out E73).bind λE76=>some (Ctl.go (ρ:=Ctl (List Ac) (List Ac)) (J7 ((k:Int)+1),E76)))=some (.go s')/\s'=(((k+1:Nat):Int),(l.take (k+1)).foldl mg [])/\∀e∈l.take (k+1),entsV e=true:=by intro out j o f;have Y:=zv9 acc l[k];have G:=congrArg La f;rw[Jy,Kr]at G;rw[zR l[k] j l[k].length _ _ rfl rfl o (Ji _),Jo (by simp)];simp only[Is];rw[zf (by grind) (by grind),f,za];simp_all
      generalize l[k]=e at*;refine zbX (τ:=Int × Int × List Ac) (ρ:=Int × List Ac) (R:=Ctl (Int × List Ac) (Ctl (List Ac) (List Ac))) (λx=>∃s',x=some (.go s')/\s'=(((k+1:Nat):Int),(l.take (k+1)).foldl mg [])/\∀e∈l.take (k+1),entsV e=true)
       (λi s=>∃(j:Nat) (out:List Ac),s=((j:Int),(i:Int),out)/\j<=e.length/\out++mg (acc.drop i) (e.drop j)=mg acc e/\out.length<=i+j) acc.length
       (λr=>∃(j:Nat) (out:List Ac),r= .go ((j:Int),out)/\j<=e.length/\out++e.drop j=mg acc e) ⟨0,[],rfl,by omega,by simp,by simp⟩ ?_ ?_ ?_
      ·rintro i _ hi ⟨j,out,rfl,o,f,y⟩;left;have H:Dc ((i:Int)<(acc.length:Int))=true:=dT;simp only[H,iT,zb acc i hi,Is];rw[Iw hi,zxP]at f;refine zbX (τ:=Int × List Ac) (ρ:=Int × List Ac) (R:=Ctl (Int × Int × List Ac) (Ctl (Int × List Ac) (Ctl (Int × List Ac) (Ctl (List Ac) (List Ac)))))
        (λx=>∃s',x=some (.go s')/\∃(j:Nat) (out:List Ac),s'=((j:Int),((i+1:Nat):Int),out)/\j<=e.length/\out++mg (acc.drop (i+1)) (e.drop j)=mg acc e/\out.length<=i+1+j)
        (λt s=>∃(j':Nat) (out':List Ac),s=((j':Int),out')/\j'=j+t/\j'<=e.length/\out'++((e.drop j').takeWhile (λx=>entLt x acc[i])++acc[i]::mg (acc.drop (i+1)) (skp acc[i] ((e.drop j').dropWhile (λx=>entLt x acc[i]))))=mg acc e/\out'.length<=i+j') (e.length - j)
        (λr=>∃(j':Nat) (out':List Ac),r= .go ((j':Int),out')/\j'<=e.length/\out'++(acc[i]::mg (acc.drop (i+1)) (skp acc[i] (e.drop j')))=mg acc e/\out'.length<=i+j') ⟨j,out,rfl,rfl,o,f,y⟩ ?_ ?_ ?_
       ·rintro t _ A ⟨j',out',rfl,I,z,a,q⟩;have b:j'<e.length:=by omega
        have g:Dc ((j':Int)<(e.length:Int))=true:=dT;simp only[g,iT,zb e j' b,Is,zdp];rw[Iw b]at a;cases m:entLt e[j'] acc[i] with
        | true=>left;rw[(zlf (λx=>entLt x acc[i]) _ _ m).1,(zlf (λx=>entLt x acc[i]) _ _ m).2]at a;rw[iP rfl,zf (by grind) (by grind),za];grind
        | false=>right;rw[(zle (λx=>entLt x acc[i]) _ _ m).1,(zle (λx=>entLt x acc[i]) _ _ m).2,<-Iw b]at a;grind
       ·rintro _ ⟨j',out',rfl,I,z,a,q⟩;have g:Dc ((j':Int)<(e.length:Int))=false:=dF;simp only[g];refine ⟨_,rfl,j',out',rfl,by omega,?_,q⟩;simp_all
       ·rintro _ ⟨j',out',rfl,z,a,q⟩;rw[ze];have J:app 48 out' [acc[i]]=some (out'++ [acc[i]]):=zf (by grind) (by grind);have u:J7 ((i:Int)+1)=((i+1:Nat):Int):=by rw[za];omega
        have v:J7 ((j':Int)+1)=((j'+1:Nat):Int):=by rw[za];omega
        simp only[J,u,v,Is,zdp];have K: ∀r,(out'++ [acc[i]])++mg (acc.drop (i+1)) r=out'++(acc[i]::mg (acc.drop (i+1)) r):=λr=>by simp
        rcases Nat.lt_or_ge j' e.length with b | b
        ·have g:Dc ((j':Int)<(e.length:Int))=true:=dT;simp only[g,iT,zb e j' b,Is];rw[Iw b]at a;have es:skp acc[i] (e[j']::e.drop (j'+1))=if entLt acc[i] e[j']=true then e[j']::e.drop (j'+1) else e.drop (j'+1):=rfl
         rw[es]at a;cases m:entLt acc[i] e[j'] with
         | true=>rw[m,iP rfl,<-Iw b]at a;exact ⟨_,rfl,j',out'++ [acc[i]],rfl,by omega,by simp_all,by grind⟩
         | false=>rw[m,iN (by simp)]at a;exact ⟨_,rfl,j'+1,out'++ [acc[i]],rfl,by omega,by simp_all,by grind⟩
        ·have g:Dc ((j':Int)<(e.length:Int))=false:=dF;simp only[g];refine ⟨_,rfl,j',out'++ [acc[i]],rfl,by omega,?_,by grind⟩;rw[K];rw[Ms b]at a |-
         trivial
      ·rintro _ ⟨j,out,rfl,o,f,y⟩;refine ⟨.go ((j:Int),out),?_,j,out,rfl,o,?_⟩
       ·simp
       ·rw[Kf,zyq]at f;exact f
      ·simp_all
 ·simp
 ·rintro _ (⟨rfl,p⟩ | ⟨rfl,Z⟩)
  ·rw[ze];refine zbX (τ:=Int × Int) (ρ:=Int) (R:=List Ac) (λx=>x=some (mergeR l)) (λk s=>s=((totalV (l.take k):Int),(k:Int))) l.length (λr=>r= .go (totalV l:Int)) rfl ?_ ?_ ?_
   ·rintro k _ d rfl;left;have L:=zjd l k d;have h2:=zlU l (k+1);have u:J7 ((totalV (l.take k):Int)+(l[k].length:Int))=(totalV (l.take (k+1)):Int):=by rw[za];omega
    have v:J7 ((k:Int)+1)=((k+1:Nat):Int):=by rw[za];omega
    refine ⟨_,?_,rfl⟩;simp only[zb l k d,Is,u,v];simp_all
   ·simp
   ·rintro _ rfl;rw[ze];by_cases L:totalV l<=400
    ·rw[iN (by grind)];unfold mergeR mergeOk;grind
    ·grind
  ·simp_all
def mergeC (e:Aa):List Ac:=finE true (keepT e.A (e.s.foldl mg []) 0 (e.s.foldl mg []).length)
def tab1 (c:List Ac):List (List Ac):=bif Dc (0<c.length) then [c] else []
def mergeS (e:Aa):Bool × Aa:=bif Dc (e.s.length=0) then (false,e) else (true,⟨e.x,tab1 (mergeC e),e.c,e.A⟩)
def mergeER (e:Aa):Aa × Bool:=bif engV e then ((mergeS e).2,(mergeS e).1) else (⟨[],[],0,[]⟩,false)
theorem zdt: ∀(t:List (List Ac)) (A:Int),tabsV seq A t=true->∀x∈t,entsV x=true/\∀y∈x,y.c<A/\y.c<=seq:=by
 intro t;induction t with
 | nil=>intro _ _ x b;simp at b
 | cons a t ih=>
   intro A h x b;simp only[tabsV,Jf,decide_eq_true_eq]at h;obtain ⟨⟨e,l,m,n⟩,f⟩:=h;have g:=(zif a (rangeV a).2).1 (Li _);rcases Ko.1 b with rfl | b
   ·grind
   ·obtain ⟨i,j⟩:=ih _ f x b;refine ⟨i,λy k=>?_⟩;have:=j y k;obtain ⟨z,d⟩:=Mg a e;have o:=g.2 z d;have p:=((ze3 a (rangeV a).1).1 (Li _)).2 z d;omega
def zi4 (h:engV e=true):entsV (e.s.foldl mg [])=true/\(e.s.foldl mg []).length<=totalV e.s/\∀x∈e.s.foldl mg [],∃t∈e.s,x∈t:=by
 obtain ⟨m,n,o,p,q,u,f,v⟩:=z8 h;have b:=zdt e.s _ f;obtain ⟨g,i⟩:=zhH e.s [] [] (λt j=>((zbf t).1 (b t j).1).2) List.Pairwise.nil (λc=>rfl);have hl:=zjo e.s [];have d: ∀x∈e.s.foldl mg [],∃t∈e.s,x∈t:=λx a=>by have:=i.mem a;simp_all
 refine ⟨(zbf _).2 ⟨λx a=>?_,g⟩,by simp_all,d⟩;obtain ⟨t,k,l⟩:=d x a;exact ((zbf t).1 (b t k).1).1 x l
theorem zu5 (h:engV e=true):(mergeC e).Sublist (e.s.foldl mg []):=by
 obtain ⟨d,f,g,i,j,k,m,n⟩:=z8 h;obtain ⟨a,o,_⟩:=zi4 h;have b:=zuF e.A true (l:=e.s.foldl mg []) (by omega) a;have c:compactR (e.s.foldl mg []) e.A true=mergeC e:=by unfold compactR mergeC;grind
 rw[<-c,b];exact (zwQ _ _).trans (zmH _ _ _)
def zmR (h:engV e=true):entsV (mergeC e)=true/\(mergeC e).length<=totalV e.s/\∀x∈mergeC e,x.c<(rangeV e.x).1/\x.c<=e.c:=by obtain ⟨l,m,n,o,p,q,b,u⟩:=z8 h;obtain ⟨d,f,g⟩:=zi4 h;have a:=zu5 h;refine ⟨zrO a d,Ku a.length_le f,λx i=>?_⟩;obtain ⟨t,j,k⟩:=g x (a.mem i);exact (zdt e.s _ b t j).2 x k
def ztl (c:List Ac):(tab1 c).length<=1/\totalV (tab1 c)<=c.length/\∀t∈tab1 c,t=c:=by
 unfold tab1;by_cases a:0<c.length
 ·rw[dT a];exact ⟨Ji _,by simp[totalV],λt b=>by simp_all⟩
 ·rw[dF a];exact ⟨by simp,by simp[totalV],λt b=>by trivial⟩
theorem zv6 (h:engV e=true):engV (mergeS e).2=true:=by
 unfold mergeS;by_cases c:e.s.length=0
 ·simp_all
 ·rw[dF c];obtain ⟨i,j,o,p,k,l,q,m⟩:=z8 h;obtain ⟨n,t,a⟩:=zmR h;obtain ⟨u,t2,v⟩:=ztl (mergeC e);show engV ⟨e.x,tab1 (mergeC e),e.c,e.A⟩=true;unfold engV memV;simp only[Jf,decide_eq_true_eq];refine ⟨⟨i,j,by omega,by omega,k,l,?_⟩,m⟩;unfold tab1;by_cases b:0<(mergeC e).length
  ·rw[dT b];show tabsV _ _ [mergeC e]=true;obtain ⟨z,d⟩:=Mg (mergeC e) (by grind);have w:=a z d;have f:=((zbf _).1 n).1 z d;unfold entV at f;simp only[Jf,decide_eq_true_eq]at f;have y:(rangeV (mergeC e)).2<=(rangeV e.x).1 - 1:=(zif _ _).2 ⟨by omega,λx g=>by grind⟩;have B:(rangeV (mergeC e)).2<=e.c:=(zif _ _).2 ⟨by omega,λx g=>(a x g).2⟩;simp only[tabsV,Jf,decide_eq_true_eq];grind
  ·rw[dF b];rfl
def ziE (h:engV e=true):zff e=some (mergeS e):=by
 obtain ⟨i,j,k,l,m,n,a,o⟩:=z8 h;obtain ⟨p,q,u⟩:=zi4 h;have b:=zdt e.s _ a;unfold zff mergeS;by_cases c:e.s.length=0
 ·simp_all
 ·rw[iN (λd=>absurd (of_decide_eq_true d) (by omega)),dF c,zrm e.s (by omega) (by omega) (λt f=>((zbf t).1 (b t f).1).2)];simp only[Is];rw[znF _ e.A true (by omega) (by omega)];have g:finE true (keepT e.A (e.s.foldl mg []) 0 (e.s.foldl mg []).length)=mergeC e:=rfl;rw[g];generalize mergeC e=x;unfold tab1;by_cases v:0<x.length
  ·simp_all
  ·simp_all
def zbG (h:engV e=true):e.x.length<=1048576/\e.s.length<=1048576/\totalV e.s<=1048576/\e.A.length<=1048576/\∀t∈e.s,t.length<=1048576:=by obtain ⟨b,c,d,f,g,i,j,k⟩:=z8 h;exact ⟨by omega,by omega,by omega,by omega,λt a=>by have:=zm8 a;omega⟩
theorem zoO (e:Aa) (g:e.x.length<=1048576) (b:e.s.length<=1048576) (h:totalV e.s<=1048576) (d:e.A.length<=1048576):zgb e=some (mergeER e):=by
 unfold zgb mergeER;rw[zb9 e g b h d];cases a:engV e with
 | false=>rfl
 | true=>
   obtain ⟨m,n,o,p,q,t,i,u⟩:=z8 a;obtain ⟨v,w,y⟩:=zi4 a;obtain ⟨_,_,_,_,j⟩:=zbG a;have z:=zdt e.s _ i;simp only[Is,Iz,Iu,iF,zb5 e g b j d,cT];unfold mergeS;by_cases c:e.s.length=0
   ·simp_all
   ·have B:mergeR e.s=e.s.foldl mg []:=by unfold mergeR mergeOk;grind
    have f:compactR (e.s.foldl mg []) e.A true=mergeC e:=by unfold compactR mergeC;grind
    rw[iN (λk=>absurd (of_decide_eq_true k) (by omega)),dF c,ziI e.s b h,B];simp only[Is];rw[zmm _ e.A true (by omega) d,f];simp only[Is];have l:=(zmR a).2.1;generalize mergeC e=x at l;unfold tab1;by_cases f:0<x.length
    ·rw[iP (dT),dT f,zf (by simp) (by simp)];rfl
    ·simp_all
theorem zh8 (h:engV e=true):engV (flushS e).2=true:=by
 by_cases c:e.x.length=0\/6<=e.s.length
 ·rw[zd8 c];exact h
 ·rw[zgP c];obtain ⟨a,b,k,l,d,f,g,i⟩:=z8 h;have j:e.x≠[]:=by simp_all
  have m:totalV (e.x::e.s)=e.x.length+totalV e.s:=by rfl
  unfold engV memV;simp only[Jf,decide_eq_true_eq,tabsV];refine ⟨⟨a,b,by grind,by grind,⟨by simp,rfl⟩,by show (-1:Int)<=e.c;omega,⟨⟨j,d.2,by show (rangeV e.x).2<1000001;omega,f⟩,g⟩⟩,i⟩
def zo9 (e:Aa):(flushS e).2.c=e.c/\(flushS e).2.A=e.A:=by
 by_cases c:e.x.length=0\/6<=e.s.length
 ·rw[zd8 c];exact ⟨rfl,rfl⟩
 ·rw[zgP c];exact ⟨rfl,rfl⟩
theorem zlB (e:Aa):(mergeS e).2.x=e.x/\(mergeS e).2.c=e.c/\(mergeS e).2.A=e.A:=by unfold mergeS;grind
def allR (e:Aa):List Ac:=(e.x::e.s).foldl mg []
def zvP {L:List (List Ac)} (h: ∀t∈L,entsV t=true):entsV (L.foldl mg [])=true/\(L.foldl mg []).length<=totalV L/\∀x∈L.foldl mg [],∃t∈L,x∈t:=by
 obtain ⟨d,e⟩:=zhH L [] [] (λt f=>((zbf t).1 (h t f)).2) List.Pairwise.nil (λc=>rfl);have hl:=zjo L [];have b: ∀x∈L.foldl mg [],∃t∈L,x∈t:=λx a=>by have:=e.mem a;simp_all
 refine ⟨(zbf _).2 ⟨λx a=>?_,d⟩,by simp_all,b⟩;obtain ⟨t,g,i⟩:=b x a;exact ((zbf t).1 (h t g)).1 x i
def zlj (h:engV e=true):(∀t∈e.x::e.s,entsV t=true)/\totalV (e.x::e.s)<=400/\(e.x::e.s).length<=7:=by
 obtain ⟨c,d,f,g,i,j,b,k⟩:=z8 h;refine ⟨λt a=>?_,?_,by simp_all⟩
 ·rcases Ko.1 a with rfl | a
  ·simp_all
  ·exact (zdt e.s _ b t a).1
 ·have:totalV (e.x::e.s)=e.x.length+totalV e.s:=by rfl
  omega
def zd4 (h:engV e=true):entsV (allR e)=true/\(allR e).length<=400:=by obtain ⟨a,b,f⟩:=zlj h;obtain ⟨c,d,_⟩:=zvP a;exact ⟨c,Ku d b⟩
theorem zpb (h:engV e=true):zmx e=some (allR e):=by obtain ⟨a,d,f⟩:=zlj h;unfold zmx;have b:app 24 [e.x] e.s=some (e.x::e.s):=zf (l:=[e.x]) (by grind) (by grind);rw[b];simp only[Is];rw[zrm _ (by omega) (by omega) (λt c=>((zbf t).1 (a t c)).2)];rfl
theorem zk8 (h:engV e=true):zf2 e=some (allR e):=by
 obtain ⟨b,c,d⟩:=zlj h;unfold zf2;have a:app 24 [e.x] e.s=some (e.x::e.s):=zf (l:=[e.x]) (by grind) (by grind);rw[a];simp only[Is];rw[ziI _ (by omega) (by omega)];have A:mergeR (e.x::e.s)=allR e:=by unfold mergeR mergeOk allR;grind
 simp_all
def getE (l:List Ac) (key:J2) (seq:Int):Ac × Bool:=match l.find? (λd=>decide (d.g=key)&&Dc (d.c<=seq)) with | some d=>(d,true) | none=>(⟨[],0,false,[]⟩,false)
theorem ztE (l:List Ac) (key:J2) (seq:Int) (h:l.length<=1048576):zls l key seq=some (getE l key seq):=by
 unfold zls getE;generalize m:(λd:Ac=>decide (d.g=key)&&Dc (d.c<=seq))=p;refine zbX (τ:=Int) (ρ:=Unit) (R:=Ac × Bool) (λx=>x=some (match l.find? p with | some d=>(d,true) | none=>(⟨[],0,false,[]⟩,false))) (λk s=>s=(k:Int)/\l.find? p=(l.drop k).find? p) l.length
  (λr=>(∃d,l.find? p=some d/\r= .done (d,true))\/(l.find? p=none/\r= .go ())) ⟨rfl,rfl⟩ ?_ ?_ ?_
 ·rintro k _ b ⟨rfl,a⟩;rw[Iw b,List.find?_cons]at a;have f:Dc ((k:Int)<(l.length:Int))=true:=dT;simp only[f,iT,zb l k b,Is];have i:(if Dc (l[k].g=key) then (some (Dc (l[k].c<=seq))) else (some false))=some (p l[k]):=by grind
  rw[i];cases j:p l[k] with
  | true=>simp_all
  | false=>rw[j]at a;refine .inl ⟨_,rfl,?_,a⟩;rw[za];omega
 ·simp
 ·rintro _ (⟨d,e,rfl⟩ | ⟨e,rfl⟩)
  ·simp_all
  ·rw[e];rfl
def zth (l:List Ac) (key:J2) (seq:Int) (h:l.length<=1048576):zdq l key seq=some (getE l key seq):=ziz l key seq h
def valE (x:Ac × Bool):J2 × Bool:=if x.2=true/\x.1.M=false then (x.1.J,true) else ([],false)
def getR (e:Aa) (key:J2) (seq:Int):J2 × Bool:=bif engV e then valE (getE (allR e) key seq) else ([],false)
theorem zuB (x:Ac × Bool):((if !x.2 then (some true) else (some x.1.M)).bind (λ(h:Bool)=>if h=true then (some (([]:J2),false)) else (some (x.1.J,true))))=some (valE x):=by unfold valE;grind
def zqN (e:Aa) (key:J2) (seq:Int) (b:e.x.length<=1048576) (c:e.s.length<=1048576) (d:totalV e.s<=1048576) (f:e.A.length<=1048576):zh1 e key seq=some (getR e key seq):=by
 unfold zh1 getR;rw[zb9 e b c d f];cases a:engV e with
 | false=>rfl
 | true=>have hl:=(zd4 a).2;simp only[Is,Iz,Iu,iF,cT];rw[zk8 a];simp only[Is];rw[zth _ key seq (by omega)];simp only[Is];rw[zuB]
def mapR (e:Aa) (seq:Int):List KV:=bif engV e then visL (allR e) seq (allR e).length else []
def zjC (e:Aa) (seq:Int):(mapR e seq).length<=400:=by
 unfold mapR;cases a:engV e with
 | false=>simp
 | true=>exact Ku (zo1 _ seq _ (Ji _)) (zd4 a).2
def zhO (e:Aa) (seq:Int) (b:e.x.length<=1048576) (c:e.s.length<=1048576) (d:totalV e.s<=1048576) (f:e.A.length<=1048576):zex e seq=some (mapR e seq):=by
 unfold zex mapR;rw[zb9 e b c d f];cases a:engV e with
 | false=>rfl
 | true=>obtain ⟨h,hl⟩:=zd4 a;rw[zk8 a];simp only[Is];rw[zsk _ seq h (by omega)];rfl
def opB (o:Op):J2:=(if o.M=true then [1] else [0])++pieceV o.g++(if o.M=true then [] else pieceV o.J)
def showB (l:List Op):J2:=varV (l.length:Int)++l.flatMap opB
def shownB (l:List Op):J2:=bif batchV l then showB l else []
theorem zjg (h:opV o=true):(1<=o.g.length/\o.g.length<=10)/\o.J.length<=16/\(o.M=true->o.J= []):=by unfold opV at h;grind
def zcm (h:batchV l=true):(1<=l.length/\l.length<=6)/\∀o∈l,opV o=true:=by unfold batchV at h;simp_all
theorem zqI (h:opV o=true):(opB o).length<=41:=by obtain ⟨a,b,_⟩:=zjg h;have c:=zfv o.g;have d:=zfv o.J;unfold opB;grind
theorem zkk (h:batchV l=true):(showB l).length<=253:=by obtain ⟨c,a⟩:=zcm h;have d:=zoi opB 41 l λo b=>zqI (a o b);have e:=zdy (l.length:Int);unfold showB;grind
theorem zfS (l:List Op) (h:l.length<=1048576):zdY l=some (shownB l):=by
 unfold zdY shownB;rw[zdo l h];cases d:batchV l with
 | false=>rfl
 | true=>
   obtain ⟨f,b⟩:=zcm d;have i:=zdy (l.length:Int);simp only[Is,Iz,Iu,iF,cT,zh3];rw[zci (I:=λk S=>S=(varV (l.length:Int)++(l.take k).flatMap opB,(k:Int))) l.length (.go (showB l)) (by simp) ?_ ?_]
   ·rfl
   ·rintro k _ a rfl;left;have hl:=zlZ opB 41 l k λo e=>zqI (b o e);obtain ⟨j,m,_⟩:=zjg (b _ (Iv a));have p:=zfv l[k].g;have q:=zfv l[k].J;simp only[zb l k a,Is,zkq l[k].g (by omega),zkq l[k].J (by omega),zrc opB l k a];rw[iP,za (n:=(k:Int)+1)];cases c:l[k].M with
    | true=>rw[zcg (by grind)];simp only[Is];rw[zcg (by grind)];refine ⟨_,rfl,?_⟩;simp only[opB,c,iT,Jk,Km];rfl
    | false=>simp only[Iu,iF];rw[zcg (by grind)];simp only[Is];rw[zcg (by grind)];simp only[Is];rw[zcg (by grind)];refine ⟨_,rfl,?_⟩;simp only[opB,c,Iu,iF,Km];rfl
   ·rintro _ rfl;rw[iN (by simp),Lk];rfl
def zta (h:batchV l=true):showB l≠[]:=by obtain ⟨a,_⟩:=zcm h;unfold showB;have:=zx8 (n:=(l.length:Int)) (by omega);simp_all
theorem znB (l:List Op) (h:l.length<=1048576):zfk l=some (shownB l):=by
 unfold zfk shownB;rw[zeH l h];cases b:batchV l with
 | false=>rfl
 | true=>
   obtain ⟨f,c⟩:=zcm b;have i:=zdy (l.length:Int);simp only[Is,Iz,Iu,iF,cT,zkx];rw[zf (by grind) (by grind)];simp only[Is,Jr];rw[zci (I:=λk S=>S=((k:Int),varV (l.length:Int)++(l.take k).flatMap opB)) l.length (.go (showB l)) (by simp) ?_ ?_]
   ·simp only[bindC,Is];unfold strOf;rw[iN (zta b)];rfl
   ·rintro k _ a rfl;left;have hl:=zlZ opB 41 l k λo e=>zqI (c o e);obtain ⟨j,m,_⟩:=zjg (c _ (Iv a));have p:=zfv l[k].g;have q:=zfv l[k].J;simp only[zb l k a,Is,zl3 l[k].g (by omega),zl3 l[k].J (by omega),zrc opB l k a];rw[iP,za (n:=(k:Int)+1)];unfold zmC;cases d:l[k].M with
    | true=>simp only[iT,Is];rw[zcg (by grind)];simp only[Is];rw[zf (by grind) (by grind)];refine ⟨_,rfl,?_⟩;simp only[opB,d,iT,Jk,Km];rfl
    | false=>simp only[Iu,iF,Is];rw[zcg (by grind)];simp only[Is];rw[zf (by grind) (by grind)];simp only[Is,Jm,iT];rw[zf (by grind) (by grind)];refine ⟨_,rfl,?_⟩;simp only[opB,d,Iu,iF,Km];rfl
   ·rintro _ rfl;rw[iN (by simp),Lk];rfl
def placeV (boot seq:Int):Bool:=Dc (0<=boot/\boot<=1000)&&Dc (0<=seq/\seq<=999999)
theorem zm4 (boot seq:Int):zij boot seq=some (placeV boot seq):=by unfold zij placeV;simp only[zbe,Is];grind
theorem zj9 (boot seq:Int):zeX boot seq=some (placeV boot seq):=by unfold zeX placeV;simp only[z6,Is];grind
def placeN (boot seq:Int):J2:=nonceV 3 (J7 (J7 (boot*1000000)+seq))
def sealB (key:J2) (boot seq:Int) (l:List Op):J2:=bif batchV l&&(Dc (key.length=32)&&placeV boot seq) then streamV key 0 (placeN boot seq) (showB l) else []
def len32 (key:J2):Dc ((key.length:Int)=32)=Dc (key.length=32):=decide_eq_decide.2 (by omega)
def zrA (l:List Op):(shownB l).length<=253:=by
 unfold shownB;cases h:batchV l with
 | true=>exact zkk h
 | false=>exact Ja _
theorem ziJ (key:J2) (boot seq:Int) (l:List Op) (h:l.length<=1048576):zdX key boot seq l=some (sealB key boot seq l):=by unfold zdX sealB;have hs:=zrA l;simp only[zdo l h,zm4,zhv,zfS l h,len32,Is,ziH key 0 _ (shownB l) (by omega)];unfold shownB placeN;grind
theorem ziF (key:J2) (boot seq:Int) (l:List Op) (h:l.length<=1048576):zfi key boot seq l=some (sealB key boot seq l):=by unfold zfi sealB zen;have hs:=zrA l;simp only[zeH l h,zj9,zgT,znB l h,len32,Is,ziD key 0 _ (shownB l) (by omega)];unfold shownB placeN;grind
def rdF (t:J2) (a:Nat) (bad:Bool):Bool × Nat × Bool:=(Dc ((rdB t a bad 1).1= [1]),(rdB t a bad 1).2.1,(!Dc ((rdB t a bad 1).1= [0])&& !Dc ((rdB t a bad 1).1= [1]))||(rdB t a bad 1).2.2)
def zxy (t:J2) (a:Nat) (bad:Bool) (h:a<=t.length) (b:t.length<=1099511627776):zcO ⟨t,(a:Int),bad⟩=some ((rdF t a bad).1,⟨t,((rdF t a bad).2.1:Int),(rdF t a bad).2.2⟩):=by unfold zcO rdF;rw[zsq t a bad 1 h b (by omega)];simp only[Is];cases Dc ((rdB t a bad 1).1= [0])<;>cases Dc ((rdB t a bad 1).1= [1])<;>rfl
def zmW (t:J2) (a:Nat) (bad:Bool) (h:a<=t.length):(rdF t a bad).2.1<=t.length/\a<=(rdF t a bad).2.1/\((rdF t a bad).2.2=false->bad=false):=by obtain ⟨b,c,d⟩:=zrp t a bad 1 h;refine ⟨b,c,λe=>d ?_⟩;unfold rdF at e;simp_all
def rdO (t:J2) (a:Nat):Op × Nat × Bool:=
 if (rdF t a false).1=true then (⟨(rdS t (rdF t a false).2.1 (rdF t a false).2.2).1,true,[]⟩,(rdS t (rdF t a false).2.1 (rdF t a false).2.2).2)
 else (⟨(rdS t (rdF t a false).2.1 (rdF t a false).2.2).1,false,(rdS t (rdS t (rdF t a false).2.1 (rdF t a false).2.2).2.1 (rdS t (rdF t a false).2.1 (rdF t a false).2.2).2.2).1⟩,
  (rdS t (rdS t (rdF t a false).2.1 (rdF t a false).2.2).2.1 (rdS t (rdF t a false).2.1 (rdF t a false).2.2).2.2).2)
theorem zrt (t:J2) (a:Nat) (h:a<=t.length):(rdO t a).2.1<=t.length:=by obtain ⟨b,_,_⟩:=zmW t a false h;obtain ⟨c,_⟩:=zgH t (rdF t a false).2.1 (rdF t a false).2.2 b;obtain ⟨d,_⟩:=zgH t (rdS t (rdF t a false).2.1 (rdF t a false).2.2).2.1 (rdS t (rdF t a false).2.1 (rdF t a false).2.2).2.2 c;unfold rdO;grind
def opsI (t:J2):Nat->Nat->Bool->List Op->Nat × Bool × List Op
 | 0,a,bad,out=>(a,bad,out)
 | f+1,a,bad,out=>bif bad then (a,bad,out) else opsI t f (rdO t a).2.1 (rdO t a).2.2 (out++ [(rdO t a).1])
def opsR (t:J2):Nat × Bool × List Op:=opsI t (goMin (rdN t 0 false).1 6).toNat (rdN t 0 false).2.1 (rdN t 0 false).2.2 []
def readB (t:J2):List Op × Bool:=
 bif (!(opsR t).2.1&&Dc ((opsR t).1=t.length))&&(Dc (((opsR t).2.2.length:Int)=(rdN t 0 false).1)&&batchV (opsR t).2.2) then ((opsR t).2.2,true) else ([],false)
theorem zpz (t:J2): ∀(f a:Nat) (bad:Bool) (A:List Op),a<=t.length->(opsI t f a bad A).1<=t.length/\(opsI t f a bad A).2.2.length<=A.length+f
 | 0,a,bad,A,h=>⟨h,Ji _⟩
 | f+1,a,true,A,h=>⟨h,by simp[opsI]⟩
 | f+1,a,false,A,h=>by obtain ⟨b,c⟩:=zpz t f (rdO t a).2.1 (rdO t a).2.2 (A++ [(rdO t a).1]) (zrt t a h);refine ⟨b,?_⟩;simp only[opsI,cF];grind
def zny (t:J2) (o:t.length<=1048576):zfg t=some (readB t):=by
 unfold zfg readB;obtain ⟨p,d,_⟩:=zig t 0 false (Ja _);rw[show zbb ⟨t,0,false⟩=_ from zro t 0 false (Ja _) (by omega)];simp only[Is];have h: ∀(f a i:Nat) (bad:Bool) (A:List Op),a<=t.length->(i:Int)+(f:Int)=goMin (rdN t 0 false).1 6->i+f<=6->A.length<=i->
  loopO (ρ:=Ctl (J2 × Int × Bool × List Op) (List Op × Bool)) (λ(D:J2 × Int × Bool × Int × List Op)=>Bb (if Dc (D.2.2.2.1<goMin (rdN t 0 false).1 (6:Int))then some (!D.2.2.1)else some false) (λ(J:Bool)=>if J=true then Bb (zcO (⟨D.1,D.2.1,D.2.2.1⟩:A8)) λG=>Bb (zbF G.2) λB=>bindC (if !G.1 then Bb (zbF B.2) λE=>some (.go (E.2.text,E.2.W,E.2.Y,E.1))else some (.go (B.2.text,B.2.W,B.2.Y,[]))) (λ(F:J2 × Int × Bool × J2)=>Bb (app 40 D.2.2.2.2 ([(⟨B.1,G.1,F.2.2.2⟩:Op)])) λI=>some (.go (F.1,F.2.1,F.2.2.1,J7 (D.2.2.2.1+1),I)))else some (.done (.go (D.1,D.2.1,D.2.2.1,D.2.2.2.2)))))
   (t,(a:Int),bad,(i:Int),A)=some (.go (t,((opsI t f a bad A).1:Int),(opsI t f a bad A).2.1,(opsI t f a bad A).2.2)):=by
  intro f
  induction f with
  | zero=>intro a i bad A b hi j k;rw[zG];simp only[dF (by omega: ¬(i:Int)<goMin (rdN t 0 false).1 6),Iu,iF,Is];rfl
  | succ f ih=>
    intro a i bad A b hi j k;rw[zG];simp only[dT (by omega:(i:Int)<goMin (rdN t 0 false).1 6),iT,Is];cases bad with
    | true=>simp only[Iz,Iu,iF];rfl
    | false=>
      obtain ⟨g,_,_⟩:=zmW t a false b;obtain ⟨c,_⟩:=zgH t (rdF t a false).2.1 (rdF t a false).2.2 g;obtain ⟨l,_⟩:=zgH t (rdS t (rdF t a false).2.1 (rdF t a false).2.2).2.1 (rdS t (rdF t a false).2.1 (rdF t a false).2.2).2.2 c;simp only[Jm,iT,zxy t a false b (by omega),Is,zs9 t _ _ g (by omega),zs9 t _ _ c (by omega)];rw[opsI];unfold rdO;cases q:(rdF t a false).1 with
      | true=>simp only[Iz,Iu,iF,iT,ze];rw[zf (by simp;omega) (by simp;omega),za (n:=(i:Int)+1)];exact ih _ (i+1) _ _ c (by omega) (by omega) (by simp;omega)
      | false=>simp only[Jm,Iu,iF,iT,ze];rw[zf (by simp;omega) (by simp;omega),za (n:=(i:Int)+1)];exact ih _ (i+1) _ _ l (by omega) (by omega) (by simp;omega)
 have s:0<=goMin (rdN t 0 false).1 6/\goMin (rdN t 0 false).1 6<=6:=by unfold goMin;split<;>omega
 have hl:=h (goMin (rdN t 0 false).1 6).toNat (rdN t 0 false).2.1 0 (rdN t 0 false).2.2 [] d (by omega) (by omega) (by simp);rw[show ((0:Nat):Int)=0 from rfl]at hl;rw[hl];have e:opsI t (goMin (rdN t 0 false).1 6).toNat (rdN t 0 false).2.1 (rdN t 0 false).2.2 []=opsR t:=rfl;rw[e];obtain ⟨r1,r2⟩:=zpz t (goMin (rdN t 0 false).1 6).toNat (rdN t 0 false).2.1 (rdN t 0 false).2.2 [] d;rw[e]at r1 r2;unfold zcN;have m:Dc ((((opsR t).1:Nat):Int)=(t.length:Int))=Dc ((opsR t).1=t.length):=decide_eq_decide.2 (by omega);simp only[ze,m,zeH (opsR t).2.2 (by simp only[Ly]at r2;omega),Is];cases (opsR t).2.1<;>cases Dc ((opsR t).1=t.length)<;>cases Dc (((opsR t).2.2.length:Int)=(rdN t 0 false).1)<;>cases batchV (opsR t).2.2<;>rfl
theorem zxV {t rest:J2} {b:Bool} (h:t.drop a=(if b=true then [1] else [0])++rest):rdF t a false=(b,a+1,false):=by
 have hl:a+1<=t.length:=by have:=congrArg La h;grind
 unfold rdF rdB;rw[dF (show ¬t.length<a+(1:Int).toNat from by omega),h];cases b<;>rfl
theorem zxW {t rest:J2} (f:opV o=true) (h:t.drop a=opB o++rest):rdO t a=(o,a+(opB o).length,false):=by
 obtain ⟨n,p,i⟩:=zjg f;have b:t.drop a=(if o.M=true then [1] else [0])++(pieceV o.g++((if o.M=true then [] else pieceV o.J)++rest)):=by rw[h];unfold opB;simp
 have e:=congrArg La b;rw[Kr]at e;simp only[Jy]at e;have j:(if o.M=true then [1] else [0]:J2).length=1:=by grind
 have l:a+1+(pieceV o.g).length<=t.length:=by omega
 have c:=zdu b;rw[j]at c;have m:=zdu c;unfold rdO;rw[zxV b];rw[zut c (by omega) (by omega)];obtain ⟨k,d,v⟩:=o;cases d with
 | true=>have:v= []:=i rfl;subst this;simp[opB];omega
 | false=>rw[zut m (by grind) l];simp[opB];omega
theorem zsZ (t:J2): ∀(l:List Op) (a:Nat) (h:List Op) (rest:J2),(∀o∈l,opV o=true)->t.drop a=l.flatMap opB++rest->opsI t l.length a false h=(a+(l.flatMap opB).length,false,h++l)
 | [],a,h,rest,_,_=>by simp[opsI]
 | o::l,a,h,rest,b,d=>by
   have c:t.drop a=opB o++(l.flatMap opB++rest):=by simp_all
   rw[Kp,opsI,zxW (b o (by simp)) c];simp only[cF];rw[zsZ t l (a+(opB o).length) (h++ [o]) rest (λy e=>b y (by simp_all)) (zdu c)];grind
def zpF (h:batchV l=true):readB (showB l)=(l,true):=by
 obtain ⟨f,b⟩:=zcm h;have a:(showB l).drop 0=varV (l.length:Int)++(l.flatMap opB++ []):=by simp[showB]
 have c:=zdu a;have d:=zus a (by omega);have e:goMin (l.length:Int) 6=(l.length:Int):=by unfold goMin;omega
 have g:opsR (showB l)=((showB l).length,false,l):=by unfold opsR;rw[d];simp only[e,Iy];rw[zsZ (showB l) l _ [] [] b c];simp_all
 unfold readB;simp_all
def openB (key:J2) (boot seq:Int) (s:J2):List Op × Bool:=bif Dc (key.length=32)&&(placeV boot seq&&Dc (s.length<=300)) then readB (streamV key 0 (placeN boot seq) s) else ([],false)
def zn7 (key:J2) (counter:Int) (nonce text:J2):(streamV key counter nonce text).length<=text.length:=by
 unfold streamV;cases streamOk key counter nonce text.length with
 | true=>exact Nat.le_of_eq (zb6 _ _ _ _)
 | false=>exact Ja _
theorem znx (key:J2) (boot seq:Int) (s:J2) (h:s.length<=1048576):zdK key boot seq s=some (openB key boot seq s):=by
 unfold zdK openB zen;have hs:=zn7 key 0 (placeN boot seq) s;have a:Dc ((s.length:Int)>300)= !Dc (s.length<=300):=by grind
 simp only[zj9,zgT,len32,Is,ziD key 0 _ s (by omega),a];have b:=zny (streamV key 0 (placeN boot seq) s) (by omega);unfold placeN at b;unfold placeN;grind
def zu6 {boot:Int} (h:sealB key boot seq l≠[]):openB key boot seq (sealB key boot seq l)=(l,true)/\(sealB key boot seq l).length=(showB l).length/\batchV l=true/\key.length=32/\placeV boot seq=true/\sealB key boot seq l=streamV key 0 (placeN boot seq) (showB l):=by
 unfold sealB at h |-
 cases a:batchV l with
 | false=>rw[a]at h;exact absurd rfl h
 | true=>
   cases b:Dc (key.length=32) with
   | false=>rw[a,b]at h;exact absurd rfl h
   | true=>
     cases c:placeV boot seq with
     | false=>rw[a,b,c]at h;exact absurd rfl h
     | true=>
       rw[a,b,c]at h;simp only[Nv,cT]at h |-
       obtain ⟨d,e⟩:=ztW h;have hl:=zkk a;refine ⟨?_,d,trivial,of_decide_eq_true b,trivial,trivial⟩;unfold openB;rw[b,c,dT,e];exact zpF a
def seeE (l:List Ac) (key:J2) (seq:Int):Option Ac:=l.find? λd=>decide (d.g=key)&&Dc (d.c<=seq)
def valO:Option Ac->Option J2
 | some e=>bif e.M then none else some e.J
 | none=>none
theorem zwi (e:Ac) (r:List Ac) (key:J2) (seq:Int):seeE (e::r) key seq=if e.g=key/\e.c<=seq then some e else seeE r key seq:=by unfold seeE;grind
def zoL {l:List Ac} {e:Ac} (h:seeE l key seq=some e):e∈l/\e.g=key/\e.c<=seq:=by have a:=List.mem_of_find?_eq_some h;have b:=List.find?_some h;simp_all
theorem zlg (seq:Int): ∀(l:List Ac) (last:Option J2),ordE l->(∀k,last=some k->∀e∈l,sLt k e.g=true\/k=e.g)->∀A:KV,A∈visG seq last l↔(last≠some A.g/\valO (seeE l A.g seq)=some A.J)
 | [],last,_,_,A=>by simp[visG,seeE,valO]
 | e::r,last,q,hl,A=>by
   have f:=Jl.1 q;have s: ∀y∈r,sLt e.g y.g=true\/e.g=y.g:=λy a=>zvY (f.1 y a);rw[visG,zwi];by_cases d:e.c<=seq
   ·by_cases j:last=some e.g
    ·rw[dT d,dT j];simp only[Iz,Bool.and_false,cF];rw[zlg seq r last f.2 (λk b y a=>hl k b y (Lj _ a)) A];simp_all
    ·rw[dT d,dF j];simp only[Jm,Bool.and_true,cT];have ih:=zlg seq r (some e.g) f.2 (λk b y a=>by simp_all) A;by_cases m:e.g=A.g
     ·rw[iP ⟨m,d⟩];have n: ¬A∈visG seq (some e.g) r:=by simp_all
      have w:last≠some A.g:=by simp_all
      cases o:e.M with
      | true=>simp[n,valO,o]
      | false=>simp only[cF,Ko,n,or_false,valO,o,Js];obtain ⟨x,z⟩:=A;grind
     ·rw[iN λh=>m h.1];have t:A∈(bif e.M then visG seq (some e.g) r else ⟨e.g,e.J⟩::visG seq (some e.g) r)↔A∈visG seq (some e.g) r:=by grind
      rw[t,ih];constructor
      ·rintro ⟨_,h⟩;refine ⟨λb=>?_,h⟩;cases hs:seeE r A.g seq with
       | none=>rw[hs]at h;cases h
       | some y=>
         obtain ⟨u,v,_⟩:=zoL hs;rcases hl _ b e (by simp) with p | p
         ·rcases s y u with i | i
          ·rw[v]at i;have:=zcD p i;rw[zbO]at this;cases this
          ·simp_all
         ·simp_all
      ·simp_all
   ·rw[dF d,Ns];simp only[cF];rw[zlg seq r last f.2 (λk b y a=>hl k b y (Lj _ a)) A,iN λh=>d h.2]
def srtK (m:List KV):Prop:=m.Pairwise λa b=>sLt a.g b.g=true
theorem zq2 (seq:Int): ∀(l:List Ac) (last:Option J2),ordE l->(∀k,last=some k->∀e∈l,sLt k e.g=true\/k=e.g)->srtK (visG seq last l)
 | [],_,_,_=>List.Pairwise.nil
 | e::r,last,j,hl=>by
   have a:=Jl.1 j;have n: ∀y∈r,sLt e.g y.g=true\/e.g=y.g:=λy b=>zvY (a.1 y b);have d: ∀k,some e.g=some k->∀y∈r,sLt k y.g=true\/k=y.g:=λk f y b=>by simp_all
   have h:=zq2 seq r (some e.g) a.2 d;rw[visG];cases (Dc (e.c<=seq)&& !Dc (last=some e.g)) with
   | false=>exact zq2 seq r last a.2 λk f y b=>hl k f y (Lj _ b)
   | true=>
     simp only[cT];cases e.M with
     | true=>exact h
     | false=>
       refine Jl.2 ⟨λA m=>?_,h⟩;obtain ⟨o,i⟩:=(zlg seq r (some e.g) a.2 d A).1 m;cases hs:seeE r A.g seq with
       | none=>rw[hs]at i;cases i
       | some y=>obtain ⟨p,q,_⟩:=zoL hs;grind
theorem zrF: ∀(t:List (List Ac)) (B:Int),tabsV seq B t=true->∀x∈t.flatten,∀y∈t.flatten,keyE x=keyE y->x=y:=by
 intro t;induction t with
 | nil=>intro _ _ x b;simp at b
 | cons a t ih=>
   intro B h x b y d e;have f:=h;simp only[tabsV,Jf,decide_eq_true_eq]at f;obtain ⟨⟨q,l,u,v⟩,m⟩:=f;have w:=(ze3 a (rangeV a).1).1 (Li _);have z:=zdt t _ m;have n:=((zbf a).1 l).2;have A: ∀x∈a,∀y∈a,keyE x=keyE y->x=y:=by
    intro x b y d e;rcases Jc.1 n with g
    obtain ⟨i,hi,rfl⟩:=Je b;obtain ⟨j,k,rfl⟩:=Je d;rcases Ng i j with c | c | c
    ·have:=g i j hi k c;rw[entOrd3.irr _ _ e]at this;cases this
    ·simp_all
    ·have:=g j i k hi c;rw[entOrd3.irr _ _ e.symm]at this;cases this
   rw[Mh,Jx]at b d;rcases b with b | b<;>rcases d with d | d
   ·grind
   ·obtain ⟨s,o,p⟩:=Lb.1 d;grind
   ·obtain ⟨s,o,p⟩:=Lb.1 b;grind
   ·grind
theorem zuc {r l:List Ac} (h:FstL keyE r l) (d: ∀x∈l,∀y∈l,keyE x=keyE y->x=y) (x:Ac):x∈r↔x∈l:=by
 refine ⟨h.mem,λb=>?_⟩;have e:=h (keyE x);have a:x∈l.filter (λy=>decide (keyE y=keyE x)):=Jj.2 ⟨b,by simp⟩;cases c:l.filter (λy=>decide (keyE y=keyE x)) with
 | nil=>rw[c]at a;simp at a
 | cons y t=>
   have f:y∈r.filter (λy=>decide (keyE y=keyE x)):=by simp_all
   grind
def tabE (e:Aa):List Ac:=e.s.foldl mg []
def zx4 (h:engV e=true):ordE (tabE e)/\∀x,x∈tabE e↔∃t∈e.s,x∈t:=by obtain ⟨i,j,k,l,m,n,a,o⟩:=z8 h;have b:=zdt e.s _ a;obtain ⟨d,f⟩:=zhH e.s [] [] (λt g=>((zbf t).1 (b t g).1).2) List.Pairwise.nil (λc=>rfl);refine ⟨d,λx=>?_⟩;rw[<-Lb];exact zuc f (zrF e.s _ a) x
theorem ztZ (h:engV e=true):ordE (allR e)/\∀x,x∈allR e↔x∈e.x\/x∈tabE e:=by
 obtain ⟨w,z,A,B,m,C,f,D⟩:=z8 h;have E:=zdt e.s _ f;obtain ⟨n,_,_⟩:=zlj h;obtain ⟨o,g⟩:=zhH (e.x::e.s) [] [] (λt p=>((zbf t).1 (n t p)).2) List.Pairwise.nil (λc=>rfl);rw[Jr]at g;refine ⟨o,λx=>?_⟩;rw[(zx4 h).2 x,<-Lb,<-Jx,<-Mh];refine zuc g ?_ x;have F:=(ze3 e.x (rangeV e.x).1).1 (Li _);have q:=((zbf e.x).1 m.2).2;intro x a y b d;rw[Mh,Jx]at a b;rcases a with a | a<;>rcases b with b | b
 ·have k:=Jc.1 q;obtain ⟨i,hi,rfl⟩:=Je a;obtain ⟨j,l,rfl⟩:=Je b;rcases Ng i j with c | c | c
  ·have:=k i j hi l c;rw[entOrd3.irr _ _ d]at this;cases this
  ·simp_all
  ·have:=k j i l hi c;rw[entOrd3.irr _ _ d.symm]at this;cases this
 ·obtain ⟨s,u,v⟩:=Lb.1 b;grind
 ·obtain ⟨s,u,v⟩:=Lb.1 a;grind
 ·exact zrF e.s _ f x a y b d
def zv4 (h:engV e=true) (seq:Int):mapR e seq=visG seq none (allR e):=by unfold mapR;rw[h];exact zyw (zd4 h).1 seq
def zwW (h:engV e=true) (seq:Int) (A:KV):A∈mapR e seq↔valO (seeE (allR e) A.g seq)=some A.J:=by rw[zv4 h,zlg seq (allR e) none (ztZ h).1 (λk a=>by trivial)];simp
def zoB (h:engV e=true) (seq:Int):srtK (mapR e seq):=by rw[zv4 h];exact zq2 seq _ none (ztZ h).1 λk a=>by trivial
def zrE {l:List Int} (h: ∀k (a:k<l.length),(0<=l[k]/\l[k]<=seq)/\(∀c:0<k,l[k - 1]'(by omega)<l[k])):snapsV seq l=true:=by
 unfold snapsV;rw[Lw];intro k a;have b:k<l.length:=by simp_all
 rw[zlP seq l k b,Jf];simp_all
def ziO (h:engV e=true) {l:List Int} (hl:l.length<=4) (hs:snapsV e.c l=true):engV {e with A:=l} =true:=by obtain ⟨a,b,d,f,g,i,j,k⟩:=z8 h;unfold engV memV;simp_all
theorem zxb (h:engV e=true):engV (snapR e).1=true:=by
 obtain ⟨b,j,l,m,n,o,p,a⟩:=z8 h;unfold snapR;rw[iP h];by_cases d:e.c∈e.A
 ·simp_all
 ·by_cases f:e.A.length=4
  ·simp_all
  ·rw[iN d,iN f];refine ziO h (by grind) (zrE λk s=>?_);have i:k<e.A.length+1:=by simp_all
   rcases Nat.lt_succ_iff_lt_or_eq.1 i with g | g
   ·have:=ze6 a k g;grind
   ·subst g;rw[Mj (by omega)];simp only[Nat.sub_self,List.getElem_cons_zero];refine ⟨⟨b.1,Li _⟩,λt=>?_⟩;have q:=(ze6 a (e.A.length - 1) (by omega)).1;grind
theorem ztx (h:engV e=true) (x:Int):engV (engDropR e x).1=true:=by
 obtain ⟨n,o,b,p,q,s,t,a⟩:=z8 h;unfold engDropR;rw[iP h];by_cases f:x∈e.A
 ·rw[iP f];obtain ⟨j,l,rfl⟩:=Je f;have m:=zoe a j l;refine ziO h ?_ (zrE λk g=>?_)
  ·grind
  ·simp only[m]at g |-
   have hl:(e.A.take j).length=j:=by grind
   have u:k<e.A.length - 1:=by grind
   have B: ∀i (hi:i<j) (d:i<(e.A.take j++e.A.drop (j+1)).length),(e.A.take j++e.A.drop (j+1))[i]=e.A[i]'(by omega):=λi hi d=>by simp_all
   have D: ∀i (hi:j<=i) (d:i<(e.A.take j++e.A.drop (j+1)).length) (b:i+1<e.A.length),(e.A.take j++e.A.drop (j+1))[i]=e.A[i+1]'b:=λi hi d b=>by grind
   by_cases c:k<j
   ·have:=ze6 a k (by omega);grind
   ·rw[D k (by omega) g (by omega)];have:=ze6 a (k+1) (by omega);refine ⟨this.1,λv=>?_⟩;by_cases w:k=j
    ·rw[B (k - 1) (by omega)];exact zoM a (k+1) (by omega) (k - 1) (by omega)
    ·grind
 ·simp_all
def zur (h:engV e=true) (l:List Op):engV (putR e l).1=true:=by
 unfold putR;rw[h];cases a:batchV l with
 | false=>exact h
 | true=>
   cases b:okB e l with
   | false=>exact h
   | true=>exact (znf h a).trans b
def opL (l:List Op) (key:J2):Option Op:=l.reverse.find? λo=>decide (o.g=key)
def zsW (a:Op) (t:List Op) (key:J2):opL (a::t) key=(opL t key).or (if a.g=key then some a else none):=by unfold opL;simp
theorem zxS (l:List Op) (key:J2) (o:Op):opL l key=some o↔∃i,∃hi:i<l.length,laterV l i key=false/\l[i].g=key/\o=l[i]:=by
 induction l with
 | nil=>simp[opL]
 | cons a t ih=>
   rw[zsW];have b: ∀i,laterV (a::t) (i+1) key=laterV t i key:=λi=>by rfl
   have c:laterV (a::t) 0 key=t.any λx=>decide (x.g=key):=by rfl
   have d:opL t key=none↔(t.any λx=>decide (x.g=key))=false:=by unfold opL;simp
   constructor
   ·intro h;cases e:opL t key with
    | some x=>grind
    | none=>grind
   ·grind
def newK (o:Op):List KV:=bif o.M then [] else [⟨o.g,o.J⟩]
def putK (m:List KV) (o:Op):List KV:=m.filter (λx=>sLt x.g o.g)++(newK o++m.filter (λx=>sLt o.g x.g))
def applyK (m:List KV) (l:List Op):List KV:=l.foldl putK m
theorem zoG (o:Op) (h:KV):h∈newK o↔o.M=false/\h.g=o.g/\h.J=o.J:=by unfold newK;obtain ⟨k,v⟩:=h;grind
def zw4 (m:List KV) (o:Op) (A:KV):A∈putK m o↔(o.M=false/\A.g=o.g/\A.J=o.J)\/(A.g≠o.g/\A∈m):=by
 unfold putK;rw[Jx,Jx,zoG,Jj,Jj];constructor
 ·rintro (⟨b,a⟩ | h | ⟨b,a⟩)
  ·exact .inr ⟨λh=>by (rw[h,zbO]at a;cases a),b⟩
  ·simp_all
  ·exact .inr ⟨λh=>by (rw[h,zbO]at a;cases a),b⟩
 ·rintro (h | ⟨b,a⟩)
  ·simp_all
  ·cases c:sLt A.g o.g with
   | true=>exact .inl ⟨a,rfl⟩
   | false=>
     cases d:sLt o.g A.g with
     | true=>exact .inr (.inr ⟨a,rfl⟩)
     | false=>exact absurd (zs7 c d) b
def zw5 (h:srtK m) (o:Op):srtK (putK m o):=by
 unfold putK srtK;rw[Kh,Kh];refine ⟨h.filter _,⟨?_,h.filter _,?_⟩,?_⟩
 ·unfold newK;cases o.M<;>simp
 ·intro a d b c;rw[((zoG o a).1 d).2.1];simp_all
 ·intro a d b c;have e:=(Jj.1 d).2;rcases Jx.1 c with c | c
  ·rw[((zoG o b).1 c).2.1];exact e
  ·exact zcD e (Jj.1 c).2
def zlk (l:List Op): ∀{m:List KV},srtK m->srtK (applyK m l):=by
 induction l with
 | nil=>intro m h;exact h
 | cons a t ih=>intro m h;exact ih (zw5 h a)
theorem zuD (l:List Op): ∀(m:List KV) (h:KV),h∈applyK m l↔match opL l h.g with | some o=>o.M=false/\h.J=o.J | none=>h∈m:=by
 induction l with
 | nil=>intro m h;simp[applyK,opL]
 | cons a t ih=>
   intro m h;show h∈applyK (putK m a) t↔_;rw[ih,zsW];cases b:opL t h.g with
   | some o=>simp
   | none=>rw[zw4];grind
theorem ziM (l:List Op): ∀m:List KV,(applyK m l).length<=m.length+l.length:=by
 induction l with
 | nil=>intro m;simp[applyK]
 | cons a t ih=>
   intro m;have b:=ih (putK m a);have d:(putK m a).length<=m.length+1:=by
    unfold putK newK;have q:(m.filter λx=>sLt x.g a.g).length+(m.filter λx=>sLt a.g x.g).length<=m.length:=by
     clear b;induction m with
     | nil=>simp
     | cons x r h=>
       simp only[Ll,Kp];cases c:sLt x.g a.g with
       | true=>rw[zrw c];simp;omega
       | false=>cases sLt a.g x.g<;>simp<;>omega
    grind
   show (applyK (putK m a) t).length<=_;grind
def kvV (x:KV):Bool:=opV ⟨x.g,false,x.J⟩
def znj (h:engV e=true) (s:Int): ∀x∈mapR e s,kvV x=true:=by
 intro x a;rw[zwW h]at a;cases b:seeE (allR e) x.g s with
 | none=>rw[b]at a;cases a
 | some d=>
   obtain ⟨f,j,_⟩:=zoL b;have i:=((zbf _).1 (zd4 h).1).1 d f;rw[b]at a;unfold entV at i;have a:(bif d.M then none else some d.J)=some x.J:=a;cases c:d.M with
   | true=>rw[c]at a;cases a
   | false=>rw[c]at a;unfold kvV opV;simp_all
def zq3 (d: ∀x∈m,kvV x=true) (a:batchV l=true): ∀x∈applyK m l,kvV x=true:=by
 intro x b;rw[zuD]at b;unfold batchV at a;rw[Jf,Lw]at a;cases c:opL l x.g with
 | none=>rw[c]at b;exact d x b
 | some o=>obtain ⟨i,hi,_,e,rfl⟩:=(zxS l _ o).1 c;have:=a.2 _ (Iv hi);unfold opV at this;unfold kvV opV;simp_all
theorem zlI (p:Nat) (b: ∀x∈m.take p,sLt x.g o.g=true) (d: ∀x∈m.drop p,sLt x.g o.g=false):putK m o=m.take p++(newK o++(m.drop p).filter λx=>!Dc (x.g=o.g)):=by
 unfold putK;have e:m=m.take p++m.drop p:=(Jt p m).symm;have h:m.filter (λx=>sLt x.g o.g)=m.take p:=by
  conv=>lhs;rw[e]
  rw[Jp,Jz.2 b,Lt.2 λx a=>by grind,Jk]
 have i:m.filter (λx=>sLt o.g x.g)=(m.drop p).filter λx=>!Dc (x.g=o.g):=by
  conv=>lhs;rw[e]
  rw[Jp,Lt.2 λx a=>by rw[zrw (b x a)];simp,Jr];refine List.filter_congr λx a=>?_;by_cases c:x.g=o.g
  ·grind
  ·rw[dF c];cases f:sLt o.g x.g with
   | true=>rfl
   | false=>exact absurd (zs7 (d x a) f) c
 grind
theorem zsi (m:List KV) (o:Op) (w:srtK m) (hl:m.length<=1000000):zlR m o=some (putK m o):=by
 refine zI (λk (S:Bool × Int × List KV)=>S.2.1=(k:Int)/\((S.1=o.M/\S.2.2=m.take k/\∀x∈m.take k,sLt x.g o.g=true)\/
  (S.1=true/\∃p,p<=k/\S.2.2=m.take p++(newK o++((m.take k).drop p).filter λx=>!Dc (x.g=o.g))/\(∀x∈m.take p,sLt x.g o.g=true)/\∀x∈m.drop p,sLt x.g o.g=false))) m.length
  (λr=>∃b a,r= .go (b,a)/\((b=o.M/\a=m/\∀x∈m,sLt x.g o.g=true)\/(b=true/\a=putK m o))) ⟨rfl,.inl ⟨rfl,by simp,by simp⟩⟩ ?_ ?_ ?_
 ·rintro k ⟨b,c,a⟩ q ⟨l,O⟩;subst l;left;have C:m.take (k+1)=m.take k++ [m[k]]:=by simp
  have z:J7 ((k:Int)+1)=((k+1:Nat):Int):=by rw[za];omega
  have I: ∀(x y:List KV),x.length<=1000001->y.length<=1->app 32 x y=some (x++y):=λx y D E=>zf (by omega) (by omega);simp only[zb m k q,Is,z];rw[iP];rcases O with ⟨e,d,f⟩ | ⟨e,p,s,d,f,j⟩
  ·subst e d;have F:(m.take k).length<=1000000:=by grind
   cases t:sLt m[k].g o.g with
   | true=>
     have A: ¬m[k].g=o.g:=λh=>by rw[h,zbO]at t;trivial
     refine ⟨(o.M,((k+1:Nat):Int),m.take (k+1)),?_,rfl,.inl ⟨rfl,rfl,?_⟩⟩
     ·cases o.M<;>simp[A,bindC,I (m.take k) [m[k]] (by omega) (by simp)]
     ·grind
   | false=>
     have j: ∀x∈m.drop k,sLt x.g o.g=false:=by
      intro x n;rw[Iw q]at n;rcases Ko.1 n with rfl | n
      ·trivial
      ·have u:=w;unfold srtK at u;rw[<-Jt k m,Kh,Iw q]at u;have B:=(Jl.1 u.2.1).1 x n;cases i:sLt x.g o.g with
       | false=>rfl
       | true=>rw[zcD B i]at t;cases t
     refine ⟨(true,((k+1:Nat):Int),m.take k++(newK o++((m.take (k+1)).drop k).filter λx=>!Dc (x.g=o.g))),?_,rfl,.inr ⟨rfl,k,by omega,rfl,f,j⟩⟩;have v:(m.take (k+1)).drop k= [m[k]]:=by grind
     rw[v];unfold newK;cases o.M with
     | true=>
       by_cases i:m[k].g=o.g
       ·simp_all
       ·simp[i,bindC,I (m.take k) [m[k]] (by omega) (by simp)]
     | false=>
       by_cases i:m[k].g=o.g
       ·simp[i,bindC,I (m.take k) [(⟨o.g,o.J⟩:KV)] (by omega) (by simp)]
       ·simp[i,bindC,I (m.take k) [(⟨o.g,o.J⟩:KV)] (by omega) (by simp),I (m.take k++ [(⟨o.g,o.J⟩:KV)]) [m[k]] (by simp_all) (by simp)]
  ·subst e d;have v:(m.take (k+1)).drop p=(m.take k).drop p++ [m[k]]:=by grind
   have G:(m.take p++(newK o++((m.take k).drop p).filter λx=>!Dc (x.g=o.g))).length<=1000001:=by
    have H:(newK o).length<=1:=by unfold newK;grind
    grind
   refine ⟨(true,((k+1:Nat):Int),m.take p++(newK o++((m.take (k+1)).drop p).filter λx=>!Dc (x.g=o.g))),?_,rfl,.inr ⟨rfl,p,by omega,rfl,f,j⟩⟩;by_cases i:m[k].g=o.g
   ·simp_all
   ·simp_all
 ·rintro ⟨b,c,a⟩ ⟨l,O⟩;simp only at l O;subst l;refine ⟨.go (b,a),by simp,b,a,rfl,?_⟩;rcases O with ⟨e,d,f⟩ | ⟨e,p,s,d,f,j⟩
  ·simp_all
  ·right;rw[Lk]at d;exact ⟨e,by rw[d,zlI p f j]⟩
 ·rintro r ⟨b,a,rfl,⟨e,d,f⟩ | ⟨e,d⟩⟩
  ·subst e d;have s:putK a o=a++newK o:=by have:=zlI (m:=a) (o:=o) a.length (by simp_all) (by simp);simp_all
   rw[s];unfold newK;cases o.M with
   | true=>simp[bindC]
   | false=>have d:app 32 a [(⟨o.g,o.J⟩:KV)]=some (a++ [⟨o.g,o.J⟩]):=zf (by grind) (by grind);simp_all
  ·simp_all
def zlh (m:List KV) (b:srtK m) (c: ∀x∈m,kvV x=true) (hl:m.length<=1000000):zi7 m=some true:=by
 refine zI (λk s=>s=(k:Int)) m.length (λr=>r= .go ()) rfl ?_ ?_ (λr e=>by simp_all)
 ·rintro k _ a rfl;left;have d:opV ⟨m[k].g,false,m[k].J⟩=true:=c _ (Iv a);simp only[zb m k a,Is,zm3,d];rw[iP,za (n:=(k:Int)+1)];by_cases f:0<k
  ·have h:=Jc.1 b (k - 1) k (by omega) a (by omega);rw[za (n:=(k:Int) - 1),show (k:Int) - 1=((k - 1:Nat):Int) by omega,zb m (k - 1) (by omega)];simp_all
  ·simp_all
 ·simp
theorem zrM (m:List KV) (l:List Op) (a:srtK m) (b: ∀x∈m,kvV x=true) (e:m.length<=100000) (hl:l.length<=1000):zcs m l=some (bif batchV l then (applyK m l,true) else (m,false)):=by
 unfold zcs;rw[zlh m a b (by omega)];rw[zf (by grind) (by grind),zdo l (by omega)];cases batchV l with
 | false=>rfl
 | true=>
   refine zI (λk (S:Int × List KV)=>S=((k:Int),applyK m (l.take k))) l.length (λr=>r= .go (applyK m l)) rfl ?_ ?_ (λr f=>by simp_all)
   ·rintro k _ c rfl;left;have d:l.take (k+1)=l.take k++ [l[k]]:=by simp
    have g:=ziM (l.take k) m;refine ⟨_,?_,rfl⟩;simp only[zb l k c,Is];rw[iP,zsi _ _ (zlk _ a) (by grind),za (n:=(k:Int)+1)];rw[d,show applyK m (l.take k++ [l[k]])=putK (applyK m (l.take k)) l[k] by simp only[applyK,Mf,Nn,Nt]];rfl
   ·simp
def zpH: ∀(f:Nat) (s:J2) (n k:Nat),readN (f+1) s=some (n,k)->s=varN f n++s.drop k
 | _,[],_,_,h=>by trivial
 | f,x::l,n,k,h=>by
   rw[readN]at h;by_cases c:x.toNat<128
   ·rw[dT c]at h;simp only[cT,Js,Ny]at h;obtain ⟨rfl,rfl⟩:=h;rw[zgL c,znt];rfl
   ·rw[dF c]at h;simp only[cF]at h;cases f with
    | zero=>simp[readN]at h
    | succ f=>
      cases a:readN (f+1) l with
      | none=>rw[a]at h;cases h
      | some mk=>
        obtain ⟨m,k'⟩:=mk;rw[a]at h;simp only at h;by_cases b:m=0
        ·simp_all
        ·rw[dF b]at h;simp only[cF,Js,Ny]at h;obtain ⟨rfl,rfl⟩:=h;have ih:=zpH f l m k' a;have i:=x.toNat_lt;have d:(x.toNat % 128+128*m) % 128=x.toNat % 128:=by omega
         have e:(x.toNat % 128+128*m) / 128=m:=by omega
         have g:128+x.toNat % 128=x.toNat:=by omega
         rw[zjh (by omega),d,e,g,znt,Kz,List.drop_succ_cons,<-ih]
def zrs {t:J2} (b:(rdN t a false).2.2=false):t.drop a=varV (rdN t a false).1++t.drop (rdN t a false).2.1:=by
 unfold rdN at b |-
 simp only[cF]at b |-
 cases c:readN 7 (t.drop a) with
 | none=>rw[c]at b;cases b
 | some h=>obtain ⟨n,k⟩:=h;have:=zpH 6 _ n k c;obtain ⟨r1,r2,d⟩:=zew c;simp only;unfold varV;rw[dT];rw[Ky]at this;trivial
theorem zrq {t:J2} {n:Int} (b:(rdB t a bad n).2.2=false):bad=false/\t.drop a=(rdB t a bad n).1++t.drop (rdB t a bad n).2.1/\(rdB t a bad n).1.length=n.toNat:=by
 unfold rdB at b |-
 cases bad with
 | true=>simp at b
 | false=>
   by_cases c:t.length<a+n.toNat
   ·simp_all
   ·rw[dF c]at b |-
    simp only[Bool.or_false,cF];refine ⟨trivial,?_,by grind⟩;rw[<-Ky,Jt]
theorem zmX {t:J2} (h:a<=t.length) (b:(rdS t a bad).2.2=false):bad=false/\t.drop a=pieceV (rdS t a bad).1++t.drop (rdS t a bad).2.1:=by
 have c:bad=false:=((zgH t a bad h).2 b).1;subst c;unfold rdS at b |-
 obtain ⟨d,e,f⟩:=zrq b;obtain ⟨r1,_,_⟩:=zig t a false h;have:=zrs d;unfold pieceV;grind
theorem zrr {t:J2} (b:(rdF t a bad).2.2=false):bad=false/\t.drop a=(if (rdF t a bad).1=true then [1] else [0])++t.drop (rdF t a bad).2.1:=by
 unfold rdF at b |-
 simp only[Lx,Bool.and_eq_false_iff,Bool.not_eq_false',decide_eq_true_eq]at b;obtain ⟨d,c⟩:=b;obtain ⟨e,f,_⟩:=zrq c;grind
def zwd {t:J2} (h:a<=t.length) (b:(rdO t a).2.2=false):t.drop a=opB (rdO t a).1++t.drop (rdO t a).2.1:=by
 obtain ⟨e,_,_⟩:=zmW t a false h;obtain ⟨i,_⟩:=zgH t (rdF t a false).2.1 (rdF t a false).2.2 e;unfold rdO at b |-
 cases d:(rdF t a false).1 with
 | true=>rw[d]at b;obtain ⟨f,g⟩:=zmX e b;obtain ⟨_,c⟩:=zrr f;rw[d,iP rfl]at c;rw[c,g];simp[opB]
 | false=>rw[d]at b;obtain ⟨f,g⟩:=zmX i b;obtain ⟨j,k⟩:=zmX e f;obtain ⟨_,c⟩:=zrr j;rw[d,iN (by simp)]at c;rw[c,k,g];simp[opB]
def zsY (t:J2): ∀(f a:Nat) (bad:Bool) (A:List Op),(opsI t f a bad A).2.1=false->bad=false
 | 0,_,_,_,h=>h
 | f+1,a,true,A,h=>by simp[opsI]at h
 | f+1,a,false,A,h=>rfl
def zpA (t:J2): ∀(f a:Nat) (bad:Bool) (A:List Op),a<=t.length->(opsI t f a bad A).2.1=false->∃l,(opsI t f a bad A).2.2=A++l/\l.length=f/\t.drop a=l.flatMap opB++t.drop (opsI t f a bad A).1
 | 0,a,bad,A,_,_=>⟨[],by simp[opsI],rfl,by rfl⟩
 | f+1,a,true,A,_,h=>by trivial
 | f+1,a,false,A,b,h=>by
   simp only[opsI,cF]at h |-
   have c:=zsY t f _ _ _ h;obtain ⟨l,e,g,d⟩:=zpA t f (rdO t a).2.1 (rdO t a).2.2 (A++ [(rdO t a).1]) (zrt t a b) h;refine ⟨(rdO t a).1::l,by simp_all,by simp_all,?_⟩;rw[zwd b c,d];simp
theorem zn3 {t:J2} (h:(readB t).2=true):batchV (readB t).1=true/\showB (readB t).1=t:=by
 unfold readB at h |-
 cases a:((!(opsR t).2.1&&Dc ((opsR t).1=t.length))&&(Dc (((opsR t).2.2.length:Int)=(rdN t 0 false).1)&&batchV (opsR t).2.2)) with
 | false=>rw[a]at h;cases h
 | true=>
   simp only[Jf,Nh,decide_eq_true_eq]at a;obtain ⟨⟨b,c⟩,d,e⟩:=a;obtain ⟨r1,r2,g⟩:=zig t 0 false (Ja _);unfold opsR at b c d e |-
   have f:=zsY t _ _ _ _ b;obtain ⟨l,i,j,k⟩:=zpA t _ _ _ _ r2 b;have m:=zrs f;unfold showB;grind
theorem zn2 {t:J2} (h:(readB t).2=false):readB t=([],false):=by
 unfold readB at h |-
 grind
theorem zxO {s:J2} :(l6V s 1 0).2= -1\/∃(b:Nat) (n:Int),l6V s 1 0=([n],(b:Int))/\b<=s.length/\0<=n/\s≠[]:=by
 rcases (zmM s 1 0 (Ja _)).1 with e | ⟨b,f,a,c⟩
 ·omega
 ·right;have d:=(zmM s 1 0 (Ja _)).2
  match hl:(l6V s 1 0).1,c with
  | [n],_=>refine ⟨b,n,by grind,a,(d n (by simp_all)).1,?_⟩;rintro rfl;trivial
def rbStep (k:Nat) (l:List Op) (q:Int × J2) (o:Op):Option (Ctl (Int × Int × List Op) (Ctl (List Op) (List Op × Bool))):=
 if Dc (q.1<0) then (some (.done (.done (([]:List Op),false))))
 else ((app 40 l ([(⟨o.g,o.M,q.2⟩:Op)])).bind λh=>some (.go (q.1,J7 ((k:Int)+1),h)))
theorem zwc (s:J2) (k m:Nat) (l:List Op) (q:Int × J2) (o:Op) (f:k<1000) (hl:l.length=k) (c:q.1= -1\/∃b:Nat,q.1=(b:Int)/\b<=s.length):
 (∃h:Int × Int × List Op,rbStep k l q o=some (.go h)/\h.2.1=((k+1:Nat):Int)/\(∃a:Nat,h.1=(a:Int)/\a<=s.length)/\h.2.2.length=k+1)\/
 (∃r:Ctl (List Op) (List Op × Bool),rbStep k l q o=some (.done r)/\((∃l:List Op,r= .go l/\l.length=m)\/r= .done ([],false))):=by
 rcases c with c | ⟨d,c,e⟩
 ·right;exact ⟨.done ([],false),by unfold rbStep;simp_all,.inr rfl⟩
 ·left;refine ⟨(q.1,((k+1:Nat):Int),l++ [(⟨o.g,o.M,q.2⟩:Op)]),?_,rfl,⟨d,c,e⟩,by simp_all⟩;unfold rbStep;rw[c,dF,zf (by grind) (by simp[hl];omega),za (n:=(k:Int)+1)];rfl
theorem zlQ (s:J2) (hs:s.length<=1048576): ∃r,zck s=some r/\((r.2=true/\batchV r.1=true/\showB r.1=s)\/r=([],false)):=by
 unfold zck;rw[show zbz s 0 1=some (l6V s 1 0) from zfG s 0 1 (by omega) (by decide) (by decide)];simp only[Is];rcases zxO (s:=s) with e | ⟨b,n,e,u,A,B⟩
 ·simp_all
 ·rw[e];have v:idx [n] (0:Int)=some n:=rfl;rw[dF (by omega: ¬(b:Int)<0)];simp only[Iu,iF,v,Is];by_cases w:n>6
  ·simp_all
  rw[dF w];obtain ⟨m,rfl⟩: ∃m:Nat,n=(m:Int):=⟨n.toNat,by omega⟩;refine zbX (R:=List Op × Bool) (ρ:=List Op) (λo=>∃r,o=some r/\((r.2=true/\batchV r.1=true/\showB r.1=s)\/r=([],false))) (λk (S:Int × Int × List Op)=>S.2.1=(k:Int)/\(∃a:Nat,S.1=(a:Int)/\a<=s.length)/\S.2.2.length=k) m
   (λr=>(∃l,r= .go l/\l.length=m)\/r= .done ([],false)) ⟨rfl,⟨b,rfl,u⟩,rfl⟩ ?_ ?_ ?_
  ·rintro k ⟨i,c,l⟩ C ⟨x,⟨a,y,D⟩,hl⟩;subst x y;simp only[dT (by omega:(k:Int)<(m:Int)),iT];by_cases d:(a:Int)>=(s.length:Int)
   ·right;exact ⟨.done ([],false),by rw[dT d];rfl,.inr rfl⟩
   ·have z:a<s.length:=by omega
    rw[dF d];simp only[Iu,iF,zcS s a z,Is];rw[za (n:=(a:Int)+1),show (a:Int)+1=((a+1:Nat):Int) by omega,zfF s (a+1) (by omega) hs];simp only[Is];have E:=λq f o=>zwc s k m l q o (by omega) hl f;have j:=zn9 s (a+1) (by omega);generalize takeB s (a+1)=g at j;by_cases F:(s[a].toNat:Int)=1
    ·rw[dT F];exact E (g.2,[]) j ⟨g.1,true,[]⟩
    ·rw[dF F];rcases j with f | ⟨h,f,p⟩
     ·rw[f,zpZ];exact E (-1,[]) (.inl rfl) ⟨g.1,false,[]⟩
     ·rw[f,zfF s h p hs];exact E ((takeB s h).2,(takeB s h).1) (zn9 s h p) ⟨g.1,false,[]⟩
  ·simp_all
  ·rintro r (⟨l,rfl,hl⟩ | rfl)
   ·simp only[ze];by_cases t:(l.length:Int)=0
    ·rw[dT t];exact ⟨_,rfl,.inr rfl⟩
    ·rw[dF t,zfS l (by omega)];simp only[Iu,iF,Is];by_cases d:shownB l=s
     ·rw[dT d];unfold shownB at d;grind
     ·rw[dF d];exact ⟨_,rfl,.inr rfl⟩
   ·exact ⟨_,rfl,.inr rfl⟩
theorem zjW (h:batchV l=true):zck (showB l)=some (l,true):=by
 obtain ⟨⟨N,O⟩,B⟩:=zcm h;have P:=zkk h;have hs:(showB l).length<=1048576:=by omega
 have C:(showB l).drop 0=varV (l.length:Int)++(l.flatMap opB++ []):=by rw[Mv,Jk];rfl
 have D:l6V (showB l) 1 0=([(l.length:Int)],((0+(varV (l.length:Int)).length:Nat):Int)):=by have:=zuj (showB l) [(l.length:Int)] 0 (l.flatMap opB++ []) (λx a=>by rw[List.mem_singleton]at a;rw[a];omega) (Ja _) (by simpa using C);simp_all
 unfold zck;rw[show zbz (showB l) (0:Int) (1:Int)=some (l6V (showB l) 1 0) from zfG (showB l) 0 1 (by omega) (by decide) (by decide),D];have E:idx [(l.length:Int)] 0=some (l.length:Int):=rfl;simp only[Is];simp only[E];rw[dF];simp only[Iu,iF,Is];rw[dF (by omega: ¬(l.length:Int)>6)];let p (k:Nat):Nat:=0+(varV (l.length:Int)).length+((l.take k).flatMap opB).length;have V: ∀k (c:k<l.length),(showB l).drop (p k)=opB l[k]++((l.drop (k+1)).flatMap opB++ []):=by
  intro k c;have:(l.flatMap opB++ []:J2)=(l.take k).flatMap opB++(opB l[k]++((l.drop (k+1)).flatMap opB++ [])):=by
   conv=>lhs;rw[<-Jt k l,Iw c,List.flatMap_append,List.flatMap_cons]
   simp only[Km,Jk]
  grind
 refine zI (λk (S:Int × Int × List Op)=>S=(((p k:Nat):Int),(k:Int),l.take k)) l.length (λr=>r= .go l) (by simp[p]) ?_ ?_ ?_
 ·rintro k _ c rfl;left;have F:=B _ (Iv c);obtain ⟨⟨Q,R⟩,T,G⟩:=zjg F;have i:=V k c;have u:l.take (k+1)=l.take k++ [l[k]]:=by rw[List.take_add_one,Lr c];rfl
  have v:p (k+1)=p k+(opB l[k]).length:=by grind
  have H:=congrArg La i;rw[Kr,Jy]at H;have U:1<=(opB l[k]).length:=by unfold opB;cases l[k].M<;>simp<;>omega
  have w:p k<(showB l).length:=by omega
  simp only[dT (by omega:(k:Int)<(l.length:Int)),iT];rw[dF (by omega: ¬(p k:Int)>=(((showB l).length:Nat):Int))];simp only[Iu,iF,zcS (showB l) (p k) w,Is];rw[za (n:=(p k:Int)+1),show (p k:Int)+1=((p k+1:Nat):Int) by omega,zfF (showB l) (p k+1) (by omega) hs];simp only[Is];refine ⟨(((p (k+1):Nat):Int),((k+1:Nat):Int),l.take (k+1)),?_,rfl⟩;have y:J7 ((k:Int)+1)=((k+1:Nat):Int):=by rw[za];omega
  have z: ∀o:Op,app 40 (l.take k) [o]=some (l.take k++ [o]):=λo=>zf (by simp;omega) (by simp;omega);have A: ∀(x:UInt8) (r:J2),(showB l).drop (p k)=x::r->(showB l)[p k]=x:=by intro x r a;rw[Iw w]at a;exact (List.cons.inj a).1
  cases e:l[k].M with
  | true=>
    have I:=G e;have f:opB l[k]= [1]++(pieceV l[k].g++ []):=by unfold opB;rw[e];simp
    have b:=i;rw[f]at b;simp only[Km,Mt,Jk,Kz,Jr]at b;have a:=A _ _ b;have d:(showB l).drop (p k+1)=pieceV l[k].g++(l.drop (k+1)).flatMap opB:=by have:(showB l).drop (p k)= [(1:UInt8)]++(pieceV l[k].g++(l.drop (k+1)).flatMap opB):=b;exact zdu this
    have j:=congrArg La d;rw[Kr,Jy]at j;have m:=zm7 d (by omega) (by omega);have q:(opB l[k]).length=1+(pieceV l[k].g).length:=by rw[f];simp;omega
    rw[m,a];have s:((((1:UInt8)).toNat:Nat):Int)=1:=rfl;simp only[s,decide_true,Iz,Iu,iF,ze];rw[dF (by omega: ¬((p k+1+(pieceV l[k].g).length:Nat):Int)<0)];simp only[Iu,iF,z,Is,y];rw[u,v,q];have t:(⟨l[k].g,true,[]⟩:Op)=l[k]:=by rw[<-e,<-I]
    rw[t,Nat.add_assoc]
  | false=>
    have f:opB l[k]= [0]++(pieceV l[k].g++pieceV l[k].J):=by unfold opB;rw[e];simp
    have b:=i;rw[f]at b;simp only[Km,Mt,Jk,Kz,Jr]at b;have a:=A _ _ b;have d:(showB l).drop (p k+1)=pieceV l[k].g++(pieceV l[k].J++(l.drop (k+1)).flatMap opB):=by have:(showB l).drop (p k)= [(0:UInt8)]++(pieceV l[k].g++(pieceV l[k].J++(l.drop (k+1)).flatMap opB)):=b;exact zdu this
    have j:=congrArg La d;rw[Kr,Jy,Jy]at j;have K:=zdu d;have m:=zm7 d (by omega) (by omega);have L:=zm7 K (by omega) (by omega);have q:(opB l[k]).length=1+((pieceV l[k].g).length+(pieceV l[k].J).length):=by rw[f];simp;omega
    rw[m,a];have s:((((0:UInt8)).toNat:Nat):Int)=0:=rfl;simp only[s,dF (by decide: ¬(0:Int)=1),Jm,iT];rw[zfF (showB l) (p k+1+(pieceV l[k].g).length) (by omega) hs,L];simp only[Is,ze];rw[dF];simp only[Iu,iF,z,Is,y];rw[u,v,q];have t:(⟨l[k].g,false,l[k].J⟩:Op)=l[k]:=by rw[<-e]
    rw[t];congr 3;omega
 ·rintro _ rfl;exact ⟨.go l,by simp,rfl⟩
 ·rintro r rfl;simp only[ze];rw[dF (by omega: ¬(l.length:Int)=0),zfS l (by omega)];have:shownB l=showB l:=by unfold shownB;simp_all
  simp[this]
def zp9 (s:J2) (hs:s.length<=1048576):zck s=some (readB s):=by
 obtain ⟨r,a,h | h⟩:=zlQ s hs
 ·obtain ⟨c,d,e⟩:=h;rw[a,<-e,zpF d,<-c]
 ·rw[a,h];cases b:(readB s).2 with
  | false=>rw[zn2 b]
  | true=>obtain ⟨f,g⟩:=zn3 b;have:=zjW f;simp_all
def fstV (p:α->Bool) (l:List α):Int:=match l.findIdx? p with
 | some j=>(j:Int)
 | none=>-1
theorem zgm (p:α->Bool) (l:List α) (hl:l.length<=1048576) {body:Int->Option (Ctl Int (Ctl Unit R))} (g:Int->R) {f:Unit->Option R} (m:f ()=some z) (h: ∀k (a:k<l.length),body (k:Int)=some (if p l[k]=true then .done (.done (g (k:Int))) else .go ((k:Int)+1))) (b:body (l.length:Int)=some (.done (.go ()))):
 bindC (loopO body 0) f=some (match l.findIdx? p with | some j=>g (j:Int) | none=>z):=by
 have key: ∀(n k:Nat),k+n=l.length->(∀i (hi:i<l.length),i<k->p l[i]=false)->bindC (loopO body (k:Int)) f=some (match l.findIdx? p with | some j=>g (j:Int) | none=>z):=by
  intro n;induction n with
  | zero=>
    intro k a c;have:k=l.length:=by omega
    subst this;rw[zG,b];have:l.findIdx? p=none:=by rw[List.findIdx?_eq_none_iff];intro x d;obtain ⟨i,hi,rfl⟩:=Je d;simp_all
    rw[this];trivial
  | succ n ih=>
    intro k a c;have e:k<l.length:=by omega
    rw[zG,h k e];cases o:p l[k] with
    | true=>
      have:l.findIdx? p=some k:=by rw[Kn];simp_all
      simp_all
    | false=>have:=ih (k+1) (by omega) (λi hi q=>by grind);trivial
 exact key l.length 0 (by omega) (λi _ h=>by omega)
theorem zsf (l:List Am) (id:Int) (h:l.length<=1048576):zfB l id=some (fstV (λt=>decide (t.r=id)) l):=by refine zgm (λt:Am=>decide (t.r=id)) l h (λj=>j) rfl (λk a=>?_) (by simp);simp only[zb l k a,Is];rw[iP,za];grind
theorem zos (s:Af) (id:Int) (h:s.a.length<=1048576):zbN s id=some (fstV (λt=>decide (t.r=id)) s.a):=by
 unfold zbN zbk fstV;rw[zgm (λt:Am=>decide (t.r=id)) s.a h (λj=>j) rfl (λk b=>?_) (by simp)]
 ·rfl
 ·simp only[zb s.a k b,Is,zgX];rw[iP,za];grind
theorem zhJ (d:A7) (t:Int) (h:d.t.length<=1048576):zev d t=some (fstV (λx=>decide (x.q=t)) d.t):=by
 unfold zev zbm fstV;rw[zgm (λx:A6=>decide (x.q=t)) d.t h (λj=>j) rfl (λk a=>?_) (by simp)]
 ·rfl
 ·simp only[zb d.t k a,Is,ziq];rw[iP,za];grind
def ztG (n:Int):zdb n=some (Dc (0<=n/\n<=1000000)):=by unfold zdb;rw[z6];rfl
def ziL (d:A7):zcy d=zbl d:=by unfold zcy zbl;simp only[ztG,znZ,zbe,ge_iff_le]
def zuC (d:A7) (h:d.t.length<=1048576): ∃b,zbl d=some b:=by
 unfold zbl;simp only[zbe,Is];have a: ∃B,(if !(Dc ((d.L.length:Int)=32)) then (some true)
  else (if Dc ((d.t.length:Int)>4) then (some true)
 else (some (!Dc (0<=d.H/\d.H<=1000000)))))=some B:=by
  split
  ·trivial
  ·split<;>exact ⟨_,rfl⟩
 obtain ⟨B,a⟩:=a;rw[a];simp only[Is];cases B with
 | true=>exact ⟨_,rfl⟩
 | false=>
   refine zuE (zuZ (λk s=>s=(k:Int)) d.t.length rfl ?_ ?_) (λ_=>⟨_,rfl⟩)
   ·rintro k _ c rfl;simp only[zb d.t k c,Is];rw[iP];have e: ∃b,(if !Dc (1<=d.t[k].q/\d.t[k].q<=99) then (some true)
     else (if !(Dc (((d.t[k].g.length:Nat):Int)=32)) then (some true)
 else (if Dc ((k:Int)>0) then ((idx d.t (J7 ((k:Int) - 1))).bind λA=>
 some (Dc (A.q>=d.t[k].q)))
 else (some false))))=some b:=by
     split
     ·trivial
     ·split
      ·trivial
      ·by_cases i:0<k
       ·rw[iP,za (n:=(k:Int) - 1),show (k:Int) - 1=((k - 1:Nat):Int) by omega,zb d.t (k - 1) (by omega)]
        simp
       ·simp_all
    obtain ⟨b,f⟩:=e
    rw[f]
    cases b with
    | true=>exact .inr ⟨_,rfl⟩
    | false=>exact .inl ⟨_,rfl,by rw[za];omega⟩
   ·simp
def keysV (d:A7):Bool:=(zbl d).getD false
def zhE (d:A7) (h:d.t.length<=1048576):zbl d=some (keysV d):=by obtain ⟨b,a⟩:=zuC d h;unfold keysV;rw[a];rfl
def keyOfV (d:A7) (t:Int):J2:=bif keysV d then (match d.t.findIdx? (λx=>decide (x.q=t)) with | some j=>((d.t[j]?).map A6.g).getD [] | none=>[]) else []
theorem zix (d:A7) (t:Int) (h:d.t.length<=1048576):zef d t=some (keyOfV d t):=by
 unfold zef keyOfV;simp only[zhE d h,Is];cases keysV d with
 | false=>rw[zG];simp
 | true=>
   rw[zgm (λx:A6=>decide (x.q=t)) d.t h (λj=>((d.t[j.toNat]?).map A6.g).getD []) (z:=[]) rfl (λk a=>?_) (by simp)]
   ·rfl
   ·simp only[dT (by omega),iT,Is,zb d.t k a,Iy,Lr a,Nq,Nk];rw[za];grind
def zin (d:A7) (t:Int) (h:d.t.length<=1048576):zgQ d t=some (keyOfV d t):=by
 unfold zgQ keyOfV;rw[zhJ d t h,ziL,zhE d h];simp only[Is];unfold fstV;cases b:d.t.findIdx? (λx=>decide (x.q=t)) with
 | none=>cases keysV d<;>rfl
 | some j=>
   have a:j<d.t.length:=(Kn.1 b).1;simp only;rw[dF];cases keysV d with
   | false=>rfl
   | true=>simp[zb d.t j a,Lr a]
def zs3 (t:J2):((readB t).2=true/\batchV (readB t).1=true/\(showB (readB t).1)=t)\/readB t=([],false):=by
 cases h:(readB t).2 with
 | true=>exact .inl ⟨rfl,zn3 h⟩
 | false=>exact .inr (zn2 h)
theorem znQ (key:J2) (boot seq:Int) (s:J2) (h:s.length<=1048576):zdW key boot seq s=some (openB key boot seq s):=by
 unfold zdW openB;have hs:=zn7 key 0 (placeN boot seq) s;have f:=zp9 (streamV key 0 (placeN boot seq) s) (by omega);have g: ¬s.length<=300->readB (streamV key 0 (placeN boot seq) s)=([],false):=by
  intro c;rcases zs3 (streamV key 0 (placeN boot seq) s) with ⟨_,d,i⟩ | h
  ·have b:=zkk d;have a:=zta d;rw[i]at b a;unfold streamV at b a;cases e:streamOk key 0 (placeN boot seq) s.length with
   | true=>rw[e,cond_true,zb6]at b;omega
   | false=>rw[e]at a;exact absurd rfl a
  ·exact h
 simp only[zm4,zhv,len32,Is,ziH key 0 _ s (by omega)];unfold placeN at f g;unfold placeN;grind
def zsX (key:J2) (boot seq:Int) (s:J2):((openB key boot seq s).2=true/\batchV (openB key boot seq s).1=true)\/openB key boot seq s=([],false):=by
 unfold openB;cases Dc (key.length=32)&&(placeV boot seq&&Dc (s.length<=300)) with
 | false=>exact .inr rfl
 | true=>
   rcases zs3 (streamV key 0 (placeN boot seq) s) with ⟨a,b,_⟩ | h
   ·simp_all
   ·simp_all
def repS (key:J2):Aa->List Ar->Aa × Bool
 | e,[]=>(e,true)
 | e,r::rs=>bif (openB key r.B r.c r.P).2&&(putR e (openB key r.B r.c r.P).1).2 then repS key (putR e (openB key r.B r.c r.P).1).1 rs else (⟨[],[],0,[]⟩,false)
theorem zlJ (h:(putR e l).2=true):engV e=true/\batchV l=true/\okB e l=true/\(putR e l).1=engB e l:=by
 unfold putR at h |-
 grind
theorem zr8 (key:J2) (tabs:List (List Ac)) (rows:List Ar) (p:rows.length<=1048576) (g: ∀r∈rows,r.P.length<=1048576) {body:Int × Int × List Ac->Option (Ctl (Int × Int × List Ac) (Ctl (Int × List Ac) (Aa × Bool)))} (e:body=λ(A:Int × Int × List Ac)=>if Dc (A.2.1<(rows.length:Int)) then ((idx rows A.2.1).bind λD=>
 (zdK key D.B D.c D.P).bind λG=>
 (if !G.2 then (some (A.1,true,A.2.2))
 else ((zde (⟨A.2.2,tabs,A.1,[]⟩:Aa) G.1).bind λE=>
 some (E.2.c,!E.1,E.2.x))).bind (λ(F:Int × Bool × List Ac)=>if F.2.1=true then some (.done (.done ((⟨[],[],0,[]⟩:Aa),false)))else some (.go (F.1,J7 (A.2.1+1),F.2.2))))
 else (some (.done (.go (A.1,A.2.2))))):
  ∀(n k:Nat) (seq:Int) (mem:List Ac),k+n=rows.length->engV ⟨mem,tabs,seq,[]⟩=true->
   bindC (loopO body (seq,(k:Int),mem)) (λ(I:Int × List Ac)=>some ((⟨I.2,tabs,I.1,[]⟩:Aa),true))=some (repS key ⟨mem,tabs,seq,[]⟩ (rows.drop k)):=by
 intro n;induction n with
 | zero=>
   intro k seq mem i a;have:k=rows.length:=by omega
   subst this;rw[zG,e];simp[bindC,repS]
 | succ n ih=>
   intro k seq mem i a;have b:k<rows.length:=by omega
   rw[zG,Iw b];have j:body (seq,(k:Int),mem)=some (bif (openB key rows[k].B rows[k].c rows[k].P).2&&(putR ⟨mem,tabs,seq,[]⟩ (openB key rows[k].B rows[k].c rows[k].P).1).2 then
    .go ((putR ⟨mem,tabs,seq,[]⟩ (openB key rows[k].B rows[k].c rows[k].P).1).1.c,(k:Int)+1,(putR ⟨mem,tabs,seq,[]⟩ (openB key rows[k].B rows[k].c rows[k].P).1).1.x)
    else .done (.done (⟨[],[],0,[]⟩,false))):=by
    rw[e]
    simp only[zb rows k b,Is,znx key _ _ _ (g _ (Iv b))]
    rw[iP,za (n:=(k:Int)+1)]
    rcases zsX key rows[k].B rows[k].c rows[k].P with ⟨l,d⟩ | h
    ·rw[l];simp only[Iz,Iu,iF,Kv,zqs _ _ a d,Is];unfold putR;grind
    ·simp_all
   rw[j];simp only[repS];cases m:((openB key rows[k].B rows[k].c rows[k].P).2&&(putR ⟨mem,tabs,seq,[]⟩ (openB key rows[k].B rows[k].c rows[k].P).1).2) with
   | false=>rfl
   | true=>
     have d:=(Jf _ _ ▸ m:_/\_).2;obtain ⟨q,s,t,o⟩:=zlJ d;have f:=zur a (openB key rows[k].B rows[k].c rows[k].P).1;rw[o]at f |-
     have:=ih (k+1) _ _ (by omega) f;trivial
def rep0 (t:Am):Aa:=⟨[],t.b.s,t.O,[]⟩
def zkw (s:Af) (t:Am) (rows:List Ar) (a:rows.length<=1048576) (c: ∀r∈rows,r.P.length<=1048576) (d:s.m.t.length<=1048576) (e:engV t.b=true) (f:engV (rep0 t)=true):
    zcZ s t rows=some (repS (keyOfV s.m t.r) (rep0 t) rows):=by unfold zcZ;obtain ⟨h,i,j,k,g⟩:=zbG e;rw[zj7 t.b (by omega) (by omega) g (by omega),zin s.m t.r d];have:=zr8 (keyOfV s.m t.r) t.b.s rows a c rfl rows.length 0 t.O [] (by omega) f;trivial
def rowsV (s:Af) (id:Int):List Ar:=s.D.filter λr=>decide (r.q=id)
theorem zgY (s:Af) (id:Int) (h:s.D.length<=1048576):zcu s id=some (rowsV s id):=by
 unfold zcu rowsV;refine zI (λk (S:Int × List Ar)=>S=((k:Int),(s.D.take k).filter λr=>decide (r.q=id))) s.D.length (λr=>r= .go (s.D.filter λr=>decide (r.q=id))) rfl ?_ ?_ (λr b=>by simp_all)
 ·rintro k _ a rfl;left;refine ⟨_,?_,rfl⟩;simp only[zb s.D k a,Is];rw[iP,za (n:=(k:Int)+1),zkt _ s.D k a];cases c:Dc (s.D[k].q=id) with
  | false=>simp[bindC]
  | true=>rw[iP rfl,zf (by grind) (by grind)];rfl
 ·simp
def seqsV (base:Int) (h:List Ar):Bool:=(Nr h.length).all λi=>match h[i]? with | some r=>decide (r.c=base+(0+1+i)) | none=>true
def znm (key:J2): ∀(A:List Ar) (e:Aa),engV e=true->(repS key e A).2=true->engV (repS key e A).1=true
 | [],e,h,_=>h
 | r::A,e,h,a=>by
   simp only[repS]at a |-
   cases b:(openB key r.B r.c r.P).2&&(putR e (openB key r.B r.c r.P).1).2 with
   | false=>rw[b]at a;cases a
   | true=>rw[b]at a;exact znm key A _ (zur h _) a
structure smallT (t:Am):Prop where
 mem:t.b.x.length<=1048576
 tables:t.b.s.length<=1048576
 total:totalV t.b.s<=1048576
 snaps:t.b.A.length<=1048576
structure smallS (s:Af):Prop where
 each: ∀t∈s.a,smallT t
 rows:s.D.length<=1048576
 text: ∀r∈s.D,r.P.length<=1048576
 tens:s.a.length<=1048576
 slots:s.m.t.length<=1048576
 shares:s.u.j.length<=1048576
 hist:s.I.length<=1048576
theorem zkI (p:α->Bool) (l:List α):(∃j,∃a:j<l.length,fstV p l=(j:Int)/\p l[j]=true/\∀i (hi:i<j),p (l[i]'(by omega))=false)\/(fstV p l= -1/\∀x∈l,p x=false):=by
 unfold fstV;cases h:l.findIdx? p with
 | none=>exact .inr ⟨rfl,by simp_all⟩
 | some j=>obtain ⟨a,b,c⟩:=Kn.1 h;grind
def wholeO (l:List α) (k:Nat) (ls:List (Option α)):Prop:=ls.length=l.length/\∀i (hi:i<l.length),k<=i->ls[i]? =some (some l[i])
def zvo (l:List α):wholeO l 0 (l.map some):=⟨by simp,λi hi _=>by simp[hi]⟩
def zp6 {l:List α} (h:wholeO l k ls) (a:k<l.length):idx ls (k:Int)=some (some l[k]):=by unfold idx;exact h.2 k a (Ji _)
def zkC {l:List α} (h:wholeO l k ls):wholeO l (k+1) ls:=⟨h.1,λi hi a=>h.2 i hi (by omega)⟩
def zlV {l:List α} {o:Option α} (h:wholeO l k ls) (b:j<k):wholeO l k (ls.set j o):=
 ⟨by rw[List.length_set,h.1],λi hi a=>by rw[Mw (by omega)];exact h.2 i hi a⟩
theorem zdd (p:α->Bool) (l:List α) (k:Nat) (a:k<l.length):(l.take (k+1)).filter p=(l.take k).filter p++(if p l[k]=true then [l[k]] else []):=by rw[zX l k a,Jp];grind
theorem zj0: ∀s u:J2,(cmpS s u<0↔sLt s u=true)/\(cmpS s u=0↔s=u)
 | [],[]=>by trivial
 | [],_::_=>by simp[cmpS,Lib.compareBytes,sLt,Op.bytesLess]
 | _::_,[]=>by simp[cmpS,Lib.compareBytes,sLt,Op.bytesLess]
 | a::s,b::u=>by
   have ih:=zj0 s u;have c:cmpS (a::s) (b::u)=if a<b then -1 else if b<a then 1 else cmpS s u:=rfl
   have d:sLt (a::s) (b::u)=(Dc (a<b)||(a == b&&sLt s u)):=rfl;grind
theorem zo8 (m:List KV) (key:J2) (o:srtK m) (hl:m.length<=1048576): ∃j,∃f:j<=m.length,(∀i (hi:i<m.length),i<j->sLt m[i].g key=true)/\(∀i (hi:i<m.length),j<=i->sLt m[i].g key=false)/\
 zeW m key=some ((j:Int),if h:j<m.length then Dc (m[j].g=key) else false):=by
 obtain ⟨j,f,d,p,q⟩:=bisect (ρ:=Int × Bool) m (λx=>zdN x key) (λx=>cmpS x.g key) (λx _=>rfl) hl;have k: ∀a b (l:a<m.length) (d:b<m.length),a<b->sLt m[a].g m[b].g=true:=λa b l d s=>Jc.1 o a b l d s;refine ⟨j,f,λi hi t=>?_,λi hi t=>?_,?_⟩
 ·have n:=(zj0 _ _).1.1 (p (j - 1) (by omega) (by omega));by_cases e:i=j - 1
  ·simp_all
  ·exact zcD (k i (j - 1) hi (by omega) (by omega)) n
 ·have c:j<m.length:=by omega
  have n:=q c;cases u:sLt m[i].g key with
  | false=>rfl
  | true=>
    have v:sLt m[j].g key=true:=by
     by_cases e:j=i
     ·simp_all
     ·exact zcD (k j i c hi (by omega)) u
    have:=(zj0 _ _).1.2 v;omega
 ·unfold zeW z7;rw[d];simp only[ze];by_cases c:j<m.length
  ·rw[dif_pos c,iP,zb m j c];have e:zdN m[j] key=some (cmpS m[j].g key):=rfl;simp only[Is,e];rw[decide_eq_decide.2 (zj0 m[j].g key).2]
  ·grind
def zua (a:srtK m) (j:Nat) (b:j<m.length):(m.drop (j+1)).filter (λx=>!Dc (x.g=m[j].g))=m.drop (j+1):=by
 rw[Jz];intro x c;obtain ⟨i,hi,rfl⟩:=Je c;rw[Kr]at hi;have:=Jc.1 a j (j+1+i) b (by omega) (by omega);have d: ¬(m[j+1+i]).g=m[j].g:=λh=>by rw[h,zbO]at this;trivial
 simp_all
def zqg (j:Nat) (b: ∀i (hi:i<m.length),j<=i->¬m[i].g=key):(m.drop j).filter (λx=>!Dc (x.g=key))=m.drop j:=by rw[Jz];intro x a;obtain ⟨i,hi,rfl⟩:=Je a;simp_all
def zrj (a:srtK m) (j:Nat) (b: ∀i (hi:i<m.length),j<=i->sLt m[i].g key=false) (c: ∀d:j<m.length,¬m[j].g=key): ∀i (hi:i<m.length),j<=i->¬m[i].g=key:=by
 intro i hi f h;by_cases e:i=j
 ·simp_all
 ·have k:=Jc.1 a j i (by omega) hi (by omega);simp_all
theorem zsv (b: ∀i (hi:i<m.length),i<j->sLt m[i].g key=true): ∀x∈m.take j,sLt x.g key=true:=by intro x a;obtain ⟨i,hi,rfl⟩:=Je a;grind
def zsu (b: ∀i (hi:i<m.length),j<=i->sLt m[i].g key=false): ∀x∈m.drop j,sLt x.g key=false:=by intro x a;obtain ⟨i,hi,rfl⟩:=Je a;simp_all
theorem zuK (m:List KV) (key:J2) (c:srtK m) (hl:m.length<=1000000):zg3 m key=some (putK m ⟨key,true,[]⟩):=by
 obtain ⟨j,q,e,d,f⟩:=zo8 m key c (by omega);unfold zg3;rw[f,Is,zlI (o:=⟨key,true,[]⟩) j (zsv e) (zsu d)];by_cases a:j<m.length
 ·rw[dif_pos a];by_cases b:m[j].g=key
  ·rw[dT b,iP rfl];unfold zeB;rw[za (n:=(j:Int)+1)];have h:piece m (j:Int) ((j:Int)+1)=some ((m.drop j).take 1):=by unfold piece;grind
   have k:piece m 0 (j:Int)=some (m.take j):=by unfold piece;simp_all
   have l:piece m ((j:Int)+1) (m.length:Int)=some (m.drop (j+1)):=by unfold piece;rw[iP ⟨by omega,by omega,by omega⟩,show ((j:Int)+1).toNat=j+1 by omega,Iy,Jo (by simp)]
   simp only[h,k,l,Is];rw[dF];have p:=zua c j a;subst b;simp only[Iu,iF,Is,newK,cT,Jr];rw[Iw a,Ll,iN (by simp),p]
  ·rw[dF b,iN (by simp),zqg j (zrj c j d λ_=>b)];simp[newK]
 ·rw[dif_neg a,iN (by simp),zqg j (λi hi s=>by omega)];simp[newK]
theorem zwj (m:List KV) (key val:J2) (c:srtK m) (hl:m.length<=1000000):zhY m key val=some (putK m ⟨key,false,val⟩):=by
 obtain ⟨j,n,e,d,f⟩:=zo8 m key c (by omega);unfold zhY;rw[f,Is,zlI (o:=⟨key,false,val⟩) j (zsv e) (zsu d)];have k: ∀h: ∀i (hi:i<m.length),j<=i->¬m[i].g=key,zc4 m (j:Int) [(⟨key,val⟩:KV)]=some (m.take j++(newK ⟨key,false,val⟩++(m.drop j).filter λx=>!Dc (x.g=key))):=by intro h;unfold zc4 ins;rw[iP ⟨by omega,by omega,by grind,by grind⟩,Iy,zqg j h];rfl
 by_cases a:j<m.length
 ·rw[dif_pos a];by_cases b:m[j].g=key
  ·rw[dT b,iP rfl,zb m j a];have l:=zua c j a;subst b;simp only[Is,Iy,newK,cF];rw[Iw a,Ll,iN (by simp),l,List.set_eq_take_append_cons_drop,iP a];rfl
  ·rw[dF b,iN (by simp),k (zrj c j d λ_=>b)];rfl
 ·grind
theorem zph (m:List KV) (l:List Op) (c:srtK m) (hl:m.length<=100000) (e:l.length<=1000):zg1 m l=some (applyK m l):=by
 unfold zg1 ze4;rw[zf (by grind) (by grind)];refine zI (λk (S:Int × List KV)=>S=((k:Int),applyK m (l.take k))) l.length (λr=>r= .go (applyK m l)) rfl ?_ ?_ (λr f=>by simp_all)
 ·rintro k _ a rfl;left;have d:=ziM (l.take k) m;rw[Mp]at d;simp only[zb l k a,Is];rw[iP,za (n:=(k:Int)+1),zX l k a,show applyK m (l.take k++ [l[k]])=putK (applyK m (l.take k)) l[k] by simp only[applyK,Mf,Nn,Nt]];have hs:=zlk (l.take k) c;cases b:l[k].M with
  | true=>
    rw[iP rfl,zuK _ _ hs (by omega)];have:putK (applyK m (l.take k)) ⟨l[k].g,true,[]⟩=putK (applyK m (l.take k)) l[k]:=by simp only[putK,newK,b,cT]
    simp_all
  | false=>
    rw[iN (by simp),zwj _ _ _ hs (by omega)];have:putK (applyK m (l.take k)) ⟨l[k].g,false,l[k].J⟩=putK (applyK m (l.take k)) l[k]:=by simp only[putK,newK,b,cF]
    simp_all
 ·simp
theorem zhT {α:Type} (q:α->Bool): ∀l:List α,(l.takeWhile q).length<=l.length/\(∀i (hi:i<l.length),i<(l.takeWhile q).length->q l[i]=true)/\(∀h:(l.takeWhile q).length<l.length,q l[(l.takeWhile q).length]=false)
 | []=>⟨Ji _,λi hi=>absurd hi (by simp),λh=>absurd h (by simp)⟩
 | x::l=>by
   obtain ⟨b,c,d⟩:=zhT q l;cases a:q x with
   | false=>simp_all
   | true=>simp only[Lo,a,iT,Kp];grind
theorem zp5 (p:α->Bool) (l:List α) (hl:l.length<=1048576) {body:Int->Option (Ctl Int (Ctl Int R))} (c: ∀k (b:k<l.length),body (k:Int)=if p l[k]=true then some (.go (J7 ((k:Int)+1))) else some (.done (.go (k:Int)))) (f:body (l.length:Int)=some (.done (.go (l.length:Int)))):
 loopO body 0=some (.go (((l.takeWhile p).length:Nat):Int)):=by
 obtain ⟨d,t2,e⟩:=zhT p l;generalize (l.takeWhile p).length=a at d t2 e;refine zh (λk=>(k:Int)) a rfl (λk b=>?_) ?_
 ·rw[c k (by omega),iP (t2 k (by omega) b),za];rfl
 ·grind
theorem zwK (p:α->Bool) (l:List α) (hl:l.length<=1048576) (a:Nat) (q:a<l.length) (s:p l[a]=true) (B: ∀i (hi:i<a),p (l[i]'(by omega))=false) {g:α->Option Bool} (t: ∀x,g x=some (p x)) {body:Int × Int × List (Option α)->Option (Ctl (Int × Int × List (Option α)) (Ctl (Int × List (Option α)) R))} {f:Int × List (Option α)->Option R} (j:body=λ(E:Int × Int × List (Option α))=>if Dc (E.2.1<(E.2.2.length:Int)) then ((idx E.2.2 E.2.1).bind λI=>
 (I).bind λF=>
 (g F).bind λJ=>
 bindC (if !J then ((idx E.2.2 E.1).bind λM=>
 (idx (E.2.2.set E.2.1.toNat none) E.1).bind λO=>
 some (.go (J7 (E.1+1),((E.2.2.set E.2.1.toNat none).set E.1.toNat (some F)))))
 else (some (.go (E.1,E.2.2))))
 (λ(G:Int × List (Option α))=>some (.go (G.1,J7 (E.2.1+1),G.2))))
 else (some (.done (.go (E.1,E.2.2))))) (C: ∀(i:Nat) ls,ls.length=l.length->i<=l.length->ls.take i=(l.filter λx=>!p x).map some->f ((i:Int),ls)=some z):bindC (loopO body ((a:Int),J7 ((a:Int)+1),l.map some)) f=some z:=by
 refine zI (λk (S:Int × Int × List (Option α))=>∃i:Nat,S.1=(i:Int)/\S.2.1=((a+1+k:Nat):Int)/\i<a+1+k/\wholeO l (a+1+k) S.2.2/\S.2.2.take i=((l.take (a+1+k)).filter λx=>!p x).map some) (l.length - (a+1))
  (λr=>∃i ls,r= .go (((i:Nat):Int),ls)/\ls.length=l.length/\i<=l.length/\ls.take i=(l.filter λx=>!p x).map some) ?_ ?_ ?_ ?_
 ·refine ⟨a,rfl,by simp only;rw[za];omega,by omega,⟨by simp,λi hi _=>by simp⟩,?_⟩;rw[Nz,zdd _ l a q,s];simp only[Iz,Iu,iF,Jk];rw[Jz.2,Ml];intro x u;obtain ⟨i,hi,rfl⟩:=Je u;grind
 ·rintro k ⟨v,w,ls⟩ D ⟨i,d,e,m,b,c⟩;subst d e;left;have h:a+1+k<l.length:=by omega
  rw[j];simp only[zp6 b h,Is,t];rw[iP (dT (by rw[b.1];omega)),za (n:=((a+1+k:Nat):Int)+1),show ((a+1+k:Nat):Int)+1=((a+1+(k+1):Nat):Int) by omega];have y:i<ls.length:=by rw[b.1];omega
  have A:i<(ls.set (a+1+k) none).length:=by simp_all
  cases o:p l[a+1+k] with
  | true=>refine ⟨_,rfl,i,rfl,rfl,by omega,zkC b,?_⟩;rw[c,show a+1+(k+1)=(a+1+k)+1 by omega,zdd _ l (a+1+k) h,o];simp
  | false=>simp only[Jm,iT,Iy,zb ls i y,zb (ls.set (a+1+k) none) i A,Is,ze];rw[za (n:=(i:Int)+1)];refine ⟨_,rfl,i+1,by simp,rfl,by omega,zlV (zlV (zkC b) (by omega)) (by omega),?_⟩;rw[zX _ i (by simp_all),Kc,Lm (Ji _),Lm (by omega),c,show a+1+(k+1)=(a+1+k)+1 by omega,zdd _ l (a+1+k) h,o];simp
 ·rintro ⟨v,w,ls⟩ ⟨i,d,e,m,b,c⟩;subst d e;have T:a+1+(l.length - (a+1))=l.length:=by omega
  rw[T]at m b c |-
  refine ⟨_,by rw[j];exact iN (by rw[b.1];simp),i,ls,rfl,b.1,by omega,by simp_all⟩
 ·simp_all
def zxw (l q:List α) (i:Nat) (ls:List (Option α)) (d:ls.length=l.length) (e:i<=l.length) (a:ls.take i=q.map some):
    ((piece ls (i:Int) (ls.length:Int)).bind λB=>(piece ls 0 (i:Int)).bind λh=>(allO h).bind λA=>some A)=some q:=by
 have b:piece ls (i:Int) (ls.length:Int)=some (ls.drop i):=by unfold piece;rw[iP ⟨by omega,by omega,by omega⟩,Iy,Iy,Jo (by simp)]
 have c:piece ls 0 (i:Int)=some (ls.take i):=by unfold piece;simp_all
 rw[b,c,a];simp[zjX]
def codeR (c:Int):At:=⟨c,0,[],[]⟩
def quoV (d:Int) (s:Ad) (id:Int):Int:=match s.j.find? (λx=>decide (x.q=id)) with
 | some x=>x.S
 | none=>d
def bytesN (m:List KV):Nat:=(m.map λx=>x.g.length+x.J.length).sum
def withinV (key lo hi:J2):Bool:=!sLt key lo&&(Dc (hi= [])||sLt key hi)
def scanV (m:List KV) (lo hi:J2):List KV:=m.filter λx=>withinV x.g lo hi
def setR (s:Ad) (t q:Int):Ad × Bool:=(zby s t q).getD (⟨0,[]⟩,false)
def zhw (s:Ad) (t q:Int) (h:s.j.length<=1048576):zby s t q=some (setR s t q):=by obtain ⟨r,a,b,_⟩:=zlW s t q h;unfold setR;rw[a];rfl
def zj4 (s:Ad) (t q:Int) (h:s.j.length<=1048576):zb7 s t q=some (setR s t q):=by obtain ⟨r,a,b,_⟩:=zlW s t q h;unfold setR;rw[a,b];rfl
def zuV (n:Int):zbx n=some (Dc (1<=n/\n<=99)):=by unfold zbx;rw[z6];rfl
def zrg (n:Int):zeY n=some (Dc (0<=n/\n<=40)):=by unfold zeY;rw[z6];rfl
def no_R (c:Int):zbq c=some (codeR c):=rfl
def zgC (c:Int):zF c=some (codeR c):=rfl
theorem zrb (p:α->Bool) (l:List α) (hl:l.length<=1048576) {body:Int->Option (Ctl Int (Ctl Unit R))} (g:α->R) {f:Unit->Option R} (b:f ()=some z) (h: ∀k (a:k<l.length),body (k:Int)=if p l[k]=true then some (.done (.done (g l[k]))) else some (.go (J7 ((k:Int)+1)))) (c:body (l.length:Int)=some (.done (.go ()))):
 bindC (loopO body 0) f=some (match l.find? p with | some x=>g x | none=>z):=by
 refine zI (λk S=>S=(k:Int)/\∀i (hi:i<l.length),i<k->p l[i]=false) l.length (λr=>(r= .go ()/\l.find? p=none)\/∃x,l.find? p=some x/\r= .done (g x)) ⟨rfl,λi _ h=>by omega⟩ ?_ ?_ ?_
 ·rintro k _ a ⟨rfl,d⟩;rw[h k a];cases m:p l[k] with
  | true=>right;refine ⟨_,iP rfl,.inr ⟨l[k],?_,rfl⟩⟩;rw[List.find?_eq_some_iff_getElem];grind
  | false=>left;refine ⟨_,iN (by simp),by rw[za];omega,λi hi n=>?_⟩;grind
 ·rintro _ ⟨rfl,d⟩;refine ⟨_,c,.inl ⟨rfl,?_⟩⟩;rw[List.find?_eq_none];intro x j;obtain ⟨i,hi,rfl⟩:=Je j;simp_all
 ·rintro r (⟨rfl,e⟩ | ⟨x,e,rfl⟩)
  ·rw[e];exact b
  ·simp_all
theorem zpk (s:Ad) (id:Int) (h:s.j.length<=1048576):zg5 s id=some (quoV 0 s id):=by
 unfold zg5 quoV;refine (zrb (λx:A5=>decide (x.q=id)) s.j h A5.S rfl (λk a=>?_) (by simp)).trans ?_
 ·simp only[zb s.j k a,Is];simp_all
 ·grind
theorem zoU (s:Ad) (id:Int) (h:s.j.length<=1048576):zgd s id=some (quoV (-1) s id):=by
 unfold zgd quoV;refine (zrb (λx:A5=>decide (x.q=id)) s.j h A5.S rfl (λk a=>?_) (by simp)).trans ?_
 ·simp only[zb s.j k a,Is];simp_all
 ·grind
def zsK {x:KV} (h:kvV x=true):x.g.length<=10/\x.J.length<=16:=by obtain ⟨⟨_,a⟩,b,_⟩:=zjg (o:=⟨x.g,false,x.J⟩) h;trivial
def znW (m:List KV) (k:Nat) (a:k<m.length):bytesN (m.take (k+1))=bytesN (m.take k)+(m[k].g.length+m[k].J.length):=by unfold bytesN;rw[zX m k a,Kq,List.sum_append];rfl
theorem zvz (m:List KV) (a: ∀x∈m,kvV x=true):bytesN m<=26*m.length:=by
 induction m with
 | nil=>exact Ji _
 | cons x m ih=>have b:=zsK (a x (by simp));have c:bytesN (x::m)=(x.g.length+x.J.length)+bytesN m:=rfl;grind
theorem zlX (m:List KV) (a: ∀x∈m,kvV x=true) (k:Nat):bytesN (m.take k)<=26*m.length:=by have:=zvz (m.take k) λx b=>a x (List.mem_of_mem_take b);grind
def zj6 (m:List KV) (b: ∀x∈m,kvV x=true) (h:m.length<=1048576):zg2 m=some (bytesN m:Int):=by
 refine zI (λk (S:Int × Int)=>S=((bytesN (m.take k):Int),(k:Int))) m.length (λr=>r= .go (bytesN m:Int)) rfl ?_ ?_ (λr c=>by simp_all)
 ·rintro k _ a rfl;left;refine ⟨_,?_,rfl⟩;have d:=zsK (b m[k] (Iv a));have e:=zlX m b k;simp only[zb m k a,Is];rw[iP,za (n:=(m[k].g.length:Int)+(m[k].J.length:Int)),za,za (n:=(k:Int)+1),znW m k a];rfl
 ·simp
theorem zl5 (m:List KV) (c:srtK m) (a: ∀x∈m,kvV x=true) (h:m.length<=1000000):zi5 m=some (bytesN m:Int):=by
 refine zI (λk (S:Int × Int)=>S=((bytesN (m.take k):Int),(k:Int))) m.length (λr=>r= .go (bytesN m:Int)) rfl ?_ ?_ (λr d=>by simp_all)
 ·rintro k _ b rfl;left;have e:=zsK (a m[k] (Iv b));have f:=zlX m a k;simp only[zb m k b,Is,zlh m c a h];rw[iP,Is,iP rfl,za (n:=(bytesN (m.take k):Int)+(m[k].g.length:Int)) (by omega) (by omega),za,za (n:=(k:Int)+1),znW m k b];grind
 ·simp
theorem zxn (key lo hi:J2):zfT key lo hi=some (withinV key lo hi):=by unfold zfT withinV;grind
theorem zuX (key lo hi:J2):zet key lo hi=some (withinV key lo hi):=by unfold zet withinV;grind
theorem zrD (p:KV->Bool) (l:List KV) (hl:l.length<=1048576) {body:Int × List KV->Option (Ctl (Int × List KV) (Ctl (List KV) R))} {f:List KV->Option R} {g:KV->Option Bool} (b: ∀x,g x=some (p x)) (c:body=λ(S1:Int × List KV)=>if Dc (S1.1<(l.length:Int)) then ((idx l S1.1).bind λD=>
 (g D).bind λE=>
 bindC (if E=true then ((app 32 S1.2 ([D])).bind λA=>
 some (.go A))
 else (some (.go S1.2)))
 (λ(B:List KV)=>some (.go (J7 (S1.1+1),B))))
 else (some (.done (.go S1.2)))) (d:f (l.filter p)=some z):bindC (loopO body ((0:Int),([]:List KV))) f=some z:=by
 refine zI (λk (S:Int × List KV)=>S=((k:Int),(l.take k).filter p)) l.length (λr=>r= .go (l.filter p)) rfl ?_ ?_ (λr e=>by simp_all)
 ·rintro k _ a rfl;left;refine ⟨_,?_,rfl⟩;rw[c];simp only[zb l k a,Is,b];rw[iP,za (n:=(k:Int)+1),zdd p l k a];cases h:p l[k] with
  | true=>rw[zf (by grind) (by grind)];rfl
  | false=>simp
 ·simp_all
def zpi (m:List KV) (lo hi:J2) (h:m.length<=1048576):zjs m lo hi=some (scanV m lo hi):=by exact zrD (λx=>withinV x.g lo hi) m h (g:=λx=>zfT x.g lo hi) (λx=>zxn _ _ _) rfl rfl
def zpV (m:List KV) (lo hi:J2) (h:m.length<=1048576):zjL m lo hi=some (scanV m lo hi):=by exact zrD (λx=>withinV x.g lo hi) m h (g:=λx=>zet x.g lo hi) (λx=>zuX _ _ _) rfl rfl
def zxY {s:Ad} (h:sharesV s=true):s.j.length<=4:=((zf1 s).1 h).2.1
def zuI (l:List α) (k:Nat) (a:k<=l.length):cutO (l.map some) (0:Int) (k:Int)=some (l.take k,Ls k none++(l.drop k).map some):=by unfold cutO;rw[iP ⟨by omega,by omega,by simp_all⟩];simp only[Iy,Int.toNat_zero,Oa,Mv,List.take_zero,Jr,<-Ml,zjX,Nq,<-Mm,List.map_nil,Jr]
theorem ztw (l:List α) (k:Nat) (a:k<l.length): ∃h,cutO (Ls k none++(l.drop k).map some) ((k:Int)+1) (l.length:Int)=some (l.drop (k+1),h):=by
 unfold cutO;rw[iP ⟨by omega,by omega,by grind⟩];have e:((Ls k (none:Option α)++(l.drop k).map some).drop ((k:Int)+1).toNat).take ((l.length:Int).toNat - ((k:Int)+1).toNat)=(l.drop (k+1)).map some:=by rw[show ((k:Int)+1).toNat=k+1 by omega,Iy,List.drop_append,Ms (by simp),Jr,List.length_replicate,show k+1 - k=1 by omega,<-Mm,Ky,Jo (by simp)]
 rw[e,zjX];simp
theorem set_loop (g:α->α) (l:List α) (hl:l.length<=1000000) (b: ∀k (us:List α),k<l.length->us.length=l.length->body ((k:Int),us)=(idx us (k:Int)).bind λE=>some (.go (J7 ((k:Int)+1),us.set ((k:Nat):Int).toNat (g E)))) (e: ∀us:List α,us.length=l.length->body ((l.length:Int),us)=some (.done (.go us))) (h:f (l.map g)=some z):bindC (loopO body ((0:Int),l)) f=some z:=by
 refine zI (λk (S:Int × List α)=>S=((k:Int),(l.take k).map g++l.drop k)) l.length (λr=>r= .go (l.map g)) rfl ?_ ?_ (λr i=>by simp_all)
 ·rintro k _ a rfl;left;have c:((l.take k).map g++l.drop k).length=l.length:=by grind
  have d:((l.take k).map g++l.drop k)[k]'(by omega)=l[k]:=by grind
  rw[b k _ a c,zb _ k (by omega),Is,d,Iy,za (n:=(k:Int)+1)];congr 3;rw[zX l k a,Kq,Mu _ _ (by grind),Ma,Mp,show k - min k l.length=0 by omega,Iw a,Mz];simp
 ·simp_all
structure smC (c:As):Prop where
 tok:c.R.length<=1048576
 ops:c.Q.length<=1048576
 num: -9223372036854775808<=c.N/\c.N<=9223372036854775807
theorem zs8 {s:Ad} (t:Int) (a:sharesV s=true):sharesV {s with j:=dropT s.j t} =true:=by
 obtain ⟨b,g,c,d,e⟩:=(zf1 s).1 a;have hs:=zn1 (λx=>!Dc (x.q=t)) s.j;have hl:(dropT s.j t).length<=s.j.length:=Kd _ _;rw[zf1];refine ⟨b,by grind,λx f=>c x (Jj.1 f).1,d.filter _,?_⟩;unfold allNeed at e |-
 simp only;unfold dropT at hl |-
 omega
def zuM {s:Ad} (t:Int) (a:sharesV s=true):(shareDropR s t).1= {s with j:=dropT s.j t}:=by
 unfold shareDropR;rw[iP a];split
 ·rename_i h;have:dropT s.j t=s.j:=Jz.2 (List.length_filter_eq_length_iff.1 h);simp_all
 ·rfl
def zc8 {α β:Type} (f:α->β) (p:α->Bool) (q:β->Bool) (h: ∀x,p x=q (f x)): ∀l:List α,(l.filter p).map f=(l.map f).filter q
 | []=>rfl
 | x::l=>by
   rw[Ll,Ld,Ll,<-h x];cases p x with
   | true=>simp only[iT,Ld,zc8 f p q h l]
   | false=>simp only[Iu,iF,zc8 f p q h l]
def zvK (id:Int) (l:List A5):(dropT l id).map A5.q=(l.map A5.q).filter λx=>!Dc (x=id):=zc8 A5.q (λx=>!Dc (x.q=id)) (λx=>!Dc (x=id)) (λ_=>rfl) l
theorem zry (s:Ad) (t q:Int) (a:sharesV s=true) (g:(setR s t q).2=true): ∃L M R:List A5,s.j=L++(M++R)/\(∀y∈L,y.q<t)/\(∀y∈R,t<y.q)/\(M= []\/∃m:A5,M= [m]/\m.q=t)/\
 sharesV (setR s t q).1=true/\(setR s t q).1.j=L++(⟨t,q⟩::R)/\(setR s t q).1.G=s.G:=by have h:=zxY a;obtain ⟨L,M,R,b,c,d,e,f⟩:=zrN s t q a (by omega);refine ⟨L,M,R,b,c,d,e,?_⟩;rw[zhw s t q (by omega)]at f;grind
def keyP (l:List A6) (k:Nat):Bool:=match l[k]? with
 | some x=>decide (1<=x.q/\x.q<=99)&&(Dc (x.g.length=32)&&(match k with | 0=>true | j+1=>match l[j]? with | some d=>decide (d.q<x.q) | none=>true))
 | none=>true
theorem zni (l:List A6) (k:Nat) (h:k<l.length):keyP l k=(Dc (1<=l[k].q/\l[k].q<=99)&&(Dc (l[k].g.length=32)&&(if a:0<k then Dc ((l[k - 1]'(by omega)).q<l[k].q) else true))):=by unfold keyP;grind
def keysC (d:A7):Bool:=Dc (d.L.length=32)&&(Dc (d.t.length<=4)&&(Dc (0<=d.H/\d.H<=1000000)&&(Nr d.t.length).all (keyP d.t)))
theorem zp8 (d:A7):zbl d=some (keysC d):=by
 unfold zbl keysC;simp only[zbe,Is,len32];cases Dc (d.L.length=32) with
 | false=>rfl
 | true=>
 by_cases f:d.t.length<=4
 ·rw[dT f,dF];by_cases h:0<=d.H/\d.H<=1000000
  ·rw[dT h];rw[zli (keyP d.t) d.t.length ?hp ?hq]
   case hq=>simp
   case hp=>
    intro k b
    simp only[zb d.t k b,Is]
    rw[iP,za (n:=(k:Int)+1),zni d.t k b]
    by_cases a:1<=d.t[k].q/\d.t[k].q<=99
    ·by_cases c:d.t[k].g.length=32
     ·rw[dT a,dT c];by_cases i:0<k
      ·have j:J7 ((k:Int) - 1)=((k - 1:Nat):Int):=by rw[za];omega
       rw[dif_pos i,iN (by simp),iN (by simp),iP];simp only[j,zb d.t (k - 1) (by omega),Is];by_cases e:(d.t[k - 1]'(by omega)).q<d.t[k].q
       ·simp[e,show ¬d.t[k].q<=(d.t[k - 1]'(by omega)).q by omega]
       ·simp[e,show d.t[k].q<=(d.t[k - 1]'(by omega)).q by omega]
      ·obtain rfl:k=0:=by omega
       simp
     ·rw[dT a,dF c];simp
    ·rw[dF a];simp
   cases (Nr d.t.length).all (keyP d.t) with
   | false=>rfl
   | true=>rfl
  ·grind
 ·grind
def zqw (d:A7):keysV d=keysC d:=by unfold keysV;rw[zp8];rfl
theorem zbH (d:A7):keysV d=true↔d.L.length=32/\d.t.length<=4/\(0<=d.H/\d.H<=1000000)/\(∀x∈d.t,(1<=x.q/\x.q<=99)/\x.g.length=32)/\d.t.Pairwise (λa b=>a.q<b.q):=by
 rw[zqw];unfold keysC;simp only[Jf,Lw,decide_eq_true_eq];constructor
 ·rintro ⟨e,f,h,l⟩;have c: ∀k (c:k<d.t.length),_:=λk c=>l k (by simp_all);have y: ∀(j:Nat) (m:j<d.t.length) (i:Nat) (hi:i<j),(d.t[i]'(by omega)).q<d.t[j].q:=by
   intro j;induction j with
   | zero=>intro _ i hi;omega
   | succ j ih=>
     intro m i hi;have e:(d.t[j]'(by omega)).q<d.t[j+1].q:=by have:=c (j+1) m;rw[zni d.t (j+1) m,dif_pos (by omega)]at this;simp_all
     grind
  refine ⟨e,f,h,λx s=>?_,?_⟩
  ·obtain ⟨k,o,rfl⟩:=Je s;have:=c k o;rw[zni d.t k o]at this;simp_all
  ·rw[Jc];grind
 ·rintro ⟨e,f,h,l,p⟩;rw[Jc]at p;refine ⟨e,f,h,λk c=>?_⟩;have n:k<d.t.length:=by simp_all
  obtain ⟨u,v⟩:=l _ (Iv n);rw[zni d.t k n,dT u,dT v];by_cases w:0<k
  ·rw[dif_pos w];exact dT (p (k - 1) k (by omega) n (by omega))
  ·simp_all
theorem zkf (a:keysV d=true) {x:A6} (b:x∈d.t):keyOfV d x.q=x.g:=by
 obtain ⟨_,_,_,_,c⟩:=(zbH d).1 a;unfold keyOfV;rw[a];cases e:d.t.findIdx? (λy=>decide (y.q=x.q)) with
 | none=>grind
 | some j=>obtain ⟨f,h,_⟩:=Kn.1 e;obtain ⟨i,hi,rfl⟩:=Je b;rw[Jc]at c;grind
def placeK (l:List A6) (id:Int):Nat:=(l.takeWhile λx=>decide (x.q<id)).length
def addKS (d:A7) (id:Int) (key:J2):A7:=⟨d.L,d.t.take (placeK d.t id)++(⟨id,key⟩::d.t.drop (placeK d.t id)),d.H⟩
def wipeKS (d:A7) (id:Int):A7:={L:=d.L,t:=d.t.filter λx=>!Dc (x.q=id),H:=d.H+1}
theorem zyv (q:α->Bool) (l:List α):(∀x∈l.take (l.takeWhile q).length,q x=true)/\(∀h:(l.takeWhile q).length<l.length,q l[(l.takeWhile q).length]=false):=by
 induction l with
 | nil=>exact ⟨λx b=>by trivial,λh=>by trivial⟩
 | cons a l ih=>rw[Lo];grind
theorem zs2 {l:List A6} {id:Int} (d:l.Pairwise λa b=>a.q<b.q) (g: ∀x∈l,¬x.q=id):(∀x∈l.take (placeK l id),x.q<id)/\(∀x∈l.drop (placeK l id),id<x.q):=by
 obtain ⟨e,f⟩:=zyv (λx:A6=>decide (x.q<id)) l;refine ⟨λx c=>of_decide_eq_true (e x c),λx c=>?_⟩;obtain ⟨i,hi,rfl⟩:=Je c;rw[Lf];rw[Kr]at hi;have hl:placeK l id<l.length:=by omega
 have h: ¬l[placeK l id].q<id:=of_decide_eq_false (f hl);rw[Jc]at d;by_cases j:i=0
 ·grind
 ·have:=d (placeK l id) (placeK l id+i) hl (by omega) (by omega);omega
def zs1 {R:α->α->Prop} {A B:List α} {x:α} (h:(A++B).Pairwise R) (D: ∀a∈A,R a x) (E: ∀b∈B,R x b):(A++x::B).Pairwise R:=by
 rw[Kh]at h |-
 simp_all
theorem zob {id:Int} (b:keysV d=true) (hi:1<=id/\id<=99) (j:key.length=32) (hl:d.t.length<4) (c: ∀x∈d.t,¬x.q=id):keysV (addKS d id key)=true:=by
 obtain ⟨e,k,f,l,g⟩:=(zbH d).1 b;rw[zbH];obtain ⟨h,i⟩:=zs2 g c;refine ⟨e,?_,f,λx a=>?_,?_⟩
 ·show (d.t.take _++_::d.t.drop _).length<=4;grind
 ·rcases Jx.1 a with a | a
  ·grind
  ·grind
 ·exact zs1 (by simp_all) h i
def zwz (id:Int) (a:keysV d=true) (h:d.H<1000000):keysV (wipeKS d id)=true:=by obtain ⟨b,c,i,e,f⟩:=(zbH d).1 a;rw[zbH];refine ⟨b,Ku (Kd _ _) c,?_,λx g=>e x (Jj.1 g).1,f.filter _⟩;show 0<=d.H+1/\d.H+1<=1000000;omega
structure tenP (key:J2) (rows:List Ar) (t:Am):Prop where
 ep:0<=t.K/\t.K<=1000000
 base:0<=t.O/\t.O<=1000000
 snaps:t.b.A.length<=2
 tabs:t.b.s.length<=1
 eng:engV t.b=true
 few:rows.length<=6
 seq:t.O+(rows.length:Int)=t.b.c
 seqs:seqsV t.O rows=true
 start:engV (rep0 t)=true
 runs:(repS key (rep0 t) rows).2=true
 mem:(repS key (rep0 t) rows).1.x=t.b.x
structure storeP (s:Af):Prop where
 secret:s.F.length=32
 keys:keysV s.m=true
 shares:sharesV s.u=true
 boot:0<=s.B/\s.B<=1000
 hist:s.I.length<=120
 slots:s.a.map Am.r=s.m.t.map A6.q
 ids:s.a.map Am.r=s.u.j.map A5.q
 tens: ∀t∈s.a,tenP (keyOfV s.m t.r) (rowsV s t.r) t
 rows: ∀r∈s.D,∃t∈s.a,t.r=r.q
theorem zgJ (base:Int) (h:List Ar):seqsV base h=true↔∀i (hi:i<h.length),h[i].c=base+1+i:=by
 unfold seqsV;constructor
 ·simp_all;omega
 ·grind
def zh0 (key:J2): ∀(a b:List Ar) (e:Aa),repS key e (a++b)=bif (repS key e a).2 then repS key (repS key e a).1 b else (⟨[],[],0,[]⟩,false)
 | [],b,e=>rfl
 | r::a,b,e=>by
   simp only[Kz,repS];cases (openB key r.B r.c r.P).2&&(putR e (openB key r.B r.c r.P).1).2 with
   | false=>rfl
   | true=>exact zh0 key a b _
def zlK (key:J2): ∀(D:List Ar) (e:Aa),(repS key e D).2=true->(repS key e D).1.s=e.s/\(repS key e D).1.A=e.A/\(repS key e D).1.c=e.c+D.length
 | [],e,_=>⟨rfl,rfl,by simp[repS]⟩
 | r::D,e,h=>by
   simp only[repS]at h |-
   cases d:(openB key r.B r.c r.P).2&&(putR e (openB key r.B r.c r.P).1).2 with
   | false=>rw[d]at h;cases h
   | true=>rw[d]at h;obtain ⟨g,i,j,f⟩:=zlJ (Jf _ _ ▸ d:_/\_).2;obtain ⟨a,b,c⟩:=zlK key D _ h;rw[f]at a b c;simp only[cT];rw[f];refine ⟨a,b,?_⟩;rw[c];simp only[engB,Kp];omega
def cntB (l:List Op):Nat->Nat
 | 0=>0
 | k+1=>match l[k]? with
   | some o=>cntB l k+bif laterV l k o.g then 0 else 1
   | none=>cntB l k
def zsT (l:List Op) (seq:Int) (m:List Ac) (e:ordE m) (hs: ∀x∈m,x.c<seq) (hl:m.length+l.length<=1048576): ∀k,k<=l.length->(memB l seq m k).length=m.length+cntB l k:=by
 intro k;induction k with
 | zero=>intro _;rfl
 | succ k ih=>
   intro q;have a:k<l.length:=by omega
   have b:=ih (by omega);obtain ⟨f,s,h,t⟩:=zgD l seq m e hs hl k (by omega);have i:cntB l (k+1)=cntB l k+bif laterV l k l[k].g then 0 else 1:=by show (match l[k]? with | some o=>_ | none=>_)=_;simp_all
   rw[i];cases d:laterV l k l[k].g with
   | true=>rw[zhm l seq m k a d,b];rfl
   | false=>obtain ⟨j,n,_,p,u⟩:=zoJ (memB l seq m k) (entO l[k] seq) f (by omega) (zoC l seq m _ k a hs h);rw[zoD l seq m k a d,p,Nk,zsG _ _ _ n,b];rfl
def zup (h:engV e=true) (a:batchV l=true):okB e l=true↔e.c+1<=1000000/\e.x.length+cntB l l.length<=60/\totalV e.s+(e.x.length+cntB l l.length)<=400:=by obtain ⟨b,d,f⟩:=zhG h a;unfold okB;rw[zsT l (e.c+1) e.x b d (by omega) l.length (Ji _)];simp
def zof (h:engV e=true) (a:batchV l=true):(engB e l).x.length=e.x.length+cntB l l.length:=by obtain ⟨b,d,f⟩:=zhG h a;exact zsT l (e.c+1) e.x b d (by omega) l.length (Ji _)
def zw7 (key:J2) {A qs:List Ar} (j:qs.Sublist A): ∀(e f:Aa),(repS key e A).2=true->engV f=true->f.s=e.s->f.c<=e.c->f.x.length<=e.x.length->(repS key f qs).2=true:=by
 induction j with
 | slnil=>intro e f _ _ _ _ _;rfl
 | @cons qs A r j ih=>
   intro e f h d g n o;simp only[repS]at h;cases a:(openB key r.B r.c r.P).2&&(putR e (openB key r.B r.c r.P).1).2 with
   | false=>rw[a]at h;cases h
   | true=>
     rw[a]at h;obtain ⟨i,b,l,k⟩:=zlJ (Jf _ _ ▸ a:_/\_).2;rw[k]at h;refine ih _ f h d g ?_ ?_
     ·show f.c<=e.c+1;omega
     ·rw[zof i b];omega
 | @cons_cons qs A r j ih=>
   intro e f h d g n o;simp only[repS]at h |-
   cases a:(openB key r.B r.c r.P).2&&(putR e (openB key r.B r.c r.P).1).2 with
   | false=>rw[a]at h;cases h
   | true=>
     rw[a]at h;have p:=(Jf _ _ ▸ a:_/\_).1;obtain ⟨i,b,l,k⟩:=zlJ (Jf _ _ ▸ a:_/\_).2;rw[k]at h;obtain ⟨t,u,v⟩:=(zup i b).1 l;have m:okB f (openB key r.B r.c r.P).1=true:=by rw[zup d b,g];omega
     have q:putR f (openB key r.B r.c r.P).1=(engB f (openB key r.B r.c r.P).1,true):=by unfold putR;rw[d,b,m];rfl
     rw[q,p];refine ih _ _ h ?_ g ?_ ?_
     ·rw[znf d b];exact m
     ·show f.c+1<=e.c+1;omega
     ·rw[zof i b,zof d b];omega
def tenP.eng_is {rows:List Ar} (h:tenP key rows t):(repS key (rep0 t) rows).1=⟨t.b.x,t.b.s,t.b.c,[]⟩:=by
 obtain ⟨a,b,c⟩:=zlK key rows _ h.runs;have d:=h.mem;have e:=h.seq;generalize (repS key (rep0 t) rows).1=x at a b c d;obtain ⟨g,i,f,j⟩:=x;simp only at a b c d;have c':f=t.b.c:=by rw[c];exact e
 rw[a,b,c',d];rfl
def atE (l:List Am) (id:Int):Int:=fstV (λt=>decide (t.r=id)) l
def tenE (l:List Am) (i:Int):Am:=l.getD i.toNat ⟨0,0,0,⟨[],[],0,[]⟩⟩
def noTE (id:Int) (l:List Am):List Am:=l.filter λt=>!Dc (t.r=id)
def noLR (id:Int) (l:List Ar):List Ar:=l.filter λr=>!Dc (r.q=id)
def ofLR (id:Int) (l:List Ar):List Ar:=l.filter λr=>decide (r.q=id)
def flatE (e:Aa):Aa:=(mergeS (flushS e).2).2
def flushT (t:Am):Am:=⟨t.r,t.K,(flatE t.b).c,flatE t.b⟩
def flushO (s:Af) (i:Int):Af:=⟨s.F,s.m,s.u,s.a.set i.toNat (flushT (tenE s.a i)),noLR (tenE s.a i).r s.D,s.I,s.B⟩
def newTE (id:Int):Am:=⟨id,0,0,⟨[],[],0,[]⟩⟩
def placeE (l:List Am) (id:Int):Nat:=(l.takeWhile λx=>decide (x.r<id)).length
def insTE (l:List Am) (t:Am):List Am:=l.take (placeE l t.r)++(t::l.drop (placeE l t.r))
def createS (s:Af) (c:As):Af × At:=
 bif !Dc (1<=c.q/\c.q<=99)||(!Dc (0<=c.N/\c.N<=40)||(!Dc (c.g.length=32)||decide (atE s.a c.q>=0))) then (s,codeR 1)
 else bif Dc (4<=s.a.length) then (s,codeR 4)
 else bif (setR s.u c.q c.N).2 then (⟨s.F,addKS s.m c.q c.g,(setR s.u c.q c.N).1,insTE s.a (newTE c.q),s.D,s.I,s.B⟩,⟨0,1,mintV s.F c.q 0,[]⟩)
 else (s,codeR 6)
def quotaS (s:Af) (c:As):Af × At:=
 bif Dc (0<=c.N/\c.N<=40) then (bif (setR s.u c.q c.N).2 then (⟨s.F,s.m,(setR s.u c.q c.N).1,s.a,s.D,s.I,s.B⟩,codeR 0) else (s,codeR 6)) else (s,codeR 1)
def removeS (s:Af) (id:Int):Af × At:=
 bif Dc (1000<=s.B)||decide (1000000<=s.m.H) then (s,codeR 4)
 else (⟨s.F,wipeKS s.m id,(shareDropR s.u id).1,noTE id s.a,noLR id s.D,s.I,s.B+1⟩,codeR 0)
def withT (s:Af) (i:Int) (t:Am):Af:=⟨s.F,s.m,s.u,s.a.set i.toNat t,s.D,s.I,s.B⟩
def rotateS (s:Af) (i:Int):Af × At:=
 bif Dc ((tenE s.a i).K>=1000000) then (s,codeR 4)
 else (withT s i ⟨(tenE s.a i).r,(tenE s.a i).K+1,(tenE s.a i).O,(tenE s.a i).b⟩,⟨0,0,mintV s.F (tenE s.a i).r ((tenE s.a i).K+1),[]⟩)
def ownS (s:Af) (c:As):Af × At:=
 bif Dc (atE s.a c.q<0) then (s,codeR 5)
 else bif Dc (c.E=2) then quotaS s c
 else bif Dc (c.E=3) then removeS s c.q
 else bif Dc (c.E=4) then rotateS s (atE s.a c.q)
 else (flushO s (atE s.a c.q),codeR 0)
def markL (r:Ar):Ar:=⟨r.q,r.B,r.c,r.P,true⟩
def syncS (s:Af):Af:=⟨s.F,s.m,s.u,s.a,s.D.map markL,s.I,s.B⟩
def keepL:Int->List Ar->List Ar
 | _,[]=>[]
 | n,r::l=>bif r.U then markL r::keepL n l else bif Dc (n<1) then keepL n l else markL r::keepL (n - 1) l
def crashT (key:J2) (rows:List Ar) (t:Am):Am:=⟨t.r,t.K,t.O,(repS key (rep0 t) rows).1⟩
def crashS (s:Af) (n:Int):Af × At:=
 bif Dc (1000<=s.B) then (s,codeR 4)
 else ({F:=s.F,m:=s.m,u:=s.u,a:=s.a.map λt=>crashT (keyOfV s.m t.r) (ofLR t.r (keepL n s.D)) t,D:=keepL n s.D,I:=s.I,B:=s.B+1},codeR 0)
def valR (e:Aa) (key:J2) (seq:Int):At:=bif (getR e key seq).2 then ⟨0,0,(getR e key seq).1,[]⟩ else codeR 5
def putS (s a:Af) (i:Int) (ops:List Op):Af:=
 ⟨a.F,a.m,a.u,a.a.set i.toNat ⟨(tenE a.a i).r,(tenE a.a i).K,(tenE a.a i).O,engB (tenE a.a i).b ops⟩,a.D++ [⟨(tenE a.a i).r,a.B,(tenE a.a i).b.c+1,sealB (keyOfV a.m (tenE a.a i).r) a.B ((tenE a.a i).b.c+1) ops,false⟩],s.I++ [⟨(tenE a.a i).r,a.B,(tenE a.a i).b.c+1,sealB (keyOfV a.m (tenE a.a i).r) a.B ((tenE a.a i).b.c+1) ops,false⟩],a.B⟩
def roomS (s:Af) (i:Int):Af:=bif Dc (6<=(ofLR (tenE s.a i).r s.D).length) then flushO s i else s
def writeS (s:Af) (i:Int) (ops:List Op):Af × At:=
 bif Dc (120<=s.I.length) then (s,codeR 4)
 else bif batchV ops then
  (bif Dc ((bytesN (applyK (mapR (tenE s.a i).b (tenE s.a i).b.c) ops):Int)>quoV (-1) s.u (tenE s.a i).r) then (s,codeR 3)
 else bif okB (tenE (roomS s i).a i).b ops&& !Dc (sealB (keyOfV s.m (tenE s.a i).r) s.B ((tenE s.a i).b.c+1) ops= []) then
    (putS s (roomS s i) i ops,⟨0,(tenE s.a i).b.c+1,[],[]⟩)
 else (s,codeR 4))
 else (s,codeR 1)
def withE (s:Af) (i:Int) (l:List Int):Af:=
 withT s i ⟨(tenE s.a i).r,(tenE s.a i).K,(tenE s.a i).O,⟨(tenE s.a i).b.x,(tenE s.a i).b.s,(tenE s.a i).b.c,l⟩⟩
def snapS (s:Af) (i:Int):Af × At:=
 bif Dc ((tenE s.a i).b.c∈(tenE s.a i).b.A) then (s,⟨0,(tenE s.a i).b.c,[],[]⟩)
 else bif Dc (2<=(tenE s.a i).b.A.length) then (s,codeR 4)
 else (withE s i ((tenE s.a i).b.A++ [(tenE s.a i).b.c]),⟨0,(tenE s.a i).b.c,[],[]⟩)
def heldS (s:Af) (i:Int) (c:As):Af × At:=
 bif Dc (c.N∈(tenE s.a i).b.A) then
  (bif Dc (c.E=10) then (s,valR (tenE s.a i).b c.g c.N) else (withE s i (dropS (tenE s.a i).b.A c.N),codeR 0))
 else (s,codeR 5)
def tenS (s:Af) (i:Int) (c:As):Af × At:=
 bif Dc (c.E=5) then writeS s i c.Q
 else bif Dc (c.E=6) then (s,valR (tenE s.a i).b c.g (tenE s.a i).b.c)
 else bif Dc (c.E=7) then (s,⟨0,0,[],scanV (mapR (tenE s.a i).b (tenE s.a i).b.c) c.g c.T⟩)
 else bif Dc (c.E=8) then snapS s i
 else bif Dc (c.E=11) then (s,⟨0,(bytesN (mapR (tenE s.a i).b (tenE s.a i).b.c):Int),[],[]⟩)
 else heldS s i c
def callS (s:Af) (c:As):Af × At:=
 bif !(tokR s.F c.R).2.2||(Dc (atE s.a (tokR s.F c.R).1<0)|| !Dc ((tenE s.a (atE s.a (tokR s.F c.R).1)).K=(tokR s.F c.R).2.1)) then (s,codeR 2)
 else tenS s (atE s.a (tokR s.F c.R).1) c
def doS (s:Af) (c:As):Af × At:=
 bif Dc (c.E=1) then createS s c
 else bif Dc (c.E=12) then (syncS s,codeR 0)
 else bif Dc (c.E=14) then crashS s c.N
 else bif Dc (2<=c.E/\c.E<=4)||decide (c.E=13) then ownS s c
 else bif Dc (5<=c.E/\c.E<=11) then callS s c
 else (s,codeR 1)
def zcC (l:List Am) (id:Int):(∃j,∃b:j<l.length,atE l id=(j:Int)/\l[j].r=id/\∀i (hi:i<j),¬(l[i]'(by omega)).r=id)\/(atE l id= -1/\∀x∈l,¬x.r=id):=by
 rcases zkI (λt:Am=>decide (t.r=id)) l with ⟨j,b,e,a,c⟩ | ⟨e,a⟩
 ·exact .inl ⟨j,b,e,of_decide_eq_true a,λi hi=>of_decide_eq_false (c i hi)⟩
 ·exact .inr ⟨e,λx d=>of_decide_eq_false (a x d)⟩
def zo (l:List Am) (j:Nat) (a:j<l.length):tenE l (j:Int)=l[j]:=by unfold tenE;simp_all
def zuo (id:Int) (l:List Ar):ofLR id (noLR id l)= []:=by unfold ofLR noLR;simp
theorem zpx {id k:Int} (h: ¬k=id) (l:List Ar):ofLR k (noLR id l)=ofLR k l:=by unfold ofLR noLR;rw[List.filter_filter];grind
def zoH (id:Int) (l k:List Ar):ofLR id (l++k)=ofLR id l++ofLR id k:=Jp _ _
theorem zpw {l:List α} {t x:α} (h:x∈l.set j t):x=t\/∃i,∃hi:i<l.length,¬i=j/\x=l[i]:=by obtain ⟨i,hi,e⟩:=Je h;grind
theorem set_mapE {l:List Am} (a:j<l.length) (h:t.r=l[j].r):(l.set j t).map Am.r=l.map Am.r:=by refine List.ext_getElem (by simp) λi b c=>?_;grind
theorem storeP.lt (h:storeP s):s.a.Pairwise λa b=>a.r<b.r:=by have c:=((zbH _).1 h.keys).2.2.2.2;have d:(s.m.t.map A6.q).Pairwise (·< ·):=Nj.2 c;rw[<-h.slots]at d;grind
theorem storeP.ne (h:storeP s) {i:Nat} (hi:i<s.a.length) (b:j<s.a.length) (c: ¬i=j): ¬s.a[i].r=s.a[j].r:=by have:=Jc.1 h.lt;grind
theorem storeP.at (h:storeP s) (j:Nat) (d:j<s.a.length):atE s.a s.a[j].r=(j:Int):=by
 rcases zcC s.a s.a[j].r with ⟨i,hi,e,b,_⟩ | ⟨_,b⟩
 ·by_cases c:i=j
  ·omega
  ·exact absurd b (h.ne hi d c)
 ·grind
def storeP.lens (h:storeP s):s.a.length=s.m.t.length/\s.a.length=s.u.j.length/\s.a.length<=4:=by have b:=congrArg La h.slots;have c:=congrArg La h.ids;have d:=((zbH _).1 h.keys).2.1;simp_all
def storeP.slot (h:storeP s) (b:t∈s.a): ∃x∈s.m.t,x.q=t.r:=by have:t.r∈s.a.map Am.r:=Lc b;rw[h.slots]at this;simp_all
theorem zts (h:storeP s) (j:Nat) (c:j<s.a.length) (t:Am) (d:t.r=s.a[j].r) (g:tenP (keyOfV s.m t.r) (ofLR t.r s.D) t):storeP (withT s (j:Int) t):=by
 unfold withT;refine ⟨h.secret,h.keys,h.shares,h.boot,h.hist,?_,?_,λx b=>?_,λr f=>?_⟩
 ·exact (set_mapE c d).trans h.slots
 ·exact (set_mapE c d).trans h.ids
 ·rcases List.mem_or_eq_of_mem_set b with b | rfl
  ·exact h.tens x b
  ·trivial
 ·obtain ⟨x,b,e⟩:=h.rows r f;have:r.q∈(s.a.set j t).map Am.r:=by rw[set_mapE c d,<-e];grind
  grind
def zeT (e:Aa):(flatE e).c=e.c/\(flatE e).A=e.A:=by obtain ⟨a,b,c⟩:=zlB (flushS e).2;obtain ⟨d,f⟩:=zo9 e;exact ⟨b.trans d,c.trans f⟩
theorem zwR (h:e.s.length<=1):(flatE e).x= []:=by
 obtain ⟨a,b,c⟩:=zlB (flushS e).2;refine a.trans ?_;by_cases d:e.x.length=0\/6<=e.s.length
 ·rw[zd8 d];grind
 ·rw[zgP d]
def zqh (h:engV e=true):engV (flatE e)=true:=zv6 (zh8 h)
def zvM (e:Aa):(flatE e).s.length<=1:=by
 unfold flatE mergeS;cases c:Dc ((flushS e).2.s.length=0) with
 | true=>simp_all
 | false=>exact (ztl _).1
def zwS {rows:List Ar} (h:tenP key rows t):tenP key [] (flushT t):=by
 obtain ⟨a,b⟩:=zeT t.b;have d:=zwR h.tabs;have e:=zqh h.eng;have g:=(z8 h.eng).1;have f:=ziO e (l:=[]) (by simp) rfl;refine ⟨h.ep,?_,?_,zvM t.b,e,by simp,?_,rfl,?_,rfl,?_⟩
 ·show 0<=(flatE t.b).c/\(flatE t.b).c<=1000000;omega
 ·show (flatE t.b).A.length<=2;rw[b];exact h.snaps
 ·show (flatE t.b).c+((([]:List Ar).length:Nat):Int)=(flatE t.b).c;simp
 ·rw[d]at f;trivial
 ·exact d.symm
theorem zmt (h:storeP s) (j:Nat) (b:j<s.a.length):storeP (flushO s (j:Int)):=by
 unfold flushO;rw[zo _ j b,Iy];have c:(s.a.set j (flushT s.a[j])).map Am.r=s.a.map Am.r:=set_mapE b rfl;refine ⟨h.secret,h.keys,h.shares,h.boot,h.hist,c.trans h.slots,c.trans h.ids,λx d=>?_,λr f=>?_⟩
 ·rcases zpw d with rfl | ⟨i,hi,g,rfl⟩
  ·have:=zwS (h.tens _ (Iv b));show tenP (keyOfV s.m s.a[j].r) (ofLR s.a[j].r (noLR s.a[j].r s.D)) _;rw[zuo];trivial
  ·have:=h.tens _ (Iv hi);show tenP (keyOfV s.m s.a[i].r) (ofLR s.a[i].r (noLR s.a[j].r s.D)) _;rw[zpx (h.ne hi b g)];trivial
 ·obtain ⟨x,d,e⟩:=h.rows r (Jj.1 f).1;have:r.q∈(s.a.set j (flushT s.a[j])).map Am.r:=by grind
  grind
def ztn {α β:Type} (f:α->β) (p:β->Bool): ∀l:List α,(l.takeWhile λx=>p (f x)).length=((l.map f).takeWhile p).length
 | []=>rfl
 | a::l=>by
   rw[Lo,Ld,Lo];cases p (f a) with
   | true=>simp only[iT,Kp,ztn f p l]
   | false=>rfl
def zxm (p:α->Bool) {A B:List α} (h: ∀a∈A,p a=true) (D: ∀b∈B,p b=false):((A++B).takeWhile p).length=A.length:=by
 induction A with
 | nil=>
   cases B with
   | nil=>rfl
   | cons b B=>simp_all
 | cons a A ih=>simp_all
def insI (l:List Int) (id:Int):List Int:=l.take (l.takeWhile λx=>decide (x<id)).length++(id::l.drop (l.takeWhile λx=>decide (x<id)).length)
def zrf (l:List Am) (t:Am):(insTE l t).map Am.r=insI (l.map Am.r) t.r:=by unfold insTE insI placeE;rw[ztn Am.r (λx=>decide (x<t.r)) l,Kq,Ld,Ml,Mm]
def zvr (d:A7) (id:Int) (key:J2):(addKS d id key).t.map A6.q=insI (d.t.map A6.q) id:=by unfold addKS insI placeK;rw[ztn A6.q (λx=>decide (x<id)) d.t,Kq,Ld,Ml,Mm]
theorem zuU {L R:List A5} {id q:Int} (h: ∀y∈L,y.q<id) (D: ∀y∈R,id<y.q):insI ((L++R).map A5.q) id=(L++(⟨id,q⟩::R)).map A5.q:=by
 unfold insI;rw[Kq,zxm (λx=>decide (x<id)) (A:=L.map A5.q) (B:=R.map A5.q) (λa b=>by grind) (λa b=>by grind),
  List.take_left,List.drop_left,Kq,Ld]
theorem zvT {l:List Am} {x:Am} (h:x∈insTE l t):x=t\/x∈l:=by unfold insTE at h;grind
theorem zvs {id:Int} {x:A6} (h:x∈d.t):x∈(addKS d id key).t:=by unfold addKS;rw[<-Jt (placeK d.t id) d.t,Jx]at h;grind
def zxR (key:J2) (id:Int):tenP key [] (newTE id):=
 ⟨by simp[newTE],by simp[newTE],by simp[newTE],by simp[newTE],rfl,by simp,by simp[newTE],rfl,rfl,rfl,rfl⟩
theorem zuH (h:storeP s) (c:As):storeP (createS s c).1:=by
 unfold createS;cases f:(!Dc (1<=c.q/\c.q<=99)||(!Dc (0<=c.N/\c.N<=40)||(!Dc (c.g.length=32)||decide (atE s.a c.q>=0)))) with
 | true=>exact h
 | false=>
   cases p:Dc (4<=s.a.length) with
   | true=>exact h
   | false=>
     cases v:(setR s.u c.q c.N).2 with
     | false=>exact h
     | true=>
       simp only[cT,cF];obtain ⟨L,M,R,i,w,z,d,A,B,I⟩:=zry s.u c.q c.N h.shares v;simp only[Lx]at f;have J: ¬atE s.a c.q>=0:=of_decide_eq_false f.2.2.2;have C:1<=c.q/\c.q<=99:=by simp_all
       have D:c.g.length=32:=by simp_all
       have K:=of_decide_eq_false p;have O: ∀x∈s.a,¬x.r=c.q:=by
        rcases zcC s.a c.q with ⟨j,_,e,_,_⟩ | ⟨_,g⟩
        ·omega
        ·exact g
       have V:M= []:=by
        rcases d with d | ⟨y,d,P⟩
        ·trivial
        ·exfalso;have E:y.q∈s.a.map Am.r:=by rw[h.ids,i,d];simp
         grind
       subst V;obtain ⟨Q,S,T⟩:=h.lens;have F: ∀x∈s.m.t,¬x.q=c.q:=by
        intro x b e;have E:x.q∈s.a.map Am.r:=by rw[h.slots];grind
        grind
       have k:=zob (key:=c.g) h.keys C D (by omega) F;refine ⟨h.secret,k,A,h.boot,h.hist,?_,?_,λx b=>?_,λr G=>?_⟩
       ·exact (zrf _ _).trans ((congrArg (λl=>insI l c.q) h.slots).trans (zvr _ _ _).symm)
       ·refine (zrf _ _).trans ?_;rw[h.ids,i,B];exact zuU w z
       ·rcases zvT b with rfl | b
        ·have:rowsV s c.q= []:=by unfold rowsV;rw[Lt];intro r H e;obtain ⟨t,n,U⟩:=h.rows r H;simp_all
         show tenP _ (rowsV s c.q) _;rw[this];exact zxR _ _
        ·obtain ⟨y,o,e⟩:=h.slot b;have:=h.tens x b;rw[<-e,zkf h.keys o,<-zkf k (zvs o),e]at this;trivial
       ·obtain ⟨t,n,e⟩:=h.rows r G;have:r.q∈(insTE s.a (newTE c.q)).map Am.r:=by rw[<-e];unfold insTE;rw[<-Jt (placeE s.a (newTE c.q).r) s.a,Jx]at n;grind
        simp_all
theorem zwb (h:storeP s) (c:As) (d: ∃x∈s.a,x.r=c.q):storeP (quotaS s c).1:=by
 unfold quotaS;cases Dc (0<=c.N/\c.N<=40) with
 | false=>exact h
 | true=>
   cases e:(setR s.u c.q c.N).2 with
   | false=>exact h
   | true=>
     simp only[cT];obtain ⟨L,M,R,b,l,m,f,g,i,n⟩:=zry s.u c.q c.N h.shares e;refine ⟨h.secret,h.keys,g,h.boot,h.hist,h.slots,?_,h.tens,h.rows⟩;rw[h.ids,i,b];rcases f with rfl | ⟨y,rfl,o⟩
     ·exfalso;obtain ⟨x,j,p⟩:=d;have k:x.r∈s.a.map Am.r:=Lc j;rw[h.ids,b,Jr]at k;grind
     ·simp_all
theorem zvc (h:storeP s) (id:Int):storeP (removeS s id).1:=by
 unfold removeS;cases g:(Dc (1000<=s.B)||decide (1000000<=s.m.H)) with
 | true=>exact h
 | false=>
   simp only[Lx,decide_eq_false_iff_not]at g;rw[zuM id h.shares];have p:=h.boot;have c:=zwz id h.keys (by omega);refine ⟨h.secret,c,zs8 id h.shares,by grind,h.hist,?_,?_,λx i=>?_,λr k=>?_⟩
   ·show (noTE id s.a).map Am.r=(wipeKS s.m id).t.map A6.q;unfold noTE wipeKS;rw[zc8 Am.r (λx=>!Dc (x.r=id)) (λx=>!Dc (x=id)) (λ_=>rfl),zc8 A6.q (λx=>!Dc (x.q=id)) (λx=>!Dc (x=id)) (λ_=>rfl),h.slots]
   ·show (noTE id s.a).map Am.r=(dropT s.u.j id).map A5.q;rw[zvK];unfold noTE;rw[zc8 Am.r (λx=>!Dc (x.r=id)) (λx=>!Dc (x=id)) (λ_=>rfl),h.ids]
   ·obtain ⟨d,v⟩:=Jj.1 i;have l: ¬x.r=id:=by simp_all
    have b:=h.tens x d;obtain ⟨y,f,e⟩:=h.slot d;have n:y∈(wipeKS s.m id).t:=Jj.2 ⟨f,by simp_all⟩;show tenP (keyOfV (wipeKS s.m id) x.r) (ofLR x.r (noLR id s.D)) x;rw[zpx l];rw[<-e,zkf h.keys f,<-zkf c n,e]at b;trivial
   ·obtain ⟨o,w⟩:=Jj.1 k;obtain ⟨t,b,e⟩:=h.rows r o;exact ⟨t,Jj.2 ⟨b,by simp_all⟩,e⟩
theorem zvf (h:storeP s) (j:Nat) (d:j<s.a.length):storeP (rotateS s (j:Int)).1:=by
 unfold rotateS;rw[zo _ j d];have b:=h.tens _ (Iv d);have e:=b.ep;by_cases c:s.a[j].K>=1000000
 ·simp_all
 ·rw[dF c];exact zts h j d _ rfl ⟨by grind,b.base,b.snaps,b.tabs,b.eng,b.few,b.seq,b.seqs,b.start,b.runs,b.mem⟩
def zmS (id:Int) (l:List Ar):ofLR id (l.map markL)=(ofLR id l).map markL:=by unfold ofLR;rw[List.filter_map];rfl
def zki (key:J2): ∀(l:List Ar) (e:Aa),repS key e (l.map markL)=repS key e l
 | [],e=>rfl
 | r::l,e=>by
   simp only[Ld,repS,markL];cases (openB key r.B r.c r.P).2&&(putR e (openB key r.B r.c r.P).1).2 with
   | false=>rfl
   | true=>exact zki key l _
def tenP.mark {rows:List Ar} (h:tenP key rows t):tenP key (rows.map markL) t:=by refine ⟨h.ep,h.base,h.snaps,h.tabs,h.eng,by rw[Ma];exact h.few,by rw[Ma];exact h.seq,?_,h.start,by rw[zki];exact h.runs,by rw[zki];exact h.mem⟩;rw[zgJ];intro i hi;rw[Nm];exact (zgJ _ _).1 h.seqs i (by simp_all)
def zxg (h:storeP s):storeP (syncS s):=by
 refine ⟨h.secret,h.keys,h.shares,h.boot,h.hist,h.slots,h.ids,λx a=>?_,λr b=>?_⟩
 ·show tenP _ (ofLR x.r (s.D.map markL)) x;rw[zmS];exact (h.tens x a).mark
 ·obtain ⟨q,c,rfl⟩:=Nb.1 b;exact h.rows q c
def syncP (l:List Ar):Prop:=l.Pairwise λa b=>b.U=true->a.U=true
def zpo: ∀(l:List Ar) (n:Int),n<1->(∀r∈l,r.U=false)->keepL n l= []
 | [],_,_,_=>rfl
 | r::l,n,a,h=>by simp only[keepL];rw[h r (by simp),dT a];exact zpo l n a λx b=>h x (by simp_all)
def zi0: ∀(l:List Ar) (n:Int),syncP l->∃k,keepL n l=(l.take k).map markL
 | [],n,_=>⟨0,rfl⟩
 | r::l,n,h=>by
   obtain ⟨e,b⟩:=Jl.1 h;simp only[keepL];cases hs:r.U with
   | true=>obtain ⟨k,c⟩:=zi0 l n b;exact ⟨k+1,by simp_all⟩
   | false=>
     have d: ∀x∈l,x.U=false:=by simp_all
     by_cases a:n<1
     ·rw[dT a];simp only[cT,cF];exact ⟨0,zpo l n a d⟩
     ·rw[dF a];obtain ⟨k,c⟩:=zi0 l (n - 1) b;exact ⟨k+1,by simp_all⟩
theorem zmI: ∀(l:List Ar) (n:Int) (r:Ar),r∈keepL n l->∃q∈l,r=markL q
 | [],n,r,h=>by cases h
 | q::l,n,r,h=>by
   simp only[keepL]at h;have go: ∀m,r∈keepL m l->∃x∈q::l,r=markL x:=λm h=>by obtain ⟨x,a,e⟩:=zmI l m r h;grind
   grind
def zkd: ∀(l:List Ar) (n:Int),∃q:List Ar,q.Sublist l/\keepL n l=q.map markL
 | [],n=>⟨[],.slnil,rfl⟩
 | r::l,n=>by
   simp only[keepL];obtain ⟨a,b,e⟩:=zkd l n;obtain ⟨c,d,f⟩:=zkd l (n - 1);cases r.U with
   | true=>exact ⟨r::a,b.cons_cons r,by simp_all⟩
   | false=>
     cases Dc (n<1) with
     | true=>exact ⟨a,b.cons r,by trivial⟩
     | false=>exact ⟨r::c,d.cons_cons r,by simp_all⟩
def tenP.part {rows qs:List Ar} (h:tenP key rows t) (hs:qs.Sublist rows):(repS key (rep0 t) (qs.map markL)).2=true:=by rw[zki];exact zw7 key hs (rep0 t) (rep0 t) h.runs h.start rfl (Li _) (Ji _)
theorem zwG {rows:List Ar} (h:tenP key rows t) (k:Nat):tenP key ((rows.take k).map markL) (crashT key ((rows.take k).map markL) t):=by
 have d:=h.part (List.take_sublist k rows);have e:=znm key _ _ h.start d;obtain ⟨a,b,c⟩:=zlK key _ _ d;have f:=h.few;have g:((rows.take k).map markL).length<=rows.length:=by grind
 refine ⟨h.ep,h.base,?_,?_,e,by omega,c.symm,?_,?_,?_,?_⟩
 ·show (repS key (rep0 t) _).1.A.length<=2;rw[b];simp[rep0]
 ·show (repS key (rep0 t) _).1.s.length<=1;rw[a];exact h.tabs
 ·rw[zgJ];intro i hi;rw[Nm,List.getElem_take];exact (zgJ _ _).1 h.seqs i (by omega)
 ·have:rep0 (crashT key ((rows.take k).map markL) t)=rep0 t:=by unfold rep0 crashT;rw[a];rfl
  rw[this];exact h.start
 ·have:rep0 (crashT key ((rows.take k).map markL) t)=rep0 t:=by unfold rep0 crashT;rw[a];rfl
  simp_all
 ·have:rep0 (crashT key ((rows.take k).map markL) t)=rep0 t:=by unfold rep0 crashT;rw[a];rfl
  rw[this];rfl
theorem zvD (h:storeP s) (hs:syncP s.D) (n:Int):storeP (crashS s n).1:=by
 unfold crashS;by_cases d:1000<=s.B
 ·simp_all
 ·rw[dF d];obtain ⟨k,f⟩:=zi0 s.D n hs;have p:=h.boot;have c:(s.a.map λt=>crashT (keyOfV s.m t.r) (ofLR t.r (keepL n s.D)) t).map Am.r=s.a.map Am.r:=by rw[List.map_map];rfl
  refine ⟨h.secret,h.keys,h.shares,by grind,h.hist,c.trans h.slots,c.trans h.ids,λx g=>?_,λr i=>?_⟩
  ·obtain ⟨t,b,rfl⟩:=Nb.1 g;have j:=h.tens t b;show tenP (keyOfV s.m t.r) (ofLR t.r (keepL n s.D)) _;rw[f,zmS];have l:ofLR t.r (s.D.take k) <+: ofLR t.r s.D:=(List.take_prefix k s.D).filter _;rw[List.prefix_iff_eq_take.1 l];exact zwG j _
  ·obtain ⟨q,o,rfl⟩:=zmI _ _ _ i;obtain ⟨t,b,e⟩:=h.rows q o;exact ⟨_,Lc b,e⟩
def zw9 (h:storeP s) (j:Nat) (b:j<s.a.length):storeP (roomS s (j:Int)):=by
 unfold roomS;cases Dc (6<=(ofLR (tenE s.a (j:Int)).r s.D).length) with
 | true=>exact zmt h j b
 | false=>exact h
theorem zw8 (s:Af) (j:Nat) (d:j<s.a.length):(roomS s (j:Int)).a.length=s.a.length/\(roomS s (j:Int)).m=s.m/\(roomS s (j:Int)).B=s.B/\(roomS s (j:Int)).F=s.F/\(roomS s (j:Int)).u=s.u/\(roomS s (j:Int)).I=s.I/\
 (tenE (roomS s (j:Int)).a (j:Int)).r=s.a[j].r/\(tenE (roomS s (j:Int)).a (j:Int)).K=s.a[j].K/\(tenE (roomS s (j:Int)).a (j:Int)).b.c=s.a[j].b.c/\(ofLR s.a[j].r (roomS s (j:Int)).D).length<=5:=by
 unfold roomS;rw[zo _ j d];cases c:Dc (6<=(ofLR s.a[j].r s.D).length) with
 | true=>simp only[cT];unfold flushO;simp only[zo _ j d,Iy];rw[zo _ j (by simp_all),Kc,zuo];exact ⟨by simp,by simp,by simp,by simp,by simp,by simp,by rfl,by rfl,by simp[flushT,(zeT s.a[j].b).1],by simp⟩
 | false=>simp only[cF];rw[zo _ j d];grind
theorem zys {rows:List Ar} (h:tenP key rows t) (ops:List Op) (boot:Int) (hl:rows.length<=5) (a:okB t.b ops=true) (d:batchV ops=true) (hs: ¬sealB key boot (t.b.c+1) ops= []) (tid:Int):
 tenP key (rows++ [⟨tid,boot,t.b.c+1,sealB key boot (t.b.c+1) ops,false⟩]) ⟨t.r,t.K,t.O,engB t.b ops⟩:=by
 obtain ⟨f,g,j,k⟩:=zu6 hs;have e:=znf h.eng d;rw[a]at e;have B:engV ⟨t.b.x,t.b.s,t.b.c,[]⟩=true:=ziO h.eng (l:=[]) (by simp) rfl;have D:putR ⟨t.b.x,t.b.s,t.b.c,[]⟩ ops=(engB ⟨t.b.x,t.b.s,t.b.c,[]⟩ ops,true):=by unfold putR;rw[B,d,show okB ⟨t.b.x,t.b.s,t.b.c,[]⟩ ops=okB t.b ops from rfl,a];rfl
 have A:repS key (rep0 t) (rows++ [⟨tid,boot,t.b.c+1,sealB key boot (t.b.c+1) ops,false⟩])=(engB ⟨t.b.x,t.b.s,t.b.c,[]⟩ ops,true):=by rw[zh0,h.runs,cond_true,h.eng_is];simp only[repS];simp_all
 have m:=h.seq;refine ⟨h.ep,h.base,h.snaps,h.tabs,e,by simp_all,?_,?_,h.start,?_,?_⟩
 ·show t.O+_=t.b.c+1;grind
 ·rw[zgJ];intro i hi;by_cases c:i<rows.length
  ·rw[List.getElem_append_left c];exact (zgJ _ _).1 h.seqs i c
  ·grind
 ·show (repS key (rep0 t) _).2=true;rw[A]
 ·show (repS key (rep0 t) _).1.x=_;rw[A];rfl
theorem zxU {a:Af} (h:storeP a) (j:Nat) (d:j<a.a.length) (ops:List Op) (u:s.I.length<120) (hl:(ofLR a.a[j].r a.D).length<=5) (l:okB a.a[j].b ops=true) (n:batchV ops=true) (hs: ¬sealB (keyOfV a.m a.a[j].r) a.B (a.a[j].b.c+1) ops= []):storeP (putS s a (j:Int) ops):=by
 unfold putS;rw[zo _ j d,Iy];have g: ∀t:Am,t.r=a.a[j].r->(a.a.set j t).map Am.r=a.a.map Am.r:=λt k=>set_mapE d k;refine ⟨h.secret,h.keys,h.shares,h.boot,by grind,(g ⟨a.a[j].r,a.a[j].K,a.a[j].O,engB a.a[j].b ops⟩ rfl).trans h.slots,(g ⟨a.a[j].r,a.a[j].K,a.a[j].O,engB a.a[j].b ops⟩ rfl).trans h.ids,λx o=>?_,λr f=>?_⟩
 ·rcases zpw o with rfl | ⟨i,hi,p,rfl⟩
  ·have:=zys (h.tens _ (Iv d)) ops a.B hl l n hs a.a[j].r;show tenP (keyOfV a.m a.a[j].r) (ofLR a.a[j].r (a.D++_)) _;rw[zoH];have e:ofLR a.a[j].r [(⟨a.a[j].r,a.B,a.a[j].b.c+1,sealB (keyOfV a.m a.a[j].r) a.B (a.a[j].b.c+1) ops,false⟩:Ar)]= [⟨a.a[j].r,a.B,a.a[j].b.c+1,sealB (keyOfV a.m a.a[j].r) a.B (a.a[j].b.c+1) ops,false⟩]:=by unfold ofLR;simp
   rw[e];trivial
  ·have:=h.tens _ (Iv hi);have v:=h.ne hi d p;show tenP (keyOfV a.m a.a[i].r) (ofLR a.a[i].r (a.D++_)) _;rw[zoH];have e:ofLR a.a[i].r [(⟨a.a[j].r,a.B,a.a[j].b.c+1,sealB (keyOfV a.m a.a[j].r) a.B (a.a[j].b.c+1) ops,false⟩:Ar)]= []:=by unfold ofLR;grind
   rw[e,Jk];trivial
 ·have w:r.q∈a.a.map Am.r:=by
   rcases Jx.1 f with f | f
   ·obtain ⟨t,k,e⟩:=h.rows r f;grind
   ·grind
  grind
def zwA (h:storeP s) (j:Nat) (e:j<s.a.length) (ops:List Op):storeP (writeS s (j:Int) ops).1:=by
 unfold writeS;by_cases l:120<=s.I.length
 ·simp_all
 ·rw[dF l];cases n:batchV ops with
  | false=>exact h
  | true=>
    cases Dc ((bytesN (applyK (mapR (tenE s.a (j:Int)).b (tenE s.a (j:Int)).b.c) ops):Int)>quoV (-1) s.u (tenE s.a (j:Int)).r) with
    | true=>exact h
    | false=>
      cases d:okB (tenE (roomS s (j:Int)).a (j:Int)).b ops&& !Dc (sealB (keyOfV s.m (tenE s.a (j:Int)).r) s.B ((tenE s.a (j:Int)).b.c+1) ops= []) with
      | false=>exact h
      | true=>
        obtain ⟨r1,r2,o,q,t,v,f,p,g,i⟩:=zw8 s j e;have k:j<(roomS s (j:Int)).a.length:=by omega
        rw[Jf,Nh,decide_eq_false_iff_not]at d;rw[zo _ j k]at f p g d;rw[zo _ j e,<-f,<-g,<-r2,<-o]at d;rw[<-f]at i;exact zxU (zw9 h j e) j k ops (by omega) i d.1 n d.2
def ztr (h:storeP s) (j:Nat) (e:j<s.a.length) (l:List Int) (hl:l.length<=2) (f:engV ⟨s.a[j].b.x,s.a[j].b.s,s.a[j].b.c,l⟩=true):storeP (withE s (j:Int) l):=by unfold withE;rw[zo _ j e];have d:=h.tens _ (Iv e);exact zts h j e _ rfl ⟨d.ep,d.base,hl,d.tabs,f,d.few,d.seq,d.seqs,d.start,d.runs,d.mem⟩
theorem zxc (h:storeP s) (j:Nat) (d:j<s.a.length):storeP (snapS s (j:Int)).1:=by
 unfold snapS;rw[zo _ j d];have e:=h.tens _ (Iv d);by_cases f:s.a[j].b.c∈s.a[j].b.A
 ·simp_all
 ·by_cases g:2<=s.a[j].b.A.length
  ·simp_all
  ·rw[dF f,dF g];have:=zxb e.eng;unfold snapR at this;rw[iP e.eng,iN f,iN (by omega)]at this;exact ztr h j d _ (by grind) this
def zvI (l:List Int) (x:Int):(dropS l x).length<=l.length:=Kd _ _
def zwU (h:storeP s) (j:Nat) (d:j<s.a.length) (c:As):storeP (heldS s (j:Int) c).1:=by
 unfold heldS;rw[zo _ j d];have e:=h.tens _ (Iv d);by_cases f:c.N∈s.a[j].b.A
 ·rw[dT f];cases Dc (c.E=10) with
  | true=>exact h
  | false=>have:=ztx e.eng c.N;unfold engDropR at this;rw[iP e.eng,iP f]at this;have hl:=zvI s.a[j].b.A c.N;have hs:=e.snaps;exact ztr h j d _ (by omega) this
 ·simp_all
def zx5 (h:storeP s) (j:Nat) (b:j<s.a.length) (c:As):storeP (tenS s (j:Int) c).1:=by
 unfold tenS;cases Dc (c.E=5) with
 | true=>exact zwA h j b _
 | false=>
 cases Dc (c.E=6) with
 | true=>exact h
 | false=>
 cases Dc (c.E=7) with
 | true=>exact h
 | false=>
 cases Dc (c.E=8) with
 | true=>exact zxc h j b
 | false=>
 cases Dc (c.E=11) with
 | true=>exact h
 | false=>exact zwU h j b c
def zwC (h:storeP s) (c:As):storeP (callS s c).1:=by
 unfold callS;rcases zcC s.a (tokR s.F c.R).1 with ⟨j,b,e,_,_⟩ | ⟨e,_⟩
 ·rw[e];cases (!(tokR s.F c.R).2.2||(Dc ((j:Int)<0)|| !Dc ((tenE s.a (j:Int)).K=(tokR s.F c.R).2.1))) with
  | true=>exact h
  | false=>exact zx5 h j b c
 ·simp_all
def zxT (h:storeP s) (c:As):storeP (ownS s c).1:=by
 unfold ownS;rcases zcC s.a c.q with ⟨j,b,e,d,_⟩ | ⟨e,_⟩
 ·rw[e,dF,cond_false];cases Dc (c.E=2) with
  | true=>exact zwb h c ⟨_,Iv b,d⟩
  | false=>
  cases Dc (c.E=3) with
  | true=>exact zvc h _
  | false=>
  cases Dc (c.E=4) with
  | true=>exact zvf h j b
  | false=>exact zmt h j b
 ·simp_all
def zyc (h:storeP s) (hs:syncP s.D) (c:As):storeP (doS s c).1:=by
 unfold doS;cases Dc (c.E=1) with
 | true=>exact zuH h c
 | false=>
 cases Dc (c.E=12) with
 | true=>exact zxg h
 | false=>
 cases Dc (c.E=14) with
 | true=>exact zvD h hs _
 | false=>
 cases Dc (2<=c.E/\c.E<=4)||decide (c.E=13) with
 | true=>exact zxT h c
 | false=>
 cases Dc (5<=c.E/\c.E<=11) with
 | false=>exact h
 | true=>exact zwC h c
def zp2 (l:List Ar):syncP (l.map markL):=Nj.2 (Jc.2 λi j hi a b _=>rfl)
def zwp {l:List Ar} (h:syncP l) (r:Ar) (c:r.U=false):syncP (l++ [r]):=by refine Kh.2 ⟨h,List.pairwise_singleton _ _,λa d b e f=>?_⟩;simp_all
def zoZ {l:List Ar} (h:syncP l) (id:Int):syncP (noLR id l):=List.Pairwise.filter _ h
def zve (hs:syncP s.D) (i:Int):syncP (roomS s i).D:=by
 unfold roomS;cases Dc (6<=(ofLR (tenE s.a i).r s.D).length) with
 | true=>exact zoZ hs _
 | false=>exact hs
def ztY (hs:syncP s.D) (i:Int) (ops:List Op):syncP (writeS s i ops).1.D:=by
 unfold writeS;cases Dc (120<=s.I.length) with
 | true=>exact hs
 | false=>
 cases batchV ops with
 | false=>exact hs
 | true=>
 cases Dc ((bytesN (applyK (mapR (tenE s.a i).b (tenE s.a i).b.c) ops):Int)>quoV (-1) s.u (tenE s.a i).r) with
 | true=>exact hs
 | false=>
 cases okB (tenE (roomS s i).a i).b ops&& !Dc (sealB (keyOfV s.m (tenE s.a i).r) s.B ((tenE s.a i).b.c+1) ops= []) with
 | false=>exact hs
 | true=>exact zwp (zve hs i) _ rfl
def zwt (hs:syncP s.D) (i:Int) (c:As):syncP (tenS s i c).1.D:=by
 unfold tenS;cases Dc (c.E=5) with
 | true=>exact ztY hs i _
 | false=>
 cases Dc (c.E=6) with
 | true=>exact hs
 | false=>
 cases Dc (c.E=7) with
 | true=>exact hs
 | false=>
 cases Dc (c.E=8) with
 | true=>unfold snapS;cases Dc ((tenE s.a i).b.c∈(tenE s.a i).b.A)<;>cases Dc (2<=(tenE s.a i).b.A.length)<;>exact hs
 | false=>
 cases Dc (c.E=11) with
 | true=>exact hs
 | false=>unfold heldS;cases Dc (c.N∈(tenE s.a i).b.A)<;>cases Dc (c.E=10)<;>exact hs
theorem zwM (hs:syncP s.D) (c:As):syncP (doS s c).1.D:=by
 unfold doS;cases Dc (c.E=1) with
 | true=>unfold createS;grind
 | false=>
 cases Dc (c.E=12) with
 | true=>exact zp2 _
 | false=>
 cases Dc (c.E=14) with
 | true=>
   unfold crashS;cases Dc (1000<=s.B) with
   | true=>exact hs
   | false=>obtain ⟨k,b⟩:=zi0 s.D c.N hs;rw[b];exact zp2 _
 | false=>
 cases Dc (2<=c.E/\c.E<=4)||decide (c.E=13) with
 | true=>
   unfold ownS;cases Dc (atE s.a c.q<0) with
   | true=>exact hs
   | false=>
   cases Dc (c.E=2) with
   | true=>unfold quotaS;grind
   | false=>
   cases Dc (c.E=3) with
   | true=>
     unfold removeS;cases Dc (1000<=s.B)||decide (1000000<=s.m.H) with
     | true=>exact hs
     | false=>exact zoZ hs _
   | false=>
   cases Dc (c.E=4) with
   | true=>unfold rotateS;cases Dc ((tenE s.a (atE s.a c.q)).K>=1000000)<;>exact hs
   | false=>exact zoZ hs _
 | false=>
 cases Dc (5<=c.E/\c.E<=11) with
 | false=>exact hs
 | true=>
   unfold callS;cases !(tokR s.F c.R).2.2||(Dc (atE s.a (tokR s.F c.R).1<0)|| !Dc ((tenE s.a (atE s.a (tokR s.F c.R).1)).K=(tokR s.F c.R).2.1)) with
   | true=>exact hs
   | false=>exact zwt hs _ c
theorem znX (d:A7) (h:d.t.length<=1048576):zda d=some d:=by unfold zda ze5;rw[zf (by grind) (by grind)];rfl
theorem zmL (d:A7) (h:d.t.length<=1048576):zey d=some d:=by unfold zey;rw[zf (by grind) (by grind)];rfl
def zwk {id:Int} (a: ∀x∈d.t,¬x.q=id):fstV (λx:A6=>decide (x.q=id)) d.t= -1:=by
 rcases zkI (λx:A6=>decide (x.q=id)) d.t with ⟨j,b,_,e,_⟩ | ⟨e,_⟩
 ·simp_all
 ·exact e
theorem zqj {id:Int} (b:keysV d=true) (c: ∀x∈d.t,¬x.q=id) (e:keysV (addKS d id key)=true):zhV d id key=some (addKS d id key,true):=by
 have g:=((zbH d).1 b).2.1;have f:placeK d.t id<=d.t.length:=(zhT _ _).1;have a:zcy (addKS d id key)=some true:=by rw[ziL,zp8,<-zqw,e]
 unfold zhV;rw[ziL,zhE d (by omega),b,zhJ d id (by omega),znX d (by omega),zwk c];simp only[Is,Iz,Iu,iF];rw[iN (by decide),zp5 (R:=A7 × Bool) (λx:A6=>decide (x.q<id)) d.t (by omega) (λk a=>?_) (by simp)]
 ·simp only[ze];unfold zeD ins;rw[iP ⟨by omega,by exact_mod_cast f,by grind,by grind⟩,Iy];show (zcy (addKS d id key)).bind _=_;rw[a];rfl
 ·simp only[zb d.t k a,Is];simp_all
theorem zw6 (q:α->Bool) (x:α) (by_:Nat) (o:by_<=100) (l:List α) (hl:l.length<=1048576) {body:Bool × Int × List α->Option (Ctl (Bool × Int × List α) (Ctl (Bool × List α) R))} {f:Bool × List α->Option R} (s:body=λ(G:Bool × Int × List α)=>if Dc (G.2.1<(l.length:Int)) then ((if !G.1 then ((idx l G.2.1).bind λJ=>
 some (q J))
 else (some false)).bind (λ(U:Bool)=>bindC (if U=true then Bb (app by_ G.2.2 ([x])) λM=>some (.go (true,M))else some (.go (G.1,G.2.2))) (λ(I:Bool × List α)=>Bb (idx l G.2.1) λO=>Bb (app by_ I.2 ([O])) λT=>some (.go (I.1,J7 (G.2.1+1),T)))))
 else (some (.done (.go (G.1,G.2.2))))) (t:(l.takeWhile λy=>!q y).length=l.length->f (false,l)=some z) (u:f (true,l.take (l.takeWhile λy=>!q y).length++(x::l.drop (l.takeWhile λy=>!q y).length))=some z):bindC (loopO body (false,(0:Int),([]:List α))) f=some z:=by
 obtain ⟨v,t2,w⟩:=zhT (λy=>!q y) l;generalize (l.takeWhile λy=>!q y).length=a at v t2 w t u;have V: ∀(F:List α) (y:α),F.length<=1048578->app by_ F [y]=some (F++ [y]):=λF y h=>zf (by have:(F.length+([y]:List α).length)*by_<=1048579*100:=Nu (by simp_all) o;omega) (by grind);refine zI (λk (S:Bool × Int × List α)=>S.2.1=(k:Int)/\((k<=a/\S.1=false/\S.2.2=l.take k)\/(a<k/\S.1=true/\S.2.2=l.take a++(x::(l.drop a).take (k - a))))) l.length
  (λr=>∃p F,r= .go (p,F)/\((p=false/\F=l/\a=l.length)\/(p=true/\F=l.take a++(x::l.drop a)))) ⟨rfl,.inl ⟨Ja _,rfl,by simp⟩⟩ ?_ ?_ ?_
 ·rintro k ⟨p,i,F⟩ c ⟨d,b⟩;subst d;left;have e:J7 ((k:Int)+1)=((k+1:Nat):Int):=by rw[za];omega
  have A:(Dc ((k:Int)<(l.length:Int)))=true:=by simp_all
  have E:(l.drop a).take (k+1 - a)=(l.drop a).take (k - a)++(if a<=k then [l[k]] else []):=by
   by_cases B:a<=k
   ·rw[iP B,show k+1 - a=(k - a)+1 by omega,zX _ _ (by grind),Lf];simp_all
   ·grind
  rw[s];simp only[A,iT];rcases b with ⟨g,rfl,rfl⟩ | ⟨g,rfl,rfl⟩
  ·have C:(l.take k).length<=1048576:=by grind
   simp only[Jm,iT,zb l k c,Is];by_cases D:k=a
   ·subst D;have j:q l[k]=true:=by simp_all
    refine ⟨(true,((k+1:Nat):Int),(l.take k++ [x])++ [l[k]]),?_,rfl,.inr ⟨by simp,rfl,?_⟩⟩
    ·rw[j];simp only[iT,V _ _ (show (l.take k).length<=1048578 by omega),Is,ze,e];grind
    ·simp_all
   ·have j:q l[k]=false:=by grind
    refine ⟨(false,((k+1:Nat):Int),l.take k++ [l[k]]),?_,rfl,.inl ⟨by omega,rfl,(zX l k c).symm⟩⟩;rw[j];simp only[Iu,iF,V _ _ (show (l.take k).length<=1048578 by omega),Is,ze,e]
  ·have C:(l.take a++(x::(l.drop a).take (k - a))).length<=1048577:=by grind
   refine ⟨(true,((k+1:Nat):Int),(l.take a++(x::(l.drop a).take (k - a)))++ [l[k]]),?_,rfl,.inr ⟨by omega,rfl,?_⟩⟩
   ·simp only[Iz,Iu,iF,Is,ze,zb l k c,V _ _ (show (l.take a++(x::(l.drop a).take (k - a))).length<=1048578 by omega),e]
   ·grind
 ·rintro ⟨p,i,F⟩ ⟨d,b⟩;simp only at d b;refine ⟨.go (p,F),by simp_all,p,F,rfl,?_⟩;rcases b with ⟨g,m,n⟩ | ⟨g,m,n⟩
  ·grind
  ·exact .inr ⟨m,by rw[n,Jo (l:=l.drop a) (by simp)]⟩
 ·rintro _ ⟨p,F,rfl,⟨rfl,rfl,h⟩ | ⟨rfl,rfl⟩⟩
  ·simp_all
  ·trivial
theorem zqP {id:Int} (a:keysV d=true) (c:keysV (addKS d id key)=true):zh2 d id key=some (addKS d id key,true):=by
 have g:=((zbH d).1 a).2.1;have f:zbl (addKS d id key)=some true:=by rw[zp8,<-zqw,c]
 have b:(d.t.takeWhile λy=>!Dc (y.q>=id)).length=placeK d.t id:=by unfold placeK;grind
 unfold zh2;rw[zhE d (by omega),a,zmL d (by omega)];refine zw6 (λy:A6=>decide (y.q>=id)) (⟨id,key⟩:A6) 24 (by omega) d.t (by omega) rfl (λh=>?_) ?_
 ·rw[b]at h;rw[zf (by grind) (by grind)];have e:(⟨d.L,d.t++ [⟨id,key⟩],d.H⟩:A7)=addKS d id key:=by unfold addKS;simp_all
  simp_all
 ·rw[b];show (zbl (addKS d id key)).bind _=_;rw[f];rfl
theorem zx9 (a:keysV d=true) {id:Int} (b:j<d.t.length) (h:d.t[j].q=id):(d.t.filter λx=>!Dc (x.q=id))=d.t.take j++d.t.drop (j+1):=by have c:=Jc.1 ((zbH d).1 a).2.2.2.2;refine ziP d.t _ j b (by simp[h]) λi hi e=>?_;grind
theorem zpc {id:Int} (a:keysV d=true) (g: ∃x∈d.t,x.q=id) (h:d.H<1000000):zgS d id=some (wipeKS d id,true):=by
 obtain ⟨_,i,k,_,_⟩:=(zbH d).1 a;unfold zgS;rw[ziL,zhE d (by omega),a,zhJ d id (by omega),znX d (by omega)];rcases zkI (λx:A6=>decide (x.q=id)) d.t with ⟨j,c,e,b,_⟩ | ⟨_,b⟩
 ·rw[e];simp only[Is,Iz,Iu,iF];rw[iN (by simp)];simp only[Is];rw[dF,iN (by simp)];unfold zeC;have f:J7 ((j:Int)+1)=((j+1:Nat):Int):=by rw[za];omega
  rw[f,zR d.t j (j+1) _ _ rfl rfl (by omega) (by omega),zR d.t 0 j 0 (j:Int) rfl rfl (by omega) (by omega),zR d.t (j+1) d.t.length _ _ rfl rfl (by omega) (by omega),za (n:=d.H+1)];rw[iN (by grind)];unfold wipeKS;rw[zx9 a c (of_decide_eq_true b)];have l:(d.t.drop (j+1)).take (d.t.length - (j+1))=d.t.drop (j+1):=Jo (by simp);simp_all
 ·grind
theorem zrC (p:α->Bool) (by_:Nat) (b:by_<=100) (l:List α) (hl:l.length<=1048576) (h: ∀k (a:k<l.length) (A:List α),app by_ A [l[k]]=some (A++ [l[k]])->body ((k:Int),A)=some (.go (J7 ((k:Int)+1),if p l[k]=true then A++ [l[k]] else A))) (c: ∀A,body ((l.length:Int),A)=some (.done (.go A))) (d:f (l.filter p)=some z):bindC (loopO body ((0:Int),([]:List α))) f=some z:=by
 refine zI (λk (S:Int × List α)=>S=((k:Int),(l.take k).filter p)) l.length (λr=>r= .go (l.filter p)) rfl ?_ ?_ (λr e=>by simp_all)
 ·rintro k _ a rfl;left;refine ⟨_,h k a _ (zf ?_ ?_),?_⟩
  ·have:(((l.take k).filter p).length+([l[k]]:List α).length)*by_<=1048579*100:=Nu (by grind) b;omega
  ·grind
  ·rw[za (n:=(k:Int)+1),zdd p l k a];grind
 ·simp_all
theorem zpP {id:Int} (a:keysV d=true) (c: ∃x∈d.t,x.q=id) (e:d.H<1000000):zhu d id=some (wipeKS d id,true):=by
 obtain ⟨_,f,g,_,_⟩:=(zbH d).1 a;unfold zhu;rw[zhE d (by omega),a,zmL d (by omega)];refine zrC (λx:A6=>!Dc (x.q=id)) 24 (by omega) d.t (by omega) (λk b A h=>?_) (λA=>by simp) ?_
 ·simp only[zb d.t k b,Is];rw[iP];cases Dc (d.t[k].q=id) with
  | true=>rfl
  | false=>simp_all
 ·have i:(d.t.filter λx=>!Dc (x.q=id)).length<d.t.length:=by simp_all
  rw[iN (by grind)];simp only[Is];rw[dF,iN (by simp),za (n:=d.H+1)];rfl
def zkp (l:List Ar) (id:Int) (hl:l.length<=1048576):zhA l id=some (noLR id l):=by
 refine zrC (λx:Ar=>!Dc (x.q=id)) 48 (by omega) l hl (λk a h b=>?_) (λh=>by simp) rfl;simp only[zb l k a,Is];rw[iP];cases Dc (l[k].q=id) with
 | true=>rfl
 | false=>simp_all
theorem zwJ (p:α->Bool) (l:List α) (hl:l.length<=1048576) (a:Nat) (u:a<l.length) (v:p l[a]=true) (F: ∀i (hi:i<a),p (l[i]'(by omega))=false) {g:α->Option Bool} (w: ∀x,g x=some (p x)) {body:Int × Int × List α->Option (Ctl (Int × Int × List α) (Ctl (Int × List α) R))} {f:Int × List α->Option R} (y:body=λ(I:Int × Int × List α)=>if Dc (I.2.1<(I.2.2.length:Int)) then ((idx I.2.2 I.2.1).bind λJ=>
 (g J).bind λO=>
 bindC (if !O then ((idx I.2.2 I.1).bind λT=>
 some (.go (J7 (I.1+1),(I.2.2.set I.1.toNat J))))
 else (some (.go (I.1,I.2.2))))
 (λ(M:Int × List α)=>some (.go (M.1,J7 (I.2.1+1),M.2))))
 else (some (.done (.go (I.1,I.2.2))))) (G: ∀(i:Nat) ls,ls.length=l.length->i<=l.length->ls.take i=(l.filter λx=>!p x)->f ((i:Int),ls)=some z):bindC (loopO body ((a:Int),J7 ((a:Int)+1),l)) f=some z:=by
 refine zI (λk (S:Int × Int × List α)=>∃i:Nat,S.1=(i:Int)/\S.2.1=((a+1+k:Nat):Int)/\i<a+1+k/\(S.2.2.length=l.length/\∀q (b:q<l.length),a+1+k<=q->S.2.2[q]? =some l[q])/\S.2.2.take i=((l.take (a+1+k)).filter λx=>!p x)) (l.length - (a+1))
  (λr=>∃i ls,r= .go (((i:Nat):Int),ls)/\ls.length=l.length/\i<=l.length/\ls.take i=(l.filter λx=>!p x)) ?_ ?_ ?_ ?_
 ·refine ⟨a,rfl,by simp only;rw[za];omega,by omega,⟨rfl,λq b _=>by simp⟩,?_⟩;rw[Nz,zdd _ l a u,v];simp only[Iz,Iu,iF,Jk];rw[Jz.2];intro x A;obtain ⟨i,hi,rfl⟩:=Je A;grind
 ·rintro k ⟨B,C,ls⟩ H ⟨i,d,e,o,⟨j,m⟩,c⟩;simp only at d e o j m c;subst d e;left;have s:a+1+k<l.length:=by omega
  have D:idx ls ((a+1+k:Nat):Int)=some l[a+1+k]:=by rw[zb ls _ (by omega)];simp_all
  rw[y];simp only[D,Is,w];rw[iP (dT),za (n:=((a+1+k:Nat):Int)+1),show ((a+1+k:Nat):Int)+1=((a+1+(k+1):Nat):Int) by omega];have E:i<ls.length:=by omega
  cases t:p l[a+1+k] with
  | true=>refine ⟨_,rfl,i,rfl,rfl,by omega,⟨j,λq b h=>m q b (by omega)⟩,?_⟩;rw[c,show a+1+(k+1)=(a+1+k)+1 by omega,zdd _ l (a+1+k) s,t];simp
  | false=>
    simp only[Jm,iT,Iy,zb ls i E,Is,ze];rw[za (n:=(i:Int)+1)];refine ⟨_,rfl,i+1,by simp,rfl,by omega,⟨by simp_all,λq b h=>?_⟩,?_⟩
    ·rw[Mw (by omega)];grind
    ·rw[zX _ i (by simp_all),Kc,Lm (Ji _),c,show a+1+(k+1)=(a+1+k)+1 by omega,zdd _ l (a+1+k) s,t];rfl
 ·rintro ⟨B,C,ls⟩ ⟨i,d,e,o,⟨j,m⟩,c⟩;have U:a+1+(l.length - (a+1))=l.length:=by omega
  grind
 ·simp_all
theorem zuL (l:List Ar) (id:Int) (hl:l.length<=1048576):zJ l id=some (noLR id l):=by
 have hi:zK l id=some (fstV (λt=>decide (t.q=id)) l):=by unfold zK fstV;rw[zgm (λt:Ar=>decide (t.q=id)) l (by omega) (λj=>j) rfl (λk b=>?_) (by simp)];simp only[zb l k b,Is,zbT];rw[iP,za];grind
 unfold zJ;rw[hi,Is];rcases zkI (λt:Ar=>decide (t.q=id)) l with ⟨j,c,e,a,d⟩ | ⟨e,a⟩
 ·rw[e,dF,iN (by simp)];refine zwJ (λt:Ar=>decide (t.q=id)) l hl j c a d (g:=λx=>zbT x id) (λx=>rfl) rfl λi ls h m f=>?_;rw[zR ls i ls.length _ _ rfl rfl (by omega) (by omega),zR ls 0 i 0 (i:Int) rfl rfl (by omega) (by omega)];simp only[Is,Mv,Oa];rw[f];rfl
 ·rw[e];simp only[decide_true,iT];unfold noLR;rw[Jz.2 λx n=>by simp_all]
def zjm (s:Af) (id:Int) (hl:s.D.length<=1048576):zbI s id=some ⟨s.F,s.m,s.u,s.a,noLR id s.D,s.I,s.B⟩:=by unfold zbI;rw[zuL s.D id hl];rfl
theorem zvJ (l:List Am) (id:Int) (hl:l.length<=1048576):zM l id=some (noTE id l):=by
 have hi:zO l id=some (fstV (λt=>decide (t.r=id)) l):=by unfold zO fstV;rw[zgm (λt:Am=>decide (t.r=id)) l (by omega) (λj=>j) rfl (λk b=>?_) (by simp)];simp only[zb l k b,Is,zch];rw[iP,za];grind
 unfold zM;rw[hi,Is];rcases zkI (λt:Am=>decide (t.r=id)) l with ⟨j,c,e,a,d⟩ | ⟨e,a⟩
 ·rw[e,dF,iN (by simp)];exact zwK (λt:Am=>decide (t.r=id)) l (by omega) j c a d (g:=λx=>zch x id) (λx=>rfl) rfl λi ls f h m=>zxw l _ i ls f h m
 ·rw[e];simp only[decide_true,iT];unfold noTE;rw[Jz.2 λx n=>by simp_all]
theorem zrv (key:J2): ∀(A:List Ar) (e:Aa),(repS key e A).2=true->∀r∈A,r.P.length<=300
 | [],_,_,r,a=>by trivial
 | q::A,e,h,r,a=>by
   simp only[repS]at h;cases b:(openB key q.B q.c q.P).2&&(putR e (openB key q.B q.c q.P).1).2 with
   | false=>rw[b]at h;cases h
   | true=>
     rw[b]at h;rcases Ko.1 a with rfl | a
     ·have d:=(Jf _ _ ▸ b:_/\_).1;unfold openB at d;grind
     ·exact zrv key A _ h r a
theorem zul: ∀(ids:List Int) (l:List Ar),(∀r∈l,r.q∈ids)->(∀id∈ids,(ofLR id l).length<=6)->l.length<=6*ids.length
 | [],l,h,_=>by
   cases l with
   | nil=>simp
   | cons r l=>have:=h r (by simp);cases this
 | id::ids,l,h,c=>by
   have d:=c id (by simp);have g:l.length=(ofLR id l).length+(noLR id l).length:=by
    unfold ofLR noLR;clear h c d;induction l with
    | nil=>rfl
    | cons r l ih=>grind
   have i:=zul ids (noLR id l) (λr f=>by
    obtain ⟨a,b⟩:=Jj.1 f;rcases Ko.1 (h r a) with e | e
    ·simp_all
    ·exact e) λk j=>Ku (by
     have:(ofLR k (noLR id l)).Sublist (ofLR k l):=List.filter_sublist.filter _;grind) (c k (by simp_all))
   grind
theorem storeP.rlen (h:storeP s):s.D.length<=24:=by
 have f:=zul (s.a.map Am.r) s.D (λr c=>by obtain ⟨t,b,e⟩:=h.rows r c;rw[<-e];exact Lc b) λid d=>by obtain ⟨t,b,rfl⟩:=Nb.1 d;exact (h.tens t b).few
 have:=h.lens;grind
def tenP.small {rows:List Ar} (h:tenP key rows t):smallT t:=by obtain ⟨a,b,c,d,_⟩:=zbG h.eng;exact ⟨a,b,c,d⟩
def storeP.small {s:Af} (h:storeP s):smallS s:=by obtain ⟨c,d,f⟩:=h.lens;have g:=h.rlen;have i:=h.hist;refine ⟨λt a=>(h.tens t a).small,by omega,λr b=>?_,by omega,by omega,by omega,by omega⟩;obtain ⟨t,a,e⟩:=h.rows r b;have:=zrv _ _ _ (h.tens t a).runs r (Jj.2 ⟨b,dT e.symm⟩);omega
theorem zst (l:List Am) (hl:l.length<=1048576) (h:Am->Am) {body:Int × List Am->Option (Ctl (Int × List Am) (Ctl (List Am) R))} {f:List Am->Option R} (b: ∀k (a:k<l.length) A,body ((k:Int),A)=(app 104 A [h l[k]]).bind λE=>some (.go (J7 ((k:Int)+1),E))) (c: ∀A,body ((l.length:Int),A)=some (.done (.go A))) (d:f (l.map h)=some z):
 bindC (loopO body ((0:Int),([]:List Am))) f=some z:=by
 obtain ⟨r,e,rfl⟩:=zbi (body:=body) (s0:=((0:Int),([]:List Am))) (λk (S:Int × List Am)=>S=((k:Int),(l.take k).map h)) l.length (λr=>r= .go (l.map h)) rfl (by
  rintro k _ a rfl;left;refine ⟨_,?_,rfl⟩;rw[b k a,zf (by grind) (by grind),za (n:=(k:Int)+1),zX l k a,Kq];rfl) (by
  simp_all)
 simp_all
structure boundS (s:Af):Prop where
 slots:s.m.t.length<=5
 shares:s.u.j.length<=5
 tens:s.a.length<=5
 each: ∀t∈s.a,engV t.b=true
 rows:s.D.length<=25
 hist:s.I.length<=121
def storeP.bound (h:storeP s):boundS s:=by obtain ⟨b,c,d⟩:=h.lens;have e:=h.rlen;have f:=h.hist;exact ⟨by omega,by omega,by omega,λt a=>(h.tens t a).eng,by omega,by omega⟩
theorem zqV (h:boundS s):zd0 s=some s:=by have g:=h.slots;have i:=h.shares;have j:=h.tens;have l:=h.rows;have m:=h.hist;unfold zd0;rw[zmL _ (by omega),zeQ _ (by omega),zf (by grind) (by grind),zf (by simp only[Ly];omega) (by simp only[Ly];omega)];refine zst s.a (by omega) id (λk f A=>?_) (λA=>by simp) (by simp);obtain ⟨a,b,c,d,e⟩:=zbG (h.each _ (Iv f));simp only[zb s.a k f,Is,zb5 _ a b e d];simp_all
def zkn (h:storeP s):zd0 s=some s:=zqV h.bound
theorem zvN (l:List Am) (j:Nat) (d:j<l.length) (h:l[j].b.s.length<=1048576): ∃b,zca l (j:Int)=some (b,l.set j ⟨l[j].r,l[j].K,l[j].O,(flushS l[j].b).2⟩):=by
 have a:=zl0 l[j].b h;unfold zfe at a;unfold zca;rw[zb l j d];simp only[Is,Iy];cases c:(if Dc (((l[j].b.x.length:Nat):Int)=0) then (some true) else (some (Dc (((l[j].b.s.length:Nat):Int)>=6)))) with
 | none=>rw[c]at a;cases a
 | some T=>
   rw[c]at a;simp only[Is]at a |-
   cases T with
   | true=>
     simp only[iT,Js]at a |-
     refine ⟨false,?_⟩;rw[<-a];show (false,l)=(false,l.set j l[j]);simp
   | false=>
     cases e:zbn l[j].b.s (0:Int) ([l[j].b.x]) with
     | none=>rw[e]at a;cases a
     | some R=>exact ⟨true,by grind⟩
theorem zvO (e:Am) (h:e.b.s.length<=1048576): ∃b,zcb e=some (b,⟨e.r,e.K,e.O,(flushS e.b).2⟩):=by
 have a:=zl0 e.b h;unfold zfe at a;unfold zcb;cases c:(if Dc ((e.b.x.length:Int)=0) then (some true) else (some (Dc ((e.b.s.length:Int)>=6)))) with
 | none=>rw[c]at a;cases a
 | some T=>
   rw[c]at a;simp only[Is]at a |-
   cases T with
   | true=>
     simp only[iT,Js]at a |-
     refine ⟨false,?_⟩;rw[<-a]
   | false=>
     cases d:zbn e.b.s 0 ([e.b.x]) with
     | none=>rw[d]at a;cases a
     | some R=>exact ⟨true,by grind⟩
theorem zv7 (l:List Am) (j:Nat) (g:j<l.length) (h:engV l[j].b=true): ∃b,zcc l (j:Int)=some (b,l.set j ⟨l[j].r,l[j].K,l[j].O,(mergeS l[j].b).2⟩):=by
 have a:=ziE h;unfold zff at a;unfold zcc;rw[zb l j g];simp only[Is,Iy];cases c:Dc (((l[j].b.s.length:Nat):Int)=0) with
 | true=>
   rw[c]at a;simp only[iT,Js]at a |-
   refine ⟨false,?_⟩;rw[<-a];show (false,l)=(false,l.set j l[j]);simp
 | false=>
   rw[c]at a;cases d:zbZ l[j].b.s with
   | none=>rw[d]at a;cases a
   | some R=>
     rw[d]at a;simp only[Is]at a |-
     cases e:zbU R l[j].b.A true with
     | none=>rw[e]at a;cases a
     | some C=>
       rw[e]at a;simp only[Is]at a |-
       cases f:Dc ((C.length:Int)>0) with
       | true=>
         rw[f]at a;simp only[iT,ze,Js]at a |-
         exact ⟨true,by grind⟩
       | false=>
         rw[f]at a;simp only[Iu,iF,ze,Js]at a |-
         exact ⟨true,by grind⟩
theorem zv8 (e:Am) (h:engV e.b=true): ∃b,zcd e=some (b,⟨e.r,e.K,e.O,(mergeS e.b).2⟩):=by
 have a:=ziE h;unfold zff at a;unfold zcd;cases c:Dc ((e.b.s.length:Int)=0) with
 | true=>
   rw[c]at a;simp only[iT,Js]at a |-
   exact ⟨false,by rw[<-a]⟩
 | false=>
   rw[c]at a;cases d:zbZ e.b.s with
   | none=>rw[d]at a;cases a
   | some R=>
     rw[d]at a;simp only[Is]at a |-
     cases f:zbU R e.b.A true with
     | none=>rw[f]at a;cases a
     | some C=>
       rw[f]at a;simp only[Is]at a |-
       cases g:Dc ((C.length:Int)>0) with
       | true=>
         rw[g]at a;simp only[iT,ze,Js]at a |-
         exact ⟨true,by grind⟩
       | false=>
         rw[g]at a;simp only[Iu,iF,ze,Js]at a |-
         exact ⟨true,by grind⟩
theorem zo5 (e:Am) (l:List Op) (d:engV e.b=true) (j:batchV l=true):zb1 e l=some (okB e.b l,⟨e.r,e.K,e.O,engB e.b l⟩):=by
 obtain ⟨t,u,v,w,y,_⟩:=z8 d;obtain ⟨f,h,z⟩:=zhG d j;have m:J7 (e.b.c+1)=e.b.c+1:=za;obtain ⟨A,B,C,D⟩:=zgD l (e.b.c+1) e.b.x f h (by omega) l.length (Ji _);unfold zb1;simp only[m];rw[zh (λk=>(true,(k:Int),memB l (e.b.c+1) e.b.x k)) l.length (r:=Ctl.go (true,memB l (e.b.c+1) e.b.x l.length)) ?h0]
 case h0=>rfl
 ·simp only[ze,iT,zkc e.b.s (by omega) (by omega),Is];rw[za];unfold okB engB;have E:Dc ((totalV e.b.s:Int)+(((memB l (e.b.c+1) e.b.x l.length).length:Nat):Int)<=400)=Dc (totalV e.b.s+(memB l (e.b.c+1) e.b.x l.length).length<=400):=decide_eq_decide.2 (by omega);grind
 ·intro k a;have o:piece l (J7 ((k:Int)+1)) (l.length:Int)=some (l.drop (k+1)):=by rw[za,zR l (k+1) l.length _ _ (by omega) rfl (by omega) (Ji _),Jo (by simp)]
  simp only[zb l k a,Is,o,zlY _ l[k] (by simp;omega:(l.drop (k+1)).length<=1048576)];rw[iP (by simpa using a),za (n:=(k:Int)+1)];have p:((l.drop (k+1)).any λx=>decide (x.g=l[k].g))=laterV l k l[k].g:=rfl;rw[p];cases i:laterV l k l[k].g with
  | true=>rw[zhm l _ _ k a i];rfl
  | false=>have q:=(zmQ l (e.b.c+1) e.b.x f h (by omega) k a i).1;unfold entO at q;simp_all
 ·simp
def zt0 (l:List Am) (j:Nat) (a:j<l.length) (h:engV l[j].b=true):zbR l (j:Int)=some (allR l[j].b):=by have c:=zpb h;unfold zbR;rw[zb l j a];trivial
def zmO (l:List Am) (j:Nat) (d:j<l.length) (h:engV l[j].b=true):zbJ l (j:Int)=some (mapR l[j].b l[j].b.c):=by obtain ⟨a,b⟩:=zd4 h;unfold zbJ mapR;rw[zb l j d,zt0 l j d h,h];simp only[Is,zpm _ l[j].b.c a (by omega),cT]
def zww (l:List Am) (j:Nat) (c:j<l.length) (h:engV l[j].b=true) (key:J2) (seq:Int):zce l (j:Int) key seq=some (getR l[j].b key seq):=by obtain ⟨a,b⟩:=zd4 h;unfold zce getR;rw[zb l j c,zt0 l j c h,h];simp only[Is,ztE _ key seq (by omega:(allR l[j].b).length<=1048576),cT];exact zuB _
theorem zrK (l:List Am) (j:Nat) (a:j<l.length) (h:engV l[j].b=true) (key:J2) (seq:Int):zbt l (j:Int) key seq=some (valR l[j].b key seq):=by unfold zbt valR;rw[zb l j a,zww l j a h];simp only[Is,no_R];grind
theorem zlb (h:engV e=true) (key:J2) (seq:Int):zf3 e key seq=some (valR e key seq):=by obtain ⟨a,b,c,d,_⟩:=zbG h;unfold zf3 valR;rw[zqN e key seq a b c d];simp only[Is,zgC];grind
def zik (h:storeP s) (id:Int):zbN s id=some (atE s.a id):=zos s id h.small.tens
def zqx (h:storeP s) (id:Int):zfB s.a id=some (atE s.a id):=zsf s.a id h.small.tens
def zmg (h:storeP s) (j:Nat) (c:j<s.a.length) (id:Int) (f:s.a[j].r=id) (g:atE s.a id=(j:Int)):zea s id=some (codeR 0,flushO s (j:Int)):=by
 subst f;have A:=h.tens _ (Iv c);have m:=h.small.rows;obtain ⟨n,i⟩:=zvN s.a j c (by have:=A.tabs;omega);unfold zea;rw[zik h,g,Is,zb _ j c,Is,i];simp only[Is];have d:j<(s.a.set j ⟨s.a[j].r,s.a[j].K,s.a[j].O,(flushS s.a[j].b).2⟩).length:=by simp_all
 have e:(s.a.set j ⟨s.a[j].r,s.a[j].K,s.a[j].O,(flushS s.a[j].b).2⟩)[j]=⟨s.a[j].r,s.a[j].K,s.a[j].O,(flushS s.a[j].b).2⟩:=Kc _;obtain ⟨o,k⟩:=zv7 _ j d (by rw[e];exact zh8 A.eng);rw[zb _ j d,Is,k,e,Nd];simp only[Is];have l:j<(s.a.set j ⟨s.a[j].r,s.a[j].K,s.a[j].O,(mergeS (flushS s.a[j].b).2).2⟩).length:=by simp_all
 rw[zb _ j l,Kc];rw[zjm]
 ·simp only[Is,Iy,Nd];unfold flushO;rw[zo _ j c,Iy];rfl
 ·trivial
def zjN (h:storeP s) (j:Nat) (e:j<s.a.length):zes s (j:Int)=some (flushO s (j:Int)):=by
 have A:=h.tens _ (Iv e);obtain ⟨a,b,c,d,_⟩:=zbG A.eng;obtain ⟨f,g,i,k,_⟩:=zbG (zh8 A.eng);have l:(flushR s.a[j].b).1=(flushS s.a[j].b).2:=by unfold flushR;rw[A.eng];rfl
 have m:(mergeER (flushS s.a[j].b).2).1=flatE s.a[j].b:=by unfold mergeER;rw[zh8 A.eng];rfl
 unfold zes;rw[zb _ j e,Is,zoN _ a b c d,Is,l,zoO _ f g i k,Is,m,zkp _ _ h.small.rows];unfold flushO;rw[zo _ j e];rfl
theorem zu9 (h:storeP s) (j:Nat) (b:j<s.a.length) (d:Int):quoV d s.u s.a[j].r=quoV (-1) s.u s.a[j].r:=by unfold quoV;have c:s.a[j].r∈s.a.map Am.r:=Lc (Iv b);rw[h.ids]at c;grind
def zxz (e:Aa):(⟨(flushS e).2.x,(flatE e).s,(flatE e).c,e.A⟩:Aa)=flatE e:=by obtain ⟨a,b,c⟩:=zlB (flushS e).2;have d:=(zeT e).2;have f:(flatE e).x=(flushS e).2.x:=a;rw[<-f,<-d]
def zwT (e:Aa):(⟨(flushS e).2.x,(flushS e).2.s,(flushS e).2.c,e.A⟩:Aa)=(flushS e).2:=by have:=(zo9 e).2;rw[<-this]
theorem zp7 (m:List KV) (ops:List Op) (b:srtK m) (c: ∀x∈m,kvV x=true) (d:m.length<=100000) (e:ops.length<=1048576):zcs m ops=some (bif batchV ops then (applyK m ops,true) else (m,false)):=by
 by_cases f:ops.length<=1000
 ·exact zrM _ _ b c d f
 ·have a:batchV ops=false:=by
   cases a:batchV ops with
   | false=>rfl
   | true=>have:=(zcm a).1;omega
  unfold zcs;rw[zlh m b c (by omega)];rw[zf (by grind) (by grind),zdo ops e,a];rfl
theorem zqo (h:storeP s) (j:Nat) (d:j<s.a.length) (c:As) (g:c.Q.length<=1048576):zbC s (j:Int) c=some ((writeS s (j:Int) c.Q).2,(writeS s (j:Int) c.Q).1):=by
 have hT:=h.tens _ (Iv d);have hs:=h.small;have N:=h.rlen;obtain ⟨l,n,P,o,p⟩:=zbG hT.eng;unfold zbC writeS;rw[zb _ j d,zo _ j d];simp only[Is,no_R];have q:Dc ((s.I.length:Int)>=120)=Dc (120<=s.I.length):=decide_eq_decide.2 (by omega);rw[q];by_cases t:120<=s.I.length
 ·simp_all
 rw[dF t];simp only[Iu,iF,zeH c.Q g,Is,cF];cases e:batchV c.Q with
 | false=>rfl
 | true=>
 have R:=(zcm e).1;have S:=zjC s.a[j].b s.a[j].b.c;have T:=ziM c.Q (mapR s.a[j].b s.a[j].b.c);have v:srtK (mapR s.a[j].b s.a[j].b.c):=zoB hT.eng _;have w:=znj hT.eng s.a[j].b.c;simp only[Iz,Iu,iF,cT,zmO _ j d hT.eng,Is,zph (mapR s.a[j].b s.a[j].b.c) c.Q v (by omega) (by omega),zj6 _ (zq3 w e) (by omega),zpk s.u _ hs.shares,zu9 h j d 0];cases Dc ((bytesN (applyK (mapR s.a[j].b s.a[j].b.c) c.Q):Int)>quoV (-1) s.u s.a[j].r) with
 | true=>rfl
 | false=>
 have er:rowsV s s.a[j].r=ofLR s.a[j].r s.D:=rfl;have y:Dc ((((ofLR s.a[j].r s.D).length:Nat):Int)>=6)=Dc (6<=(ofLR s.a[j].r s.D).length):=decide_eq_decide.2 (by omega);simp only[Iu,iF,cF,zj7 _ l n p o,zgY s _ hs.rows,Is,er,y];unfold roomS;rw[zo _ j d];cases U:Dc (6<=(ofLR s.a[j].r s.D).length) with
 | false=>
   have i:=zo5 ⟨s.a[j].r,s.a[j].K,s.a[j].O,⟨s.a[j].b.x,s.a[j].b.s,s.a[j].b.c,s.a[j].b.A⟩⟩ c.Q hT.eng e;have f:(engB s.a[j].b c.Q).c=s.a[j].b.c+1:=rfl;simp only[Iu,iF,cF,ze,i,Is,zin s.m _ hs.slots,ziF _ _ _ c.Q g,f];rw[zo _ j d];cases z:okB s.a[j].b c.Q with
   | false=>rfl
   | true=>
     simp only[Iz,Iu,iF,Is,Kv];cases C:Dc (sealB (keyOfV s.m s.a[j].r) s.B (s.a[j].b.c+1) c.Q= []) with
     | true=>rfl
     | false=>simp only[Iu,iF,Jm,cT];rw[zf (by grind) (by grind),zf (by simp only[Jh];omega) (by simp only[Jh];omega)];simp only[Is,Iy];unfold putS;rw[zo _ j d];rfl
 | true=>
   obtain ⟨V,E⟩:=zvO ⟨s.a[j].r,s.a[j].K,s.a[j].O,s.a[j].b⟩ (by trivial);obtain ⟨W,F⟩:=zv8 ⟨s.a[j].r,s.a[j].K,s.a[j].O,(flushS s.a[j].b).2⟩ (zh8 hT.eng);have G:=zqh hT.eng;have i:=zo5 ⟨s.a[j].r,s.a[j].K,(flatE s.a[j].b).c,flatE s.a[j].b⟩ c.Q G e;have f:(engB (flatE s.a[j].b) c.Q).c=s.a[j].b.c+1:=by show (flatE s.a[j].b).c+1=_;rw[(zeT _).1]
   have H:(mergeS (flushS s.a[j].b).2).2=flatE s.a[j].b:=rfl;have k:tenE (flushO s (j:Int)).a (j:Int)=flushT s.a[j]:=by unfold flushO;simp only[Iy];rw[zo _ j (by simp_all),Kc,zo _ j d]
   simp only[iT,cT,E,Is,zwT,F,ze,H,zxz,i,zin s.m _ hs.slots,ziF _ _ _ c.Q g,f,k];have J:(flushT s.a[j]).b=flatE s.a[j].b:=rfl;rw[J];cases z:okB (flatE s.a[j].b) c.Q with
   | false=>rfl
   | true=>
     simp only[Iz,Iu,iF,Is,Kv];cases C:Dc (sealB (keyOfV s.m s.a[j].r) s.B (s.a[j].b.c+1) c.Q= []) with
     | true=>rfl
     | false=>
       have X:(noLR s.a[j].r s.D).length<=s.D.length:=Kd _ _;simp only[Iu,iF,iT,Jm,cT,zjm s _ hs.rows,Is,ze];rw[zf (by grind) (by grind),zf (by simp only[Jh];omega) (by simp only[Jh];omega)];simp only[Is,Iy];have Y:(flatE s.a[j].b).c=s.a[j].b.c:=(zeT _).1;have L:(engB (flatE s.a[j].b) c.Q).s=(flatE s.a[j].b).s:=rfl;have M:(engB (flatE s.a[j].b) c.Q).A=s.a[j].b.A:=(zeT _).2;unfold putS;rw[k];unfold flushO;rw[zo _ j d];simp only[Iy,Nd];unfold flushT;rw[<-L,<-M];have Z:(⟨(engB (flatE s.a[j].b) c.Q).x,(engB (flatE s.a[j].b) c.Q).s,s.a[j].b.c+1,(engB (flatE s.a[j].b) c.Q).A⟩:Aa)=engB (flatE s.a[j].b) c.Q:=by rw[<-f]
       simp_all
theorem zoY (h:storeP s) (j:Nat) (d:j<s.a.length) (ops:List Op) (f:ops.length<=1048576):zgg s (j:Int) ops=some (writeS s (j:Int) ops):=by
 have hT:=h.tens _ (Iv d);have hs:=h.small;have N:=h.rlen;have P:=h.hist;have z:=hT.seq;have Q:=hT.base;have R:=(z8 hT.eng).1;obtain ⟨p,q,t,v,S⟩:=zbG hT.eng;unfold zgg writeS;rw[zb _ j d,zo _ j d];have A:Dc ((s.I.length:Int)>=120)=Dc (120<=s.I.length):=decide_eq_decide.2 (by omega);rw[A];by_cases w:120<=s.I.length
 ·rw[dT w];rfl
 rw[dF w];have T:=zjC s.a[j].b s.a[j].b.c;have U:=ziM ops (mapR s.a[j].b s.a[j].b.c);have x:srtK (mapR s.a[j].b s.a[j].b.c):=zoB hT.eng _;have y:=znj hT.eng s.a[j].b.c;simp only[Iu,iF,zhO _ _ p q t v,Is,cF];rw[zp7 _ ops x y (by omega) f];cases e:batchV ops with
 | false=>rfl
 | true=>
 have V:=(zcm e).1;simp only[cT,Is,Iz,Iu,iF,zl5 (applyK (mapR s.a[j].b s.a[j].b.c) ops) (zlk ops x) (zq3 y e) (by omega),zoU s.u _ hs.shares];cases Dc ((bytesN (applyK (mapR s.a[j].b s.a[j].b.c) ops):Int)>quoV (-1) s.u s.a[j].r) with
 | true=>rfl
 | false=>
 have er:rowsV s s.a[j].r=ofLR s.a[j].r s.D:=rfl;rw[er]at z;have C:Dc (J7 (s.a[j].b.c - s.a[j].O)>=6)=Dc (6<=(ofLR s.a[j].r s.D).length):=by rw[za];exact decide_eq_decide.2 (by omega)
 simp only[Iu,iF,cF,C];unfold roomS;rw[zo _ j d];cases W:Dc (6<=(ofLR s.a[j].r s.D).length) with
 | false=>
   simp only[Iu,iF,cF,zhP _ ops p q t v f,Is,zix s.m _ hs.slots,ziJ _ _ _ ops f];rw[zo _ j d];cases g:okB s.a[j].b ops with
   | false=>
     have:putR s.a[j].b ops=(s.a[j].b,false):=by unfold putR;rw[hT.eng,e,g];rfl
     rw[this];rfl
   | true=>
     have:putR s.a[j].b ops=(engB s.a[j].b ops,true):=by unfold putR;rw[hT.eng,e,g];rfl
     have k:(engB s.a[j].b ops).c=s.a[j].b.c+1:=rfl;rw[this];simp only[Iz,Iu,iF,Is,Kv,k];cases E:Dc (sealB (keyOfV s.m s.a[j].r) s.B (s.a[j].b.c+1) ops= []) with
     | true=>rfl
     | false=>simp only[Iu,iF,Jm,cT];rw[zf (by grind) (by grind),zf (by simp only[Jh];omega) (by simp only[Jh];omega)];unfold putS;rw[zo _ j d];rfl
 | true=>
   have X:=zmt h j d;have i:j<(flushO s (j:Int)).a.length:=by unfold flushO;simpa using d
   have l:(flushO s (j:Int)).a[j]=flushT s.a[j]:=by rw[<-zo _ j i];unfold flushO;simp only[Iy];rw[zo _ j (by simpa using d),Kc,zo _ j d]
   have n:=zqh hT.eng;obtain ⟨F,y2,G,H,Y⟩:=zbG n;have o:(flushT s.a[j]).b=flatE s.a[j].b:=rfl;have J:(flushO s (j:Int)).m=s.m:=rfl;have K:(flushO s (j:Int)).B=s.B:=rfl;simp only[iT,cT,zkn h,Is,zjN h j d,zb _ j i,l,o,zhP _ ops F y2 G H f,J,K,zix s.m _ hs.slots,ziJ _ _ _ ops f];rw[zo _ j i,l,o];cases g:okB (flatE s.a[j].b) ops with
   | false=>
     have:putR (flatE s.a[j].b) ops=(flatE s.a[j].b,false):=by unfold putR;rw[n,e,g];rfl
     rw[this];rfl
   | true=>
     have:putR (flatE s.a[j].b) ops=(engB (flatE s.a[j].b) ops,true):=by unfold putR;rw[n,e,g];rfl
     have k:(engB (flatE s.a[j].b) ops).c=s.a[j].b.c+1:=by show (flatE s.a[j].b).c+1=_;rw[(zeT _).1]
     rw[this];simp only[Iz,Iu,iF,Is,Kv,k];cases E:Dc (sealB (keyOfV s.m s.a[j].r) s.B (s.a[j].b.c+1) ops= []) with
     | true=>rfl
     | false=>
       have Z:(flushO s (j:Int)).D.length<=s.D.length:=by unfold flushO;exact Kd _ _
       have L:(flushO s (j:Int)).I=s.I:=rfl;have M:(flatE s.a[j].b).c=s.a[j].b.c:=(zeT _).1;simp only[Iu,iF,Jm,cT,L];rw[zf (by simp only[Jh];omega) (by simp only[Jh];omega),zf (by simp only[Jh];omega) (by simp only[Jh];omega)];unfold putS;rw[zo _ j i,l];simp only[Is,o,M];rfl
theorem zqW (l:List Am) (t:Am) (hl:l.length<=1000000) (E: ∀x∈l,¬x.r=t.r):zh6 l t=some (insTE l t):=by
 obtain ⟨y,t2,z⟩:=zhT (λx:Am=>decide (x.r<t.r)) l;have W:(⟨t.r,t.K,t.O,⟨t.b.x,t.b.s,t.b.c,t.b.A⟩⟩:Am)=t:=rfl;unfold zh6 insTE placeE;generalize (l.takeWhile λx:Am=>decide (x.r<t.r)).length=a at y t2 z;have V: ∀(J:List Am) (x:Am),J.length<=1000001->app 104 J [x]=some (J++ [x]):=λJ x h=>zf (by grind) (by grind);refine zI (λk (S:Bool × Int × List (Option Am) × Option (List Ac) × Option (List (List Ac)) × Option (List Int) × List Am)=>S.2.1=(k:Int)/\wholeO l k S.2.2.1/\
  ((k<=a/\S.1=false/\S.2.2.2.1=some t.b.x/\S.2.2.2.2.1=some t.b.s/\S.2.2.2.2.2.1=some t.b.A/\S.2.2.2.2.2.2=l.take k)\/(a<k/\S.1=true/\S.2.2.2.2.2.2=l.take a++(t::(l.drop a).take (k - a))))) l.length
  (λr=>∃p M U T J,r= .go (p,M,U,T,J)/\((p=false/\M=some t.b.x/\U=some t.b.s/\T=some t.b.A/\J=l/\a=l.length)\/(p=true/\J=l.take a++(t::l.drop a)))) ⟨rfl,zvo l,.inl ⟨Ja _,rfl,rfl,rfl,rfl,by simp⟩⟩ ?_ ?_ ?_
 ·rintro k ⟨p,i,ls,M,U,T,J⟩ m ⟨e,d,f⟩;subst e;left;have n:=zp6 d m;have o:J7 ((k:Int)+1)=((k+1:Nat):Int):=by rw[za];omega
  have q:wholeO l (k+1) (ls.set ((k:Nat):Int).toNat none):=zlV (zkC d) (by simp);have u:(Dc ((k:Int)<(ls.length:Int)))=true:=by rw[d.1];simp_all
  have F:(l.drop a).take (k+1 - a)=(l.drop a).take (k - a)++(if a<=k then [l[k]] else []):=by
   by_cases B:a<=k
   ·rw[iP B,show k+1 - a=(k - a)+1 by omega,zX _ _ (by grind),Lf];simp_all
   ·grind
  rcases f with ⟨g,rfl,rfl,rfl,rfl,rfl⟩ | ⟨g,rfl,rfl⟩
  ·have C:(l.take k).length<=1000000:=by grind
   by_cases D:k=a
   ·subst D;have j:Dc (l[k].r>t.r)=true:=by grind
    refine ⟨(true,((k+1:Nat):Int),ls.set ((k:Nat):Int).toNat none,none,none,none,(l.take k++ [t])++ [l[k]]),?_,rfl,q,.inr ⟨by simp,rfl,?_⟩⟩
    ·simp only[u,iT,Jm,n,Is,j,W,V _ _ (show (l.take k).length<=1000001 by omega),ze,o];simp_all
    ·simp_all
   ·have j:Dc (l[k].r>t.r)=false:=by grind
    refine ⟨(false,((k+1:Nat):Int),ls.set ((k:Nat):Int).toNat none,some t.b.x,some t.b.s,some t.b.A,l.take k++ [l[k]]),?_,rfl,q,.inl ⟨by omega,rfl,rfl,rfl,rfl,(zX l k m).symm⟩⟩;simp only[u,iT,Jm,n,Is,j,Iu,iF,V _ _ (show (l.take k).length<=1000001 by omega),ze,o]
  ·have C:(l.take a++(t::(l.drop a).take (k - a))).length<=1000001:=by grind
   simp_all;omega
 ·rintro ⟨p,i,ls,M,U,T,J⟩ ⟨e,d,f⟩;simp only at e d f;subst e;refine ⟨_,iN (by rw[d.1];simp),p,M,U,T,J,rfl,?_⟩;rcases f with ⟨g,v,w,G,H,I⟩ | ⟨g,v,w⟩
  ·grind
  ·exact .inr ⟨v,by rw[w,Jo (l:=l.drop a) (by simp)]⟩
 ·rintro _ ⟨p,M,U,T,J,rfl,⟨rfl,rfl,rfl,rfl,rfl,rfl⟩ | ⟨rfl,rfl⟩⟩
  ·simp only[ze,Jm,iT,Is,W];rw[V _ _ (by omega)];simp
  ·rfl
theorem zun (h:storeP s) {id:Int} (b: ∀x∈s.a,¬x.r=id): ∀x∈s.m.t,¬x.q=id:=by
 intro x c e;have d:x.q∈s.a.map Am.r:=by rw[h.slots];grind
 grind
theorem zpd (h:storeP s) (c:As):zdE s c=some ((createS s c).2,(createS s c).1):=by
 have hs:=h.small;obtain ⟨o,p,t⟩:=h.lens;unfold zdE createS;simp only[zuV,zrg,zik h,no_R,zj4 s.u _ _ hs.shares,zdD,len32,Is];cases f:Dc (1<=c.q/\c.q<=99) with
 | false=>rfl
 | true=>
 cases Dc (0<=c.N/\c.N<=40) with
 | false=>rfl
 | true=>
 cases i:Dc (c.g.length=32) with
 | false=>rfl
 | true=>
 rcases zcC s.a c.q with ⟨j,v,e,_,_⟩ | ⟨e,l⟩
 ·simp_all
 ·rw[e];simp only[Iz,Iu,iF,Is,My,show Dc ((-1:Int)>=0)=false from rfl,cF];by_cases m:4<=s.a.length
  ·grind
  ·rw[dF,dF m];have d:=zun h l;have b:=zqj h.keys d (zob (key:=c.g) h.keys (of_decide_eq_true f) (of_decide_eq_true i) (by omega) d);simp only[Iu,iF,cF,b,Is];cases (setR s.u c.q c.N).2 with
   | false=>rfl
   | true=>
     simp only[Iz,Iu,iF,cT];have n:placeE s.a c.q<=s.a.length:=(zhT _ _).1;rw[zp5 (R:=At × Af) (λx:Am=>decide (x.r<c.q)) s.a hs.tens (λk b=>?_) (by simp)]
     ·simp only[ze];unfold zeE ins;rw[iP ⟨by omega,by exact_mod_cast n,by grind,by grind⟩,Iy];rfl
     ·simp only[zb s.a k b,Is];grind
theorem zpR (h:storeP s) (c:As):zfC s c=some (createS s c):=by
 have hs:=h.small;obtain ⟨n,o,p⟩:=h.lens;unfold zfC createS;simp only[zbe,zqx h,zgC,zhw s.u _ _ hs.shares,zfR,len32,Is];cases f:Dc (1<=c.q/\c.q<=99) with
 | false=>rfl
 | true=>
 cases Dc (0<=c.N/\c.N<=40) with
 | false=>rfl
 | true=>
 cases i:Dc (c.g.length=32) with
 | false=>rfl
 | true=>
 rcases zcC s.a c.q with ⟨j,t,e,_,_⟩ | ⟨e,b⟩
 ·simp_all
 ·rw[e];simp only[Iz,Iu,iF,Is,My,show Dc ((-1:Int)>=0)=false from rfl,cF];by_cases k:4<=s.a.length
  ·grind
  ·rw[dF,dF k];have l:=zun h b;have m:=zqP h.keys (zob (key:=c.g) h.keys (of_decide_eq_true f) (of_decide_eq_true i) (by omega) l);have d:=zqW s.a (newTE c.q) (by omega) b;unfold newTE at d;simp only[Iu,iF,cF,m,d,Is];cases (setR s.u c.q c.N).2<;>rfl
def zqn (h:storeP s) (c:As):zeb s c=some ((quotaS s c).2,(quotaS s c).1):=by
 unfold zeb quotaS;simp only[zrg,no_R,zj4 s.u _ _ h.small.shares,Is];cases Dc (0<=c.N/\c.N<=40) with
 | false=>rfl
 | true=>cases (setR s.u c.q c.N).2<;>rfl
def zwa (a b:Bool):((if a=true then (some true) else (some b)):Option Bool)=some (a||b):=by cases a<;>rfl
def zpe (h:storeP s) (j:Nat) (b:j<s.a.length) (id:Int) (c:s.a[j].r=id):zdF s id=some ((removeS s id).2,(removeS s id).1):=by
 have hs:=h.small;have i:=h.boot;obtain ⟨y,d,e⟩:=h.slot (Iv b);unfold zdF removeS;simp only[zwa,Is,no_R,ge_iff_le];by_cases f:1000<=s.B
 ·simp_all
 ·by_cases g:1000000<=s.m.H
  ·simp_all
  ·rw[dF f,dF g];simp only[Nf,Iu,iF,cF,zpc h.keys ⟨y,d,e.trans c⟩ (by omega),znA s.u id hs.shares,zvJ s.a id hs.tens,Is];rw[zjm]
   ·simp only[Is];rw[za (n:=s.B+1)];rfl
   ·exact hs.rows
def zpf (h:storeP s) (j:Nat) (b:j<s.a.length) (id:Int) (c:s.a[j].r=id) (d:atE s.a id=(j:Int)):zdG s id=some ((rotateS s (j:Int)).2,(rotateS s (j:Int)).1):=by
 subst c;have f:=(h.tens _ (Iv b)).ep;unfold zdG rotateS;rw[zo _ j b];simp only[zik h,d,zb s.a j b,no_R,zdD,Is,Iy];by_cases e:s.a[j].K>=1000000
 ·simp_all
 ·rw[dF e,za (n:=s.a[j].K+1)];rfl
def zsC (h:storeP s) (c:As):zdg s c=some ((ownS s c).2,(ownS s c).1):=by
 unfold zdg ownS;simp only[zik h,no_R,Is];rcases zcC s.a c.q with ⟨j,b,e,d,_⟩ | ⟨e,_⟩
 ·rw[e,dF];cases Dc (c.E=2) with
  | true=>
    simp only[iT,zqn h c,Is,cT];unfold quotaS;cases Dc (0<=c.N/\c.N<=40) with
    | false=>rfl
    | true=>cases (setR s.u c.q c.N).2<;>rfl
  | false=>
    cases Dc (c.E=3) with
    | true=>simp only[Iu,iF,iT,zpe h j b c.q d,Is,cT,cF];unfold removeS;cases Dc (1000<=s.B)||decide (1000000<=s.m.H)<;>rfl
    | false=>
      cases Dc (c.E=4) with
      | true=>simp only[Iu,iF,iT,zpf h j b c.q d e,Is,cT,cF];unfold rotateS;cases Dc ((tenE s.a (j:Int)).K>=1000000)<;>rfl
      | false=>simp only[Iu,iF,zmg h j b c.q d e,Is,cF];rfl
 ·simp_all
def zrV (h:storeP s):zgZ s=some (codeR 0,syncS s):=by
 have b:=h.rlen;refine set_loop markL s.D (by omega) (λk us c a=>?_) (λus a=>?_) rfl
 ·rw[iP];rfl
 ·simp
theorem znU (h:storeP s) (j:Nat) (b:j<s.a.length) (o: ¬1000<=s.B) (p: ¬1000000<=s.m.H):zfD s (j:Int)=some (removeS s s.a[j].r).1:=by
 have hs:=h.small;have q:=h.boot;obtain ⟨t,v,w⟩:=h.lens;obtain ⟨y,c,d⟩:=h.slot (Iv b);have x:noTE s.a[j].r s.a=s.a.take j++s.a.drop (j+1):=by refine ziP s.a _ j b (by simp) λi hi e=>?_;have:=h.ne hi b e;simp_all
 obtain ⟨A,f⟩:=ztw s.a j b;have g:(Ls j (none:Option Am)++(s.a.drop j).map some).length=s.a.length:=by grind
 have k: ∃ps,piece (Ls j (none:Option Am)++(s.a.drop j).map some) ((j:Int)+1) (s.a.length:Int)=some ps:=⟨_,zR _ (j+1) s.a.length _ _ (by omega) rfl (by omega) (by omega)⟩;obtain ⟨ps,l⟩:=k;unfold zfD;rw[zb _ j b,Is,znS s.u _ hs.shares,Is,zpP h.keys ⟨y,c,d⟩ (by omega),Is,zR s.a 0 j 0 (j:Int) rfl rfl (by omega) (by omega),Is,zuI s.a j (by omega),Is];rw[zf (by grind) (by grind)];simp only[Is,Jr];rw[za (n:=(j:Int)+1),g,l,Is,f,Is,zf (by grind) (by grind),Is,zkp _ _ hs.rows,Is,za (n:=s.B+1)];unfold removeS;grind
def keepJ:Int->List Ar->List Ar
 | _,[]=>[]
 | n,r::l=>bif r.U then markL r::keepJ n l else bif Dc (n - 1>=0) then markL r::keepJ (n - 1) l else keepJ (n - 1) l
def zlu: ∀(l:List Ar) (n k:Int),(k=n/\0<=n)\/(n<1/\k<1)->keepJ k l=keepL n l
 | [],_,_,_=>rfl
 | r::l,n,k,h=>by
   unfold keepJ keepL;cases r.U with
   | true=>simp only[cT];rw[zlu l n k h]
   | false=>
     simp only[cF];by_cases a:n<1
     ·have b:k<1:=by omega
      rw[dT a,dF];simp only[cT,cF];exact zlu l n (k - 1) (.inr ⟨a,by omega⟩)
     ·have b:k=n:=by omega
      subst b;rw[dF a,dT];simp only[cT,cF];rw[zlu l (k - 1) (k - 1) (.inl ⟨rfl,by omega⟩)]
theorem zrh (l:List Ar) (n:Int):(keepL n l).length<=l.length:=by obtain ⟨q,h,e⟩:=zkd l n;grind
theorem zuS (l:List Ar) (n:Int) (hl:l.length<=1000000) (u: -9223372036854775808<=n/\n<=9223372036854775807) {body:Int × Int × List Ar->Option (Ctl (Int × Int × List Ar) (Ctl (List Ar) R))} {f:List Ar->Option R} (h:body=λ(D:Int × Int × List Ar)=>if Dc (D.2.1<(l.length:Int)) then ((idx l D.2.1).bind λA=>
 bindC (if !A.U then (some (.go (J7 (D.1 - 1))))
 else (some (.go D.1)))
 (λ(F:Int)=>Bb (if A.U=true then some true else some (Dc (F>=0))) (λ(I:Bool)=>bindC (if I=true then Bb (app 48 D.2.2 ([(⟨A.q,A.B,A.c,A.P,true⟩:Ar)])) λG=>some (.go G)else some (.go D.2.2)) (λ(J:List Ar)=>some (.go (F,J7 (D.2.1+1),J))))))
 else (some (.done (.go D.2.2)))) (j:f (keepL n l)=some z):bindC (loopO body (goMax n 0,(0:Int),([]:List Ar))) f=some z:=by
 have v:keepJ (max n 0) l=keepL n l:=zlu l n (max n 0) (by omega);have m:goMax n 0=max n 0:=by unfold goMax;omega
 rw[m];refine zI (λk (S:Int × Int × List Ar)=>(-(k:Int)<=S.1/\S.1<=9223372036854775807)/\S.2.1=(k:Int)/\S.2.2.length<=k/\S.2.2++keepJ S.1 (l.drop k)=keepL n l) l.length
  (λr=>r= .go (keepL n l)) ⟨by omega,rfl,by simp,by trivial⟩ ?_ ?_ (λr o=>by rw[o];exact j)
 ·rintro k ⟨c,i,E⟩ b ⟨p,d,s,a⟩;subst d;left;have t:J7 ((k:Int)+1)=((k+1:Nat):Int):=by rw[za];omega
  have e: ∀x:Ar,app 48 E [x]=some (E++ [x]):=λx=>zf (by grind) (by grind);rw[Iw b,keepJ]at a;rw[h];simp only[zb l k b,Is];rw[iP,t];cases hs:l[k].U with
  | true=>rw[hs]at a;simp only[Iz,Iu,iF,ze,iT,Is,e];exact ⟨_,rfl,by omega,rfl,by simp_all,by simpa[markL] using a⟩
  | false=>
    rw[hs]at a;rw[za (n:=c - 1)];simp only[Jm,iT,ze,Iu,iF,Is];cases g:Dc (c - 1>=0) with
    | true=>rw[g]at a;simp only[iT,e,Is,ze];exact ⟨_,rfl,by omega,rfl,by simp_all,by simpa[markL] using a⟩
    | false=>rw[g]at a;simp_all;omega
 ·rintro ⟨c,i,E⟩ ⟨p,d,s,a⟩;rw[Kf,keepJ,Jk]at a;simp_all
theorem zvi (l:List Ar) (n:Int) (hl:l.length<=1000000) (j: -9223372036854775808<=n/\n<=9223372036854775807) {body:Int × Int × List Ar->Option (Ctl (Int × Int × List Ar) (Ctl (List Ar) R))} {f:List Ar->Option R} (m:body=λ(D:Int × Int × List Ar)=>if Dc (D.2.1<(l.length:Int)) then (bindC ((idx l D.2.1).bind λA=>
 bindC (if !A.U then (if Dc (D.1<1) then (some (.done (.go (D.1,D.2.2))))
 else (some (.go (J7 (D.1 - 1)))))
 else (some (.go D.1)))
 (λ(G:Int)=>Bb (app 48 D.2.2 ([(⟨A.q,A.B,A.c,A.P,true⟩:Ar)])) λF=>some (.go (G,F))))
 (λ(I:Int × List Ar)=>some (.go (I.1,J7 (D.2.1+1),I.2))))
 else (some (.done (.go D.2.2)))) (s:f (keepL n l)=some z):bindC (loopO body (n,(0:Int),([]:List Ar))) f=some z:=by
 refine zI (λk (S:Int × Int × List Ar)=>(-9223372036854775808<=S.1/\S.1<=9223372036854775807)/\S.2.1=(k:Int)/\S.2.2.length<=k/\S.2.2++keepL S.1 (l.drop k)=keepL n l) l.length
  (λr=>r= .go (keepL n l)) ⟨j,rfl,by simp,by simp⟩ ?_ ?_ (λr t=>by simp_all)
 ·rintro k ⟨c,i,E⟩ b ⟨d,e,o,a⟩;subst e;left;have p:J7 ((k:Int)+1)=((k+1:Nat):Int):=by rw[za];omega
  have g: ∀x:Ar,app 48 E [x]=some (E++ [x]):=λx=>zf (by grind) (by grind);rw[Iw b,keepL]at a;rw[m];simp only[zb l k b,Is];rw[iP,p];cases hs:l[k].U with
  | true=>rw[hs]at a;simp only[Iz,Iu,iF,ze,Is,g];exact ⟨_,rfl,d,rfl,by simp_all,by simpa[markL] using a⟩
  | false=>
    rw[hs]at a;cases h:Dc (c<1) with
    | true=>simp_all;omega
    | false=>rw[h]at a;have u:=of_decide_eq_false h;rw[za (n:=c - 1)];simp only[Jm,iT,Iu,iF,ze,Is,g];exact ⟨_,rfl,by omega,rfl,by simp_all,by simpa[markL] using a⟩
 ·rintro ⟨c,i,E⟩ ⟨d,e,o,a⟩;rw[Kf,keepL,Jk]at a;simp_all
def zuG (h:storeP s) (n:Int) (b:t∈s.a):(repS (keyOfV s.m t.r) (rep0 t) (ofLR t.r (keepL n s.D))).2=true:=by obtain ⟨q,c,e⟩:=zkd s.D n;rw[e,zmS];have hs:(ofLR t.r q).Sublist (rowsV s t.r):=c.filter _;exact (h.tens t b).part hs
def zo4 (h:storeP s) (n:Int): ∀r∈keepL n s.D,r.P.length<=1048576:=by intro r a;obtain ⟨q,b,rfl⟩:=zmI _ _ _ a;exact h.small.text q b
theorem set_loopP (g:α->α) (l:List α) (hl:l.length<=1000000) (b: ∀k (us:List α) (a:k<l.length),us.length=l.length->idx us (k:Int)=some l[k]->body ((k:Int),us)=some (.go (J7 ((k:Int)+1),us.set ((k:Nat):Int).toNat (g l[k])))) (e: ∀us:List α,us.length=l.length->body ((l.length:Int),us)=some (.done (.go us))) (h:f (l.map g)=some z):bindC (loopO body ((0:Int),l)) f=some z:=by
 refine zI (λk (S:Int × List α)=>S=((k:Int),(l.take k).map g++l.drop k)) l.length (λr=>r= .go (l.map g)) rfl ?_ ?_ (λr i=>by simp_all)
 ·rintro k _ a rfl;left;have c:((l.take k).map g++l.drop k).length=l.length:=by grind
  have d:((l.take k).map g++l.drop k)[k]'(by omega)=l[k]:=by rw[Mj (by grind),Lf];congr 1;grind
  rw[b k _ a c (by rw[zb _ k (by omega),d]),Iy,za (n:=(k:Int)+1)];congr 3;rw[zX l k a,Kq,Mu _ _ (by grind),Ma,Mp,show k - min k l.length=0 by omega,Iw a,Mz];simp
 ·simp_all
theorem zqm (h:storeP s) (n:Int) (b: -9223372036854775808<=n/\n<=9223372036854775807):zd9 s n=some ((crashS s n).2,(crashS s n).1):=by
 have hs:=h.small;have i:=h.boot;have j:=h.rlen;have l:=zrh s.D n;obtain ⟨o,p,q⟩:=h.lens;unfold zd9 crashS;simp only[no_R,ge_iff_le];by_cases c:1000<=s.B
 ·simp_all
 ·rw[dF c];refine zuS s.D n (by omega) b rfl ?_;refine set_loopP (λt=>crashT (keyOfV s.m t.r) (ofLR t.r (keepL n s.D)) t) s.a (by omega) (λk us d e hi=>?_) (λus e=>?_) ?_
  ·have A:=h.tens _ (Iv d);simp only[hi,Is];have f:=zkw ⟨s.F,s.m,s.u,us,keepL n s.D,s.I,s.B⟩ s.a[k] (ofLR s.a[k].r (keepL n s.D)) (Ku (Kd _ _) (by omega)) (λr g=>zo4 h n r (Jj.1 g).1) hs.slots A.eng A.start;have E:rowsV ⟨s.F,s.m,s.u,us,keepL n s.D,s.I,s.B⟩ s.a[k].r=ofLR s.a[k].r (keepL n s.D):=rfl;rw[iP (by grind),zgY _ _ (by grind),Is,E,f];rfl
  ·simp
  ·rw[za (n:=s.B+1)];rfl
theorem ztT (T:List Ar) (id:Int) (keys:A7) (g:Aa) (Z:T.length<=1000000) (u: ∀r∈T,r.P.length<=1048576) (v:keys.t.length<=1048576) (w:engV g=true) (m:(repS (keyOfV keys id) g (ofLR id T)).2=true) {body:Int × Int × List Ac × List Int × List (List Ac)->Option (Ctl (Int × Int × List Ac × List Int × List (List Ac)) (Ctl (Int × List Ac × List Int × List (List Ac)) R))} {f:Int × List Ac × List Int × List (List Ac)->Option R} (y:body=λ(J:Int × Int × List Ac × List Int × List (List Ac))=>if Dc (J.2.1<(T.length:Int)) then (bindC ((idx T J.2.1).bind λM=>
 if !(Dc (M.q=id)) then (some (.go (J.1,J.2.2.1,J.2.2.2.1,J.2.2.2.2)))
 else ((zef keys id).bind λV=>
 (zdW V M.B M.c M.P).bind λW=>
 (zcE (⟨J.2.2.1,J.2.2.2.2,J.1,J.2.2.2.1⟩:Aa) W.1).bind λO=>
 some (.go (O.1.c,O.1.x,O.1.A,O.1.s))))
 (λ(U:Int × List Ac × List Int × List (List Ac))=>some (.go (U.1,J7 (J.2.1+1),U.2.1,U.2.2.1,U.2.2.2))))
 else (some (.done (.go (J.1,J.2.2.1,J.2.2.2.1,J.2.2.2.2))))) (I:f ((repS (keyOfV keys id) g (ofLR id T)).1.c,(repS (keyOfV keys id) g (ofLR id T)).1.x,(repS (keyOfV keys id) g (ofLR id T)).1.A,(repS (keyOfV keys id) g (ofLR id T)).1.s)=some z):
  bindC (loopO body (g.c,(0:Int),g.x,g.A,g.s)) f=some z:=by
 have i: ∀k,(repS (keyOfV keys id) g (ofLR id (T.take k))).2=true:=by
  intro k;have C:ofLR id T=ofLR id (T.take k)++ofLR id (T.drop k):=by rw[<-zoH,Jt]
  rw[C,zh0]at m;grind
 refine zI (λk (S:Int × Int × List Ac × List Int × List (List Ac))=>S=((repS (keyOfV keys id) g (ofLR id (T.take k))).1.c,(k:Int),(repS (keyOfV keys id) g (ofLR id (T.take k))).1.x,(repS (keyOfV keys id) g (ofLR id (T.take k))).1.A,(repS (keyOfV keys id) g (ofLR id (T.take k))).1.s)) T.length
  (λr=>r= .go ((repS (keyOfV keys id) g (ofLR id T)).1.c,(repS (keyOfV keys id) g (ofLR id T)).1.x,(repS (keyOfV keys id) g (ofLR id T)).1.A,(repS (keyOfV keys id) g (ofLR id T)).1.s)) rfl ?_ ?_ (λr m=>by simp_all)
 ·rintro k _ j rfl;left;refine ⟨_,?_,rfl⟩;have o:=znm (keyOfV keys id) _ _ w (i k);obtain ⟨a,b,c,d,_⟩:=zbG o;have l:ofLR id (T.take (k+1))=ofLR id (T.take k)++(if Dc (T[k].q=id)=true then [T[k]] else []):=zdd _ T k j;have h:=i (k+1);rw[y];simp only[zb T k j,Is];rw[iP,za (n:=(k:Int)+1),show (k:Int)+1=((k+1:Nat):Int) by omega];cases D:Dc (T[k].q=id) with
  | false=>simp_all
  | true=>
    rw[D]at l;simp only[iT]at l;rw[l,zh0,i k]at h |-
    simp only[cT,repS]at h |-
    simp only[Iz,Iu,iF,zix keys id v,znQ _ _ _ _ (u _ (Iv j)),Is];have E:(openB (keyOfV keys id) T[k].B T[k].c T[k].P).1.length<=1048576:=by
     rcases zsX (keyOfV keys id) T[k].B T[k].c T[k].P with ⟨_,p⟩ | p
     ·have:=(zcm p).1;omega
     ·simp_all
    generalize (repS (keyOfV keys id) g (ofLR id (T.take k))).1=e at o a b c d h |-
    have F:=zhP e _ a b c d E;have G:zcE ⟨e.x,e.s,e.c,e.A⟩ (openB (keyOfV keys id) T[k].B T[k].c T[k].P).1=some (putR e (openB (keyOfV keys id) T[k].B T[k].c T[k].P).1):=F;rw[G];cases H:(openB (keyOfV keys id) T[k].B T[k].c T[k].P).2&&(putR e (openB (keyOfV keys id) T[k].B T[k].c T[k].P).1).2 with
    | false=>rw[H]at h;cases h
    | true=>rfl
 ·simp_all
theorem zqS (h:storeP s) (n:Int) (i: -9223372036854775808<=n/\n<=9223372036854775807) (j: ¬1000<=s.B):zge s n=some (crashS s n).1:=by
 have hs:=h.small;have q:=h.boot;have u:=h.rlen;have v:=zrh s.D n;obtain ⟨w,x,y⟩:=h.lens;unfold zge crashS;rw[dF j];simp only[cF];refine zvi s.D n (by omega) i rfl ?_;refine set_loopP (λt=>crashT (keyOfV s.m t.r) (ofLR t.r (keepL n s.D)) t) s.a (by omega) (λk us f l hi=>?_) (λus l=>?_) ?_
 ·have E:=h.tens _ (Iv f);have g:=zuG h n (Iv f);obtain ⟨a,b,c,d,e⟩:=zbG (znm _ _ _ E.start g);simp only[hi,Is];rw[iP (by grind)];refine ztT (keepL n s.D) s.a[k].r s.m (rep0 s.a[k]) (by omega) (zo4 h n) hs.slots E.start g rfl ?_;have p:=zb5 (repS (keyOfV s.m s.a[k].r) (rep0 s.a[k]) (ofLR s.a[k].r (keepL n s.D))).1 a b e d;exact (congrArg (λo:Option Aa=>o.bind λA=>some (Ctl.go (J7 ((k:Int)+1),us.set ((k:Nat):Int).toNat (⟨s.a[k].r,s.a[k].K,s.a[k].O,A⟩:Am)))) p)
 ·simp_all
 ·rw[za (n:=s.B+1)]
def zqT (h:storeP s) (c:As) (i: -9223372036854775808<=c.N/\c.N<=9223372036854775807):zgf s c=some
    (bif Dc (c.E=1) then createS s c else bif Dc (c.E=12) then (syncS s,codeR 0) else bif Dc (c.E=14) then crashS s c.N else ownS s c):=by
 have hs:=h.small;have p:=h.rlen;unfold zgf;cases Dc (c.E=1) with
 | true=>simp only[iT,zpR h c,Is,cT]
 | false=>
 cases Dc (c.E=12) with
 | true=>
   refine set_loop markL s.D (by omega) (λk us t l=>?_) (λus l=>?_) rfl
   ·rw[iP];rfl
   ·simp_all
 | false=>
 cases Dc (c.E=14) with
 | true=>
   simp only[Iu,iF,iT,cT,cF,ge_iff_le,zgC];by_cases b:1000<=s.B
   ·unfold crashS;simp_all
   ·rw[zqS h c.N i b];unfold crashS;rw[dF b];rfl
 | false=>
 simp only[Iu,iF,cF,zqx h,zgC,Is];unfold ownS;rcases zcC s.a c.q with ⟨j,d,e,f,_⟩ | ⟨e,_⟩
 ·rw[e,dF];cases Dc (c.E=2) with
  | true=>
    simp only[iT,zbe,zhw s.u _ _ hs.shares,Is,cT];unfold quotaS;cases Dc (0<=c.N/\c.N<=40) with
    | false=>rfl
    | true=>cases (setR s.u c.q c.N).2<;>rfl
  | false=>
    cases Dc (c.E=3) with
    | true=>
      by_cases b:1000<=s.B
      ·unfold removeS;simp_all
      ·by_cases g:1000000<=s.m.H
       ·unfold removeS;simp_all
       ·rw[znU h j d b g,f];unfold removeS;rw[dF b,dF g];rfl
    | false=>
      cases Dc (c.E=4) with
      | true=>
        have v:=(h.tens _ (Iv d)).ep;simp only[Iu,iF,iT,zb s.a j d,Is,cT,cF,zfR];unfold rotateS;rw[zo _ j d,f];by_cases o:s.a[j].K>=1000000
        ·simp_all
        ·rw[dF o,za (n:=s.a[j].K+1)];rfl
      | false=>simp only[Iu,iF,zjN h j d,Is,cF];rfl
 ·simp_all
def zoa (s:Af) (i:Int) (ops:List Op):(writeS s i ops).1.m=s.m/\(writeS s i ops).1.u=s.u:=by
 unfold writeS;cases Dc (120<=s.I.length) with
 | true=>exact ⟨rfl,rfl⟩
 | false=>
 cases batchV ops with
 | false=>exact ⟨rfl,rfl⟩
 | true=>
 cases Dc ((bytesN (applyK (mapR (tenE s.a i).b (tenE s.a i).b.c) ops):Int)>quoV (-1) s.u (tenE s.a i).r) with
 | true=>exact ⟨rfl,rfl⟩
 | false=>
 have d:(roomS s i).m=s.m/\(roomS s i).u=s.u:=by unfold roomS;cases Dc (6<=(ofLR (tenE s.a i).r s.D).length)<;>exact ⟨rfl,rfl⟩
 cases okB (tenE (roomS s i).a i).b ops&& !Dc (sealB (keyOfV s.m (tenE s.a i).r) s.B ((tenE s.a i).b.c+1) ops= []) with
 | false=>exact ⟨rfl,rfl⟩
 | true=>exact d
theorem zrU (h:storeP s) (j:Nat) (d:j<s.a.length):zcf s.a (j:Int)=some ((snapS s (j:Int)).2,(snapS s (j:Int)).1.a):=by
 have B:=h.tens _ (Iv d);have f:=B.snaps;unfold zcf snapS;rw[zo _ j d,zb s.a j d];simp only[Is,ztv s.a[j].b.A s.a[j].b.c (by omega),no_R];cases Dc (s.a[j].b.c∈s.a[j].b.A) with
 | true=>rfl
 | false=>
   by_cases e:2<=s.a[j].b.A.length
   ·grind
   ·rw[dF,dF e];rw[zf (by grind) (by grind)];unfold withE withT;rw[zo _ j d];rfl
def zpJ (s:Af) (i:Int):(snapS s i).1=⟨s.F,s.m,s.u,(snapS s i).1.a,s.D,s.I,s.B⟩:=by
 unfold snapS;cases Dc ((tenE s.a i).b.c∈(tenE s.a i).b.A) with
 | true=>rfl
 | false=>cases Dc (2<=(tenE s.a i).b.A.length)<;>rfl
def zq6 (s:Af) (c:As) (j:Nat) (b:j<s.a.length) (d:atE s.a (tokR s.F c.R).1=(j:Int)):
    callS s c=(bif !(tokR s.F c.R).2.2|| !Dc (s.a[j].K=(tokR s.F c.R).2.1) then (s,codeR 2) else tenS s (j:Int) c):=by unfold callS;rw[d,zo _ j b,dF,My]
def zo3 (s:Af) (c:As) (b:atE s.a (tokR s.F c.R).1= -1):callS s c=(s,codeR 2):=by unfold callS;simp_all
theorem zrT (h:storeP s) (c:As) (p:c.R.length<=1048576) (l:c.Q.length<=1048576):zcY s c=some ((callS s c).2,(callS s c).1):=by
 unfold zcY;rw[znz s.F c.R (by omega)];simp only[Is,zik h,no_R];rcases zcC s.a (tokR s.F c.R).1 with ⟨j,d,e,_,_⟩ | ⟨e,_⟩
 ·rw[zq6 s c j d e,e,dF];simp only[zb s.a j d,Is];cases (tokR s.F c.R).2.2 with
  | false=>rfl
  | true=>
    cases Dc (s.a[j].K=(tokR s.F c.R).2.1) with
    | false=>rfl
    | true=>
      simp only[Iz,Iu,iF,Is,Nf,cF];have B:=h.tens _ (Iv d);have q:=B.snaps;have t:=zjC s.a[j].b s.a[j].b.c;have m:=znj B.eng s.a[j].b.c;unfold tenS;rw[zo _ j d];cases Dc (c.E=5) with
      | true=>simp only[iT,zqo h j d c l,Is,cT];obtain ⟨n,o⟩:=zoa s (j:Int) c.Q;rw[<-n,<-o]
      | false=>
        cases Dc (c.E=6) with
        | true=>simp only[Iu,iF,iT,zrK s.a j d B.eng,Is,cT,cF]
        | false=>
          cases Dc (c.E=7) with
          | true=>simp only[Iu,iF,iT,zmO s.a j d B.eng,zpi _ _ _ (show (mapR s.a[j].b s.a[j].b.c).length<=1048576 by omega),Is,cT,cF]
          | false=>
            cases Dc (c.E=8) with
            | true=>simp only[Iu,iF,iT,zrU h j d,Is,cT,cF];rw[<-zpJ s (j:Int)]
            | false=>
              cases Dc (c.E=11) with
              | true=>simp only[Iu,iF,iT,zmO s.a j d B.eng,zj6 _ m (show (mapR s.a[j].b s.a[j].b.c).length<=1048576 by omega),Is,cT,cF]
              | false=>
                simp only[Iu,iF,cF];unfold heldS;rw[zo _ j d];rcases ztF s.a[j].b.A c.N (by omega) with ⟨k,f,i,g⟩ | ⟨i,g⟩
                ·rw[i];simp only[Is];rw[dF,dT (g ▸ Iv f:c.N∈s.a[j].b.A)];simp only[Iu,iF,cT];cases Dc (c.E=10) with
                 | true=>simp only[iT,zrK s.a j d B.eng,Is,cT]
                 | false=>rw[zuJ s.a[j].b.A k f (by omega),<-zoe (ziN B.eng).2 k f,g];unfold withE withT;rw[zo _ j d];rfl
                ·grind
 ·rw[zo3 s c e,e];simp
theorem zpS (h:storeP s) (c:As) (t:c.Q.length<=1048576) (j:Nat) (d:j<s.a.length):zfE s (j:Int) c=some (tenS s (j:Int) c):=by
 have I:=h.tens _ (Iv d);have F:=zjC s.a[j].b s.a[j].b.c;have u:=znj I.eng s.a[j].b.c;have v:srtK (mapR s.a[j].b s.a[j].b.c):=zoB I.eng _;obtain ⟨e,f,i,l,G⟩:=zbG I.eng;unfold zfE tenS;rw[zo _ j d,zb s.a j d];simp only[Is];cases Dc (c.E=5) with
 | true=>simp only[iT,zoY h j d c.Q t,Is,cT]
 | false=>
 cases Dc (c.E=6) with
 | true=>simp only[Iu,iF,iT,zlb I.eng,Is,cT,cF]
 | false=>
 cases Dc (c.E=7) with
 | true=>simp only[Iu,iF,iT,zhO _ _ e f i l,zpV _ _ _ (show (mapR s.a[j].b s.a[j].b.c).length<=1048576 by omega),Is,cT,cF]
 | false=>
 by_cases o:c.E=8
 ·have w: ¬c.E=11:=by omega
  rw[dT o,dF w];simp only[Iu,iF,iT,cT,cF];have y:((if Dc (((s.a[j].b.A.length:Nat):Int)>=2) then ((idx s.a[j].b.A (J7 (((s.a[j].b.A.length:Nat):Int) - 1))).bind λJ=>some (!(Dc (J=s.a[j].b.c)))) else (some false)):Option Bool)=some (Dc (2<=s.a[j].b.A.length)&& !Dc (s.a[j].b.c∈s.a[j].b.A)):=by
   by_cases B:2<=s.a[j].b.A.length
   ·rw[iP (dT),za,show (s.a[j].b.A.length:Int) - 1=((s.a[j].b.A.length - 1:Nat):Int) by omega,zb _ _ (by omega),dT B];simp only[Is,Kv];rw[decide_eq_decide.2 (zpK (ziN I.eng).2 (by omega))]
   ·grind
  rw[y];unfold snapS;rw[zo _ j d];simp only[Is,zgC,zpO _ e f i l];unfold snapR;by_cases m:s.a[j].b.c∈s.a[j].b.A
  ·rw[dT m,iP I.eng,iP m];have:s.a.set j ⟨s.a[j].r,s.a[j].K,s.a[j].O,s.a[j].b⟩=s.a:=List.set_getElem_self _;simp_all
  ·by_cases C:2<=s.a[j].b.A.length
   ·simp_all
   ·rw[dF m,dF C,iP I.eng,iN m,iN (show ¬s.a[j].b.A.length=4 by omega)];simp only[Ns,Iu,iF,cF];unfold withE withT;rw[zo _ j d]
 ·rw[dF o];cases Dc (c.E=11) with
  | true=>simp only[Iu,iF,iT,zhO _ _ e f i l,zl5 _ v u (show (mapR s.a[j].b s.a[j].b.c).length<=1000000 by omega),Is,cT,cF]
  | false=>
    rw[zgm (λx:Int=>decide (x=c.N)) s.a[j].b.A (by omega) (λ_=>bif Dc (c.E=10) then (s,valR s.a[j].b c.g c.N) else (withE s (j:Int) (dropS s.a[j].b.A c.N),codeR 0)) (z:=(s,codeR 5)) rfl (λk p=>?_) (by simp)]
    ·unfold heldS;rw[zo _ j d];grind
    ·simp only[zb s.a[j].b.A k p,Is];rw[iP,za (n:=(k:Int)+1)];by_cases q:s.a[j].b.A[k]=c.N
     ·have D:c.N∈s.a[j].b.A:=q ▸ Iv p;rw[dT q];simp only[Iz,Iu,iF,iT,zlb I.eng,zpL _ _ e f i l,Is];unfold engDropR withE withT;rw[iP I.eng,iP D,zo _ j d];cases Dc (c.E=10)<;>rfl
     ·simp_all
theorem zor (h:storeP s) (c:As) (d:smC c):zdh s c=some ((doS s c).2,(doS s c).1):=by
 unfold zdh doS;simp only[z6,no_R,Is];cases k:Dc (c.E=1) with
 | true=>
   simp only[iT,zpd h c,Is,cT];unfold createS;cases !Dc (1<=c.q/\c.q<=99)||(!Dc (0<=c.N/\c.N<=40)||(!Dc (c.g.length=32)||decide (atE s.a c.q>=0))) with
   | true=>rfl
   | false=>
     cases Dc (4<=s.a.length) with
     | true=>rfl
     | false=>cases (setR s.u c.q c.N).2<;>rfl
 | false=>
   simp only[Iu,iF,cF];by_cases e:c.E=12
   ·rw[dT e,dF,dF (by omega: ¬c.E=13),dF];simp only[Iu,iF,iT,Is,zrV h,cT];rfl
   ·by_cases f:c.E=14
    ·rw[dF e,dT f,dF,dF (by omega: ¬c.E=13),dF];simp only[Iu,iF,iT,Is,zqm h c.N d.num,cT,cF];unfold crashS;cases Dc (1000<=s.B)<;>rfl
    ·rw[dF e,dF f];simp only[zwa,Is,cF];cases Dc (2<=c.E/\c.E<=4)||decide (c.E=13) with
     | true=>
       simp only[iT,zsC h c,Is,cT];have j:(ownS s c).1.I=s.I:=by
        unfold ownS;cases Dc (atE s.a c.q<0) with
        | true=>rfl
        | false=>
        cases Dc (c.E=2) with
        | true=>unfold quotaS;grind
        | false=>
        cases Dc (c.E=3) with
        | true=>unfold removeS;grind
        | false=>
        cases Dc (c.E=4) with
        | true=>unfold rotateS;cases Dc ((tenE s.a (atE s.a c.q)).K>=1000000)<;>rfl
        | false=>rfl
       rw[<-j]
     | false=>
       simp only[Iu,iF,cF];cases Dc (5<=c.E/\c.E<=11) with
       | true=>
         have i:(callS s c).1.m=s.m/\(callS s c).1.u=s.u:=by
          unfold callS;cases (!(tokR s.F c.R).2.2||(Dc (atE s.a (tokR s.F c.R).1<0)|| !Dc ((tenE s.a (atE s.a (tokR s.F c.R).1)).K=(tokR s.F c.R).2.1))) with
          | true=>exact ⟨rfl,rfl⟩
          | false=>
            unfold tenS;cases Dc (c.E=5) with
            | true=>exact zoa _ _ _
            | false=>
            cases Dc (c.E=6) with
            | true=>exact ⟨rfl,rfl⟩
            | false=>
            cases Dc (c.E=7) with
            | true=>exact ⟨rfl,rfl⟩
            | false=>
            cases Dc (c.E=8) with
            | true=>simp only[cT,cF];rw[zpJ];exact ⟨rfl,rfl⟩
            | false=>
            cases Dc (c.E=11) with
            | true=>exact ⟨rfl,rfl⟩
            | false=>unfold heldS;cases Dc (c.N∈(tenE s.a (atE s.a (tokR s.F c.R).1)).b.A)<;>cases Dc (c.E=10)<;>exact ⟨rfl,rfl⟩
         simp only[iT,zrT h c d.tok d.ops,Is,cT];rw[<-i.1,<-i.2]
       | false=>rfl
theorem zsg (h:storeP s) (c:As) (b:smC c):zi9 s c=some (doS s c):=by
 unfold zi9 doS;have g:(((zz c.E 1 4).bind λB=>if B=true then (some true) else ((zz c.E 12 14).bind λA=>some A)):Option Bool)=some (Dc (1<=c.E/\c.E<=4)||decide (12<=c.E/\c.E<=14)):=by simp only[zbe,Is];grind
 rw[g];simp only[zbe,Is,zgC];by_cases i:(1<=c.E/\c.E<=4)\/(12<=c.E/\c.E<=14)
 ·have f:(Dc (1<=c.E/\c.E<=4)||decide (12<=c.E/\c.E<=14))=true:=by simp_all
  simp only[iT,zqT h c b.num,Is];grind
 ·have f:(Dc (1<=c.E/\c.E<=4)||decide (12<=c.E/\c.E<=14))=false:=by simp_all
  rw[f,dF (by omega: ¬c.E=1),dF (by omega: ¬c.E=12),dF (by omega: ¬c.E=14),dF (by omega: ¬(2<=c.E/\c.E<=4)),dF (by omega: ¬c.E=13)];cases Dc (5<=c.E/\c.E<=11) with
  | false=>rfl
  | true=>
    rw[znR s.F c.R (by have:=b.tok;omega)];simp only[Iz,Iu,iF,Is,zqx h,cT];rcases zcC s.a (tokR s.F c.R).1 with ⟨j,d,e,_,_⟩ | ⟨e,_⟩
    ·rw[zq6 s c j d e,e,dF (by omega: ¬(j:Int)<0)];simp only[zb s.a j d,Is];cases (tokR s.F c.R).2.2 with
     | false=>rfl
     | true=>
       cases Dc (s.a[j].K=(tokR s.F c.R).2.1) with
       | false=>rfl
       | true=>simp only[Iz,Iu,iF,Is,zpS h c b.ops j d,Nf,cF]
    ·rw[zo3 s c e,e];cases (tokR s.F c.R).2.2<;>rfl
def zrI (e:Aa) (key:J2) (seq:Int):(valR e key seq).j= []:=by unfold valR;cases (getR e key seq).2<;>rfl
def zws (s:Af) (i:Int) (c:As):(tenS s i c).2.j.length<=400:=by
 unfold tenS;cases Dc (c.E=5) with
 | true=>
   unfold writeS;cases Dc (120<=s.I.length) with
   | true=>exact Ja _
   | false=>
   cases batchV c.Q with
   | false=>exact Ja _
   | true=>
   cases Dc ((bytesN (applyK (mapR (tenE s.a i).b (tenE s.a i).b.c) c.Q):Int)>quoV (-1) s.u (tenE s.a i).r) with
   | true=>exact Ja _
   | false=>
   cases okB (tenE (roomS s i).a i).b c.Q&& !Dc (sealB (keyOfV s.m (tenE s.a i).r) s.B ((tenE s.a i).b.c+1) c.Q= [])<;>exact Ja _
 | false=>
 cases Dc (c.E=6) with
 | true=>simp only[cT,cF];rw[zrI];exact Ja _
 | false=>
 cases Dc (c.E=7) with
 | true=>exact Ku (Kd _ _) (zjC _ _)
 | false=>
 cases Dc (c.E=8) with
 | true=>unfold snapS;cases Dc ((tenE s.a i).b.c∈(tenE s.a i).b.A)<;>cases Dc (2<=(tenE s.a i).b.A.length)<;>exact Ja _
 | false=>
 cases Dc (c.E=11) with
 | true=>exact Ja _
 | false=>
   simp only[cF];unfold heldS;cases Dc (c.N∈(tenE s.a i).b.A) with
   | false=>exact Ja _
   | true=>
     cases Dc (c.E=10) with
     | true=>simp only[cT];rw[zrI];exact Ja _
     | false=>exact Ja _
def zwL (s:Af) (c:As):(doS s c).2.j.length<=400:=by
 unfold doS;cases Dc (c.E=1) with
 | true=>unfold createS;cases !Dc (1<=c.q/\c.q<=99)||(!Dc (0<=c.N/\c.N<=40)||(!Dc (c.g.length=32)||decide (atE s.a c.q>=0)))<;>cases Dc (4<=s.a.length)<;>cases (setR s.u c.q c.N).2<;>exact Ja _
 | false=>
 cases Dc (c.E=12) with
 | true=>exact Ja _
 | false=>
 cases Dc (c.E=14) with
 | true=>unfold crashS;cases Dc (1000<=s.B)<;>exact Ja _
 | false=>
 cases Dc (2<=c.E/\c.E<=4)||decide (c.E=13) with
 | true=>
   unfold ownS;cases Dc (atE s.a c.q<0) with
   | true=>exact Ja _
   | false=>
   cases Dc (c.E=2) with
   | true=>unfold quotaS;cases Dc (0<=c.N/\c.N<=40)<;>cases (setR s.u c.q c.N).2<;>exact Ja _
   | false=>
   cases Dc (c.E=3) with
   | true=>unfold removeS;cases Dc (1000<=s.B)||decide (1000000<=s.m.H)<;>exact Ja _
   | false=>
   cases Dc (c.E=4) with
   | true=>unfold rotateS;cases Dc ((tenE s.a (atE s.a c.q)).K>=1000000)<;>exact Ja _
   | false=>exact Ja _
 | false=>
 cases Dc (5<=c.E/\c.E<=11) with
 | false=>exact Ja _
 | true=>
   unfold callS;cases !(tokR s.F c.R).2.2||(Dc (atE s.a (tokR s.F c.R).1<0)|| !Dc ((tenE s.a (atE s.a (tokR s.F c.R).1)).K=(tokR s.F c.R).2.1)) with
   | true=>exact Ja _
   | false=>exact zws _ _ _
def noStore:Af:=⟨[],⟨[],[],0⟩,⟨0,[]⟩,[],[],[],0⟩
theorem zvx (h:boundS s):zbB s<=1000000000/\zjZ s:=by
 have i:=h.slots;have k:=h.shares;have n:=h.tens;have o:=h.rows;have p:=h.hist;have q:(s.m.t.map zl).sum<=2*s.m.t.length:=zds zl 2 λ_ _=>Ji _;have v:(s.u.j.map zy).sum<=2*s.u.j.length:=zds zy 2 λ_ _=>Ji _;have w:(s.D.map zq).sum<=5*s.D.length:=zds zq 5 λ_ _=>Ji _;have z:(s.I.map zq).sum<=5*s.I.length:=zds zq 5 λ_ _=>Ji _;have B:(s.a.map zH).sum<=20000*s.a.length:=zds zH 20000 λt f=>by obtain ⟨C,E,F,G,H,J,K,L⟩:=z8 (h.each t f);have M:(t.b.x.map zj).sum<=4*t.b.x.length:=zds zj 4 λ_ _=>Ji _;have N:(t.b.A.map (λ_=>1)).sum<=1*t.b.A.length:=zds _ 1 λ_ _=>Ji _;have O:(t.b.s.map (λl=>(l.map zj).sum)).sum<=1600*t.b.s.length:=zds _ 1600 λy g=>Ku (zds zj 4 λ_ _=>Ji _) (by have:=zm8 g;omega);unfold zH;omega
 refine ⟨by unfold zbB;omega,?_,?_,⟨by omega,λt f=>?_⟩,by omega,by omega⟩
 ·unfold zlm;omega
 ·unfold zln;omega
 ·obtain ⟨a,b,c,d,e⟩:=zbG (h.each t f);exact ⟨by omega,⟨by omega,λy g=>by grind⟩,by omega⟩
def zwf (s:Af) (i:Int):(roomS s i).F=s.F/\(roomS s i).m=s.m/\(roomS s i).u=s.u/\(roomS s i).B=s.B/\(roomS s i).I=s.I:=by unfold roomS;cases Dc (6<=(ofLR (tenE s.a i).r s.D).length)<;>exact ⟨rfl,rfl,rfl,rfl,rfl⟩
def storeP.pos (h:storeP s) {x:Am} (b:x∈s.a):1<=x.r:=by obtain ⟨y,c,e⟩:=h.slot b;have:=(((zbH _).1 h.keys).2.2.2.1 y c).1.1;omega
theorem bifP {P:α->Prop} {b:Bool} {p q:α} (a:P p) (c:P q):P (bif b then p else q):=by grind
def restP (s:Af) (p:Af × At):Prop:=p.1.F=s.F/\p.1.I.length<=s.I.length+1
def zxx (s:Af) (c:As):restP s (doS s c):=by
 have z: ∀(a:Af) (r:At),a.F=s.F->a.I=s.I->restP s (a,r):=λa r b e=>⟨b,by simp_all⟩;have d: ∀i,restP s (writeS s i c.Q):=by intro i;refine bifP (z s _ rfl rfl) (bifP (bifP (z s _ rfl rfl) (bifP ⟨(zwf s i).1,?_⟩ (z s _ rfl rfl))) (z s _ rfl rfl));show (s.I++ [_]).length<=_;simp
 repeat' (first | exact z _ _ rfl rfl | exact d _ | refine bifP ?_ ?_)
def runS:Af->List As->List At
 | _,[]=>[]
 | s,c::l=>(doS s c).2::runS (doS s c).1 l
def endS:Af->List As->Af
 | s,[]=>s
 | s,c::l=>endS (doS s c).1 l
structure goodS (s:Af) (n:Nat):Prop where
 p:storeP s
 y:syncP s.D
 h:s.I.length<=n
def goodS.next {n:Nat} (h:goodS s n) (c:As):goodS (doS s c).1 (n+1):=
 ⟨zyc h.p h.y c,zwM h.y c,by have:=(zxx s c).2;have:=h.h;omega⟩
def goodS.mono {n:Nat} (h:goodS s n) (a:n<=k):goodS s k:=⟨h.p,h.y,Ku h.h a⟩
def zs5: ∀(l:List As) (s:Af),(runS s l).length=l.length
 | [],_=>rfl
 | c::l,s=>by rw[runS,Kp,zs5 l,Kp]
def newS (secret h:J2) (size:Int):Af:=⟨secret,⟨h,[],0⟩,⟨size,[]⟩,[],[],[],0⟩
def newSOk (secret h:J2) (size:Int):Bool:=Dc (secret.length=32)&&(Dc (h.length=32)&&Dc (0<=size/\size<=1000))
def playS (secret h:J2) (size:Int) (l:List As):Af × List At:=bif newSOk secret h size&&Dc (l.length<=120) then (endS (newS secret h size) l,runS (newS secret h size) l) else (noStore,[])
def znk {secret A:J2} {size:Int} (h:newSOk secret A size=true):goodS (newS secret A size) 0:=by unfold newSOk at h;rw[Jf,Jf]at h;have a:=of_decide_eq_true h.1;have b:=of_decide_eq_true h.2.1;have c:=of_decide_eq_true h.2.2;refine ⟨⟨a,(zbH _).2 ⟨b,Ja _,⟨Li _,by show (0:Int)<=1000000;omega⟩,λx d=>(by trivial),List.Pairwise.nil⟩,?_,⟨Li _,by show (0:Int)<=1000;omega⟩,Ja _,rfl,rfl,λt f=>(by trivial),λr e=>(by cases e)⟩,List.Pairwise.nil,Ji _⟩;rw[zf1];exact ⟨c,by simp[newS],λx d=>(by trivial),List.Pairwise.nil,by simp[allNeed,newS];omega⟩
def zvl (secret h:J2) (size:Int):zf5 secret h size=some (bif newSOk secret h size then (newS secret h size,true) else (noStore,false)):=by
 unfold zf5 newSOk;simp only[z6,len32,Is];cases Dc (secret.length=32) with
 | false=>rfl
 | true=>
   cases Dc (h.length=32) with
   | false=>rfl
   | true=>cases Dc (0<=size/\size<=1000)<;>rfl
def zux (l:List As) (s:Af) (k:Nat) (a:k<l.length):runS s (l.drop k)=(doS s l[k]).2::runS (doS s l[k]).1 (l.drop (k+1)):=by rw[Iw a,runS]
def zt8 (l:List As) (s:Af) (k:Nat) (a:k<l.length):endS s (l.drop k)=endS (doS s l[k]).1 (l.drop (k+1)):=by rw[Iw a,endS]
def znC (secret A:J2) (size:Int) (l:List As) (hl:l.length<=1048576) (h: ∀c∈l,smC c):zfl secret A size l=some (playS secret A size l):=by
 unfold zfl playS;rw[zvl,Is];cases i:newSOk secret A size with
 | false=>rfl
 | true=>
   simp only[cT,Iz,Iu,iF,Is,Kv];by_cases f:l.length<=120
   ·rw[dF (by omega: ¬(l.length:Int)>120),dT f];simp only[Iu,iF,cT];refine zI (λk (S:J2 × J2 × Int × Int × Int × Int × List A6 × List A5 × List Am × List Ar × List Ar × List At)=>∃s E,S=(s.F,s.m.L,s.m.H,s.u.G,s.B,(k:Int),s.m.t,s.u.j,s.a,s.D,s.I,E)/\goodS s k/\E.length=k/\E++runS s (l.drop k)=runS (newS secret A size) l/\endS s (l.drop k)=endS (newS secret A size) l) l.length
     (λr=>∃s:Af,s=endS (newS secret A size) l/\r= .go (s.F,s.m.L,s.m.H,s.u.G,s.B,s.m.t,s.u.j,s.a,s.D,s.I,runS (newS secret A size) l)) ⟨newS secret A size,[],rfl,znk i,rfl,by simp,by simp⟩ ?_ ?_ ?_
    ·rintro k _ b ⟨s,E,rfl,hs,g,d,e⟩;left;rw[zux l s k b]at d;rw[zt8 l s k b]at e;have o:=zor hs.p l[k] (h _ (Iv b));have J:(⟨s.F,⟨s.m.L,s.m.t,s.m.H⟩,⟨s.u.G,s.u.j⟩,s.a,s.D,s.I,s.B⟩:Af)=s:=rfl;refine ⟨_,?_,(doS s l[k]).1,E++ [(doS s l[k]).2],rfl,hs.next _,by simp[g],by simpa using d,e⟩;simp only[zb l k b,Is,J,o];rw[iP (by simpa using b),zf (by simp only[Jh];omega) (by simp only[Jh];omega),za (n:=(k:Int)+1)];rfl
    ·rintro _ ⟨s,E,rfl,hs,g,d,e⟩;rw[Kf,runS,Jk]at d;rw[Kf,endS]at e;refine ⟨.go (s.F,s.m.L,s.m.H,s.u.G,s.B,s.m.t,s.u.j,s.a,s.D,s.I,E),?_,s,e,by rw[d]⟩;simp
    ·rintro _ ⟨s,hs,rfl⟩;rw[<-hs];rfl
   ·rw[dT (by omega:(l.length:Int)>120),dF f];rfl
def zvH {n:Nat} (h:goodS s n) (l:List As): ∀r∈runS s l,r.j.length<=400:=by
 induction l generalizing s n with
 | nil=>intro r a;cases a
 | cons c l ih=>
   intro r a;rcases Ko.1 a with rfl | a
   ·exact zwL s c
   ·exact ih (h.next c) r a
theorem ztP (secret A:J2) (size:Int) (l:List As):(playS secret A size l).2.length<=120/\∀r∈(playS secret A size l).2,r.j.length<=400:=by
 unfold playS;cases a:newSOk secret A size with
 | false=>exact ⟨Ja _,λr b=>(by trivial)⟩
 | true=>
   by_cases h:l.length<=120
   ·rw[dT h];exact ⟨by simp only[Nv,cT];rw[zs5];exact h,zvH (znk a) l⟩
   ·grind
def zwm (secret h:J2) (size:Int):zgc secret h size=some (bif newSOk secret h size then (newS secret h size,true) else (noStore,false)):=by
 unfold zgc newSOk;simp only[zbe,len32,Is];cases Dc (secret.length=32) with
 | false=>rfl
 | true=>
   cases Dc (h.length=32) with
   | false=>rfl
   | true=>cases Dc (0<=size/\size<=1000)<;>rfl
def znT (secret A:J2) (size:Int) (l:List As) (hl:l.length<=1048576) (i: ∀c∈l,smC c):zfA secret A size l=some (playS secret A size l):=by
 unfold zfA playS;rw[zwm,Is];cases o:newSOk secret A size with
 | false=>rfl
 | true=>
   simp only[cT,Iz,Iu,iF,Is,Kv];by_cases g:l.length<=120
   ·rw[dF (by omega: ¬(l.length:Int)>120),dT g];simp only[Iu,iF,cT];refine zI (λk (S:J2 × J2 × Int × Int × Int × Int × List At × List A6 × List A5 × List Am × List Ar × List Ar)=>∃s E,S=(s.F,s.m.L,s.m.H,s.u.G,s.B,(k:Int),E,s.m.t,s.u.j,s.a,s.D,s.I)/\goodS s k/\E.length=k/\E++runS s (l.drop k)=runS (newS secret A size) l/\endS s (l.drop k)=endS (newS secret A size) l) l.length
     (λr=>∃s:Af,storeP s/\s=endS (newS secret A size) l/\r= .go (s.F,s.m.L,s.m.H,s.u.G,s.B,runS (newS secret A size) l,s.m.t,s.u.j,s.a,s.D,s.I)) ⟨newS secret A size,[],rfl,znk o,rfl,by simp,by simp⟩ ?_ ?_ ?_
    ·rintro k _ b ⟨s,E,rfl,hs,h,d,e⟩;left;rw[zux l s k b]at d;rw[zt8 l s k b]at e;have f:=zsg hs.p l[k] (i _ (Iv b));have J:(⟨s.F,⟨s.m.L,s.m.t,s.m.H⟩,⟨s.u.G,s.u.j⟩,s.a,s.D,s.I,s.B⟩:Af)=s:=rfl;refine ⟨_,?_,(doS s l[k]).1,E++ [(doS s l[k]).2],rfl,hs.next _,by simp[h],by simpa using d,e⟩;simp only[zb l k b,Is,J,f];rw[iP (by simpa using b),zf (by simp only[Jh];omega) (by simp only[Jh];omega),za (n:=(k:Int)+1)];rfl
    ·rintro _ ⟨s,E,rfl,hs,h,d,e⟩;rw[Kf,runS,Jk]at d;rw[Kf,endS]at e;refine ⟨.go (s.F,s.m.L,s.m.H,s.u.G,s.B,E,s.m.t,s.u.j,s.a,s.D,s.I),?_,s,hs.p,e,by rw[d]⟩;simp
    ·rintro _ ⟨s,f,hs,rfl⟩;rw[<-hs];have J:(⟨s.F,⟨s.m.L,s.m.t,s.m.H⟩,⟨s.u.G,s.u.j⟩,s.a,s.D,s.I,s.B⟩:Af)=s:=rfl;simp only[ze,J,zkn f,Is]
   ·rw[dT (by omega:(l.length:Int)>120),dF g];rfl
def zq9: ∀(l:List As) (s:Af) (n:Nat),goodS s n->goodS (endS s l) (n+l.length)
 | [],s,n,h=>h
 | c::l,s,n,h=>by have:=zq9 l _ _ (h.next c);rw[endS,Kp];exact this.mono (by omega)
def zu7 (secret A:J2) (size:Int) (l:List As):(playS secret A size l).1=noStore\/(storeP (playS secret A size l).1/\syncP (playS secret A size l).1.D):=by
 unfold playS;cases a:newSOk secret A size with
 | false=>exact .inl rfl
 | true=>
   cases Dc (l.length<=120) with
   | false=>exact .inl rfl
   | true=>have h:=zq9 l _ 0 (znk a);exact .inr ⟨h.p,h.y⟩
def goodS.step (h:goodS s k) (c:As) {p:Af × At} (a:doS s c=p):goodS p.1 (k+1):=by subst a;exact h.next c
def ztO (secret A:J2) (size:Int) (l:List As):boundS (playS secret A size l).1:=by
 rcases zu7 secret A size l with h | ⟨h,_⟩
 ·rw[h];exact ⟨Ja _,Ja _,Ja _,λt a=>(by cases a),Ja _,Ja _⟩
 ·exact h.bound
def zkE (s m:J2) (n:Int) (l:List As) (h:okl l):zbW s m n l=some true:=by
 unfold zbW;by_cases hs:(s.length:Int)>1048576
 ·rw[dT hs,iP rfl]
 ·rw[dF hs,iN (by simp)];by_cases j:(m.length:Int)>1048576
  ·rw[dT j,iP rfl]
  ·rw[dF j,iN (by simp),zxi l 1048576 (by omega) (by omega) h,Is];by_cases hl:szV 1048576 (wS zei l)<0
   ·rw[iP (by simpa using hl)]
   ·have k:wS zei l<=1048576:=by have:=zvm hl;omega
    obtain ⟨a,b⟩:=zvA k;have o: ∀c∈l,smC c:=λc d=>⟨(b c d).1,(b c d).2,(show okI c.N from (h.2 c d).2.2.2.1)⟩;rw[iN (by simpa using hl),to_CallS l k];simp only[Is,znT s m n l a o,znC s m n l a o];obtain ⟨p,e⟩:=ztP s m n l;have f:=ztO s m n l;generalize playS s m n l=r at p e f;obtain ⟨x,y⟩:=r;simp only at p e f;obtain ⟨t,u⟩:=zwe y (by omega) λr v=>by have:=e r v;omega
    obtain ⟨w,A⟩:=zwD l a b;obtain ⟨B,g⟩:=zvx f;have q:l.length<=4611686018427387904/\∀y∈l,zji y:=⟨by omega,A⟩;have i:y.length<=4611686018427387904/\∀z∈y,zgu z:=⟨by omega,u⟩;simp only[eq_Store x x g,eq_ReplyS y y i,eq_CallS l l q,zu1 l 1 (by omega) (by omega) q,zu4 x 1 (by omega) (by omega) g,ztM y (1+(zbB x:Int)) (by omega) (by omega) i,zuP x 1 (by omega) (by omega) g,ztA y (1+(zbB x:Int)) (by omega) (by omega) i,Is];generalize (l.map zd6).sum=C at w;generalize (y.map zbs).sum=D at t;generalize zbB x=E at B;have F: ¬(1+(C:Int)<0):=by omega
    have G: ¬(1+(E:Int)+(D:Int)<0):=by omega
    have H: ¬(1+(E:Int)<0):=by omega
    simp[F,G,H]
theorem FnExactStorePlay_proved:Rows.FnExactStorePlaySaid:=zkD λs m n l _ _ _ h=>zkE s m n l h
end Go.Proofs.YtblaakdafebglaaGreat
