/-
  The plain laws: what the pure functions come to, and the statements. Conditions: none.
-/
import Derived.Test.YtbpngbeifojdeaaGreatPm
import Derived.Test.YtbpngbeifojdeaaGreatQ8
set_option linter.unusedVariables false
set_option linter.unusedSimpArgs false
set_option linter.defProp false
open Option renaming bind->Bd0
open Decidable renaming decide->Dc
open Option renaming bind_some->Lm,bind_eq_some_iff->Oh,bind_assoc->Qv
open Bool renaming false_eq_true->Lo,not_true->Ly,and_eq_true->Ma,not_false->Mt,true_and->Nm,not_eq_true'->On,or_eq_true->Pe,and_true->Pv,and_self->Px,false_and->Qf,or_eq_false_iff->Qi,not_eq_false'->Qq,not_eq_true->Qx,and_false->Rk,false_or->Rl,or_false->Rm
open List renaming length_append->Lr,drop_eq_getElem_cons->Ls,getElem_of_mem->Lt,take_of_length_le->Lv,pairwise_cons->Lw,append_assoc->Mh,take_append_drop->Mj,drop_of_length_le->Ml,getElem?_eq_getElem->Mm,all_eq_true->Mp,eq_nil_of_length_eq_zero->Mr,pairwise_iff_getElem->Ms,length_singleton->Mu,nil_append->Mx,length_drop->My,filter_append->Mz,length_take->Nb,pairwise_append->Nd,getElem_mem->Nf,cons_append->Ng,mem_cons->Nn,filter_cons_of_neg->Nq,take_succ_cons->Nr,append_nil->Ns,length_cons->Nu,length->Nv,range->Ny,mem_append->Nz,take_add_one->Og,getElem_take->Oi,set_append_right->Om,drop_zero->Oo,drop_drop->Oq,drop_length->Ot,filter_eq_self->Ov,getElem_drop->Pa,takeWhile_append_dropWhile->Pb,length_set->Pi,drop_append_of_le_length->Pk,dropLast_concat_getLast->Pn,replicate->Po,all_cons->Pu,any_cons->Pw,getElem_map->Py,filter_cons_of_pos->Qa,filter_eq_nil_iff->Qb,take_zero->Qg,length_pos_iff->Qk,flatten_append->Ql,mem_cons_self->Qt,ext_getElem->Qy,drop_append->Ra,take_length->Rb,any_append->Rc,mem_filter->Ri,take_nil->Ro,any_nil->Rp
open BitVec renaming ofInt->Lx,ofInt_natCast->Qh,toNat_ofNat->Qm
open Nat renaming le_refl->Mf,and_two_pow_sub_one_eq_mod->Mv,lt_or_ge->Mw,mod_eq_of_lt->Nj,pow_le_pow_right->Nk,le_trans->Nt,min_eq_left->Oa,lt_trichotomy->Ok,or_lt_two_pow->Ol,mod_lt->Ox,mul_le_mul_left->Oy,zero_le->Oz,mul_le_mul_right->Pd,div_le_self->Ph,pow_succ->Pl,two_pow_add_eq_or_of_lt->Pp,xor_lt_two_pow->Pq,lt_of_le_of_lt->Pr,ble_eq_true_of_le->Qd,ble->Qj,add_sub_cancel->Qp,eq_zero_or_pos->Qr,zero_add->Qu,and_le_left->Rh,mul_comm->Rr,sub_self->Rs,zero_mul->Rt
open Int renaming toNat_natCast->Mg,tmod->Nh,tdiv->Ps,le_refl->Qe
open Option.some renaming injEq->Qw
open Prod.mk renaming injEq->Rn
open UInt8 renaming toNat->Ru
noncomputable section
open Go.IntKind renaming i64->I6
namespace Go.Proofs.YtbpngbeifojdeaaGreat
open Go Sl
variable {α κ ρ R β τ:Type} {l:List Ac} {a n b k x:Nat} {K:α->κ} {seq counter:Int} {e:Aa} {key nonce s t rest secret:J3} {body:Int->Option (Ctl Int (Ctl Unit Bool))} {f:α->Option β}
theorem zY (n a b:Int):zy n a b=some (Dc (a<=n/\n<=b)):=by unfold zy;grind
theorem zW (n a b:Int):zn n a b=some (Dc (a<=n/\n<=b)):=by unfold zn;grind
theorem zAK (q:Int):zhS q=zgp q:=by
 unfold zhS zgp;rw[zY,zW];by_cases h:0<=q/\q<=1000
 ·rw[za (n:=q+50),za (n:=q+50 - 1),za (n:=q+49),show q+50 - 1=q+49 by omega]
 ·grind
def zlB {l:List α} {i:Int} (a:0<=i) (b:i<l.length):idx l i=some (l[i.toNat]'(by omega)):=by unfold idx;rw[iP a,Mm]
def needV (q:Int):Int:=if 0<=q/\q<=1000 then 2+2*((q+49) / 50) else 0
def zjq (q:Int):0<=needV q/\needV q<=42:=by unfold needV;split<;>omega
theorem zo7 (q:Int):zgp q=some (needV q):=by
 unfold zgp needV;rw[zW];by_cases h:0<=q/\q<=1000
 ·have a:J8 (q+49)=q+49:=za;have b:Ps (q+49) 50=(q+49) / 50:=Int.tdiv_eq_ediv_of_nonneg (by omega);have c:J8 ((q+49) / 50)=(q+49) / 50:=za;have d:J8 (2*((q+49) / 50))=2*((q+49) / 50):=za;have e:J8 (2+2*((q+49) / 50))=2+2*((q+49) / 50):=za;simp_all
 ·grind
def zu4 (q:Int):zhS q=some (needV q):=by rw[zAK,zo7]
def zpR (n:Int):zbz n=some (Dc (1<=n/\n<=99)):=by unfold zbz;rw[zY];rfl
def zx4 (l:List A9) (h:l.length<=1048576):0<=(l.map λx=>needV x.Y).sum/\(l.map λx=>needV x.Y).sum<=42*l.length:=by
 clear h;induction l with
 | nil=>simp
 | cons x l ih=>have:=zjq x.Y;simp only[List.map_cons,List.sum_cons,Nu];omega
def zmQ (s:Ad) (h:s.t.length<=1048576):zjw s=some ((s.t.map λx=>needV x.Y).sum+if s.t.length>0 then 4 else 0):=by
 unfold zjw;rw[zvW (ρ:=Int) s.t (λx=>zgp x.Y) (λx=>needV x.Y) (λx _=>zo7 _) (λx _=>by have:=zjq x.Y;omega) h 0 (by omega) (by omega)];have:=zx4 s.t h;simp only[zd,Int.zero_add];by_cases a:(s.t.length:Int)>0
 ·rw[iP,za,iP (by omega)];rfl
 ·simp_all
def zsr (s:Ad) (h:s.t.length<=1048576):zjo s=some (4+(s.t.map λx=>needV x.Y).sum):=by unfold zjo;rw[zvW (ρ:=Int) s.t (λx=>zhS x.Y) (λx=>needV x.Y) (λx _=>zu4 _) (λx _=>by have:=zjq x.Y;omega) h 4 (by omega) (by omega)];rfl
theorem zci (s:Ad) (h:s.t.length<=1048576):zdT s=zbO s:=by
 unfold zbO zdT;simp only[zW,zY,zpR,Lm,zmQ s h,zsr s h,ge_iff_le];by_cases a:0<=s.K/\s.K<=1000
 ·by_cases b:(s.t.length:Int)>4
  ·grind
  ·simp only[a,b,and_self,decide_true,decide_false,Ly,Lo,iF,Lm];congr 1;funext _;by_cases c:s.t.length=0
   ·simp_all
   ·grind
 ·grind
theorem zjF: ∀a b:J3,(sLt b a||decide (b=a))= !sLt a b
 | [],[]=>rfl
 | [],b::y=>by rfl
 | a::x,[]=>by rfl
 | a::x,b::y=>by have ih:=zjF x y;simp only[sLt]at ih;simp only[sLt,Op.bytesLess];grind
theorem zkP (pass:Nat->Bool) (n:Nat) (h: ∀k,k<n->body (k:Int)=some (if pass k=true then .go ((k:Int)+1) else .done (.done false))) (a:body (n:Int)=some (.done (.go ()))):
 loopO body 0=some (if (Ny n).all pass=true then .go () else .done false):=by
 have key: ∀d k,k+d=n->loopO body (k:Int)=some (if ((Ny n).drop k).all pass=true then .go () else .done false):=by
  intro d;induction d with
  | zero=>
    intro k b;obtain rfl:k=n:=by omega
    rw[zE,a,Ml (by simp)];rfl
  | succ d ih=>
    intro k b;have c:(Ny n).drop k=k::(Ny n).drop (k+1):=by rw[Ls (by grind)];simp
    rw[zE,h k (by omega),c,Pu];grind
 have:=key n 0 (by omega);trivial
theorem zAP (x y:Int):zev x y=some (if x<y then -1 else if x>y then 1 else 0):=by unfold zev zfS;grind
theorem zAQ (x y:J3):zew x y=some (if sLt x y=true then -1 else if !(sLt x y||decide (x=y)) then 1 else 0):=by unfold zew zfT;grind
theorem zb3: ∀{a b c:J3},sLt a b=true->sLt b c=true->sLt a c=true
 | [],[],_,h,_=>by trivial
 | [],_::_,[],_,h=>by trivial
 | [],_::_,_::_,_,_=>rfl
 | _::_,[],_,h,_=>by trivial
 | _::_,_::_,[],_,h=>by trivial
 | x::a,y::b,z::c,d,e=>by
   simp only[sLt,Op.bytesLess,Pe,decide_eq_true_eq,Ma,beq_iff_eq]at d e |-
   rcases d with d | ⟨rfl,d⟩
   ·grind
   ·rcases e with e | ⟨rfl,e⟩
    ·simp_all
    ·exact .inr ⟨rfl,zb3 d e⟩
def zI (a:J3):sLt a a=false:=by have:=zjF a a;simp_all
def entV (e:Ac):Bool:=Dc (1<=(e.q.length:Int)/\(e.q.length:Int)<=10)&&(Dc (0<=e.c/\e.c<=1000000)&&(Dc ((e.Q.length:Int)<=16)&&(!e.T||decide (e.Q= []))))
def entLt (a b:Ac):Bool:=sLt a.q b.q||(Dc (a.q=b.q)&&Dc (a.c>b.c))
def entP (l:List Ac) (k:Nat):Bool:=match l[k]? with
 | some e=>entV e&&(match k with | 0=>true | j+1=>match l[j]? with | some d=>entLt d e | none=>true)
 | none=>true
theorem zhP (l:List Ac) (k:Nat) (h:k<l.length):entP l k=(entV l[k]&&(if a:0<k then entLt (l[k - 1]'(by omega)) l[k] else true)):=by unfold entP;grind
def entsV (l:List Ac):Bool:=(Ny l.length).all (entP l)
theorem zuD (e:Ac):zkF e=some (entV e):=by unfold zkF zgs entV;simp only[zW,Lm];grind
theorem zej (a b:Ac):zdE a b=some (entLt a b):=by unfold zdE entLt;grind
def zzQ (x y:Int):zh9 [x,y]=some (if x≠0 then x else y):=by
 unfold zh9;by_cases a:x=0
 ·by_cases b:y=0
  ·rw[zo (λk=>(k:Int)) 2 (r:=Ctl.go ()) ?h0]
   case h0=>rfl
   ·simp_all
   ·intro k c;have:k=0\/k=1:=by omega
    rcases this with rfl | rfl
    ·simp[idx,a];rfl
    ·simp[idx,b];rfl
   ·rfl
  ·rw[zE];simp only[idx,a];simp;rw[zE];have:J8 1=1:=by decide
   simp_all
 ·rw[zE];simp[idx,a]
def zyg (pass:Nat->Bool) (n:Nat) (h: ∀k,k<n->body (k:Int)=some (if pass k=true then .go ((k:Int)+1) else .done (.done false))) (a:body (n:Int)=some (.done (.go ()))):
    bindC (loopO body 0) (λ(_:Unit)=>some true)=some ((Ny n).all pass):=by rw[zkP pass n h a];cases (Ny n).all pass<;>rfl
theorem zg0 (l:List Ac) (h:l.length<=1048576):zer l=some (entsV l):=by
 refine zyg (entP l) l.length ?_ (by simp);intro k a;simp only[zb l k a,Lm,zuD];rw[iP,za (n:=(k:Int)+1),zhP l k a];cases c:entV l[k] with
 | false=>simp
 | true=>
   by_cases d:0<k
   ·have b:J8 ((k:Int) - 1)=((k - 1:Nat):Int):=by rw[za];omega
    simp only[b,zb l (k - 1) (by omega),Lm,zej];grind
   ·simp_all
theorem zhQ (a:entsV l=true): ∀(j:Nat) (d:j<l.length) (i:Nat) (hi:i<j),sLt (l[i]'(by omega)).q l[j].q=true\/((l[i]'(by omega)).q=l[j].q/\(l[i]'(by omega)).c>l[j].c):=by
 intro j;induction j with
 | zero=>intro _ i hi;omega
 | succ j ih=>
   intro d i hi;have b:entLt (l[j]'(by omega)) l[j+1]=true:=by unfold entsV at a;rw[Mp]at a;have:=a (j+1) (by simp_all);rw[zhP l (j+1) d,dif_pos (by omega),Ma]at this;simp_all
   unfold entLt at b;simp only[Pe,Ma,decide_eq_true_eq]at b;by_cases e:i=j
   ·simp_all
   ·rcases ih (by omega) i (by omega) with f | ⟨f,h⟩
    ·rcases b with g | ⟨g,_⟩
     ·exact .inl (zb3 f g)
     ·simp_all
    ·grind
def visE (l:List Ac) (seq:Int) (k:Nat):Bool:=match l[k]? with
 | some e=>decide (e.c<=seq)&&(l.take k).all λd=>!(Dc (d.q=e.q)&&Dc (d.c<=seq))
 | none=>false
def zg3 (l:List Ac) (seq:Int) (k:Nat) (h:k<l.length):visE l seq k=(Dc (l[k].c<=seq)&&(l.take k).all λd=>!(Dc (d.q=l[k].q)&&Dc (d.c<=seq))):=by unfold visE;rw[Mm h]
def visL (l:List Ac) (seq:Int):Nat->List KV
 | 0=>[]
 | k+1=>visL l seq k++(match l[k]? with | some e=>if visE l seq k=true/\e.T=false then [⟨e.q,e.Q⟩] else [] | none=>[])
def zl5 (l:List Ac) (seq:Int) (k:Nat) (h:k<l.length):visL l seq (k+1)=visL l seq k++if visE l seq k=true/\l[k].T=false then [⟨l[k].q,l[k].Q⟩] else []:=by show visL l seq k++(match l[k]? with | some e=>_ | none=>_)=_;simp_all
theorem zqP (l:List Ac) (seq:Int): ∀k,k<=l.length->(visL l seq k).length<=k:=by
 intro k;induction k with
 | zero=>intro _;simp[visL]
 | succ k ih=>intro h;rw[zl5 l seq k (by omega),Lr];grind
theorem zjY (l:List Ac) (key:J3) (seq:Int) (h:l.length<=1048576):
 zek l key seq=some (match l.find? (λd=>decide (d.q=key)&&Dc (d.c<=seq)) with | some d=>(d,true) | none=>(⟨[],0,false,[]⟩,false)):=by
 unfold zek;rw[zcS (λk s=>s=(k:Int)/\l.find? (λd=>decide (d.q=key)&&Dc (d.c<=seq))=(l.drop k).find? (λd=>decide (d.q=key)&&Dc (d.c<=seq))) l.length
  (match l.find? (λd=>decide (d.q=key)&&Dc (d.c<=seq)) with | some d=>Ctl.done (d,true) | none=>Ctl.go ()) ?h0 ?h1 ?h2]
 ·cases l.find? (λd=>decide (d.q=key)&&Dc (d.c<=seq))<;>rfl
 case h0=>exact ⟨rfl,rfl⟩
 ·rintro k s a ⟨rfl,b⟩;rw[b,Ls a];simp only[zb l k a,Lm];rw[iP,za (n:=(k:Int)+1)];grind
 ·grind
theorem zt7 (a:k<l.length) (b:visE l seq k=true):l.find? (λd=>decide (d.q=l[k].q)&&Dc (d.c<=seq))=some l[k]:=by
 rw[zg3 l seq k a,Ma,Mp]at b;have hs:l=l.take k++l[k]::l.drop (k+1):=by simp
 grind
theorem zv5 (j:entsV l=true) (g:k<l.length) (m:visE l seq k=false):
 ∀d,l.find? (λd=>decide (d.q=l[k].q)&&Dc (d.c<=seq))=some d->¬d.c=l[k].c:=by
 intro d n o;have a:=List.find?_some n;simp only[Ma,decide_eq_true_eq]at a;rw[zg3 l seq k g,dT,Nm]at m;have u: ∃e∈l.take k,e.q=l[k].q/\e.c<=seq:=by simp_all
 have p: ∃f,(l.take k).find? (λd=>decide (d.q=l[k].q)&&Dc (d.c<=seq))=some f:=by
  cases h:(l.take k).find? (λd=>decide (d.q=l[k].q)&&Dc (d.c<=seq)) with
  | some f=>exact ⟨f,rfl⟩
  | none=>grind
 obtain ⟨f,h⟩:=p;have s:f=d:=by have hs:l=l.take k++l.drop k:=(Mj k l).symm;grind
 subst s;obtain ⟨i,hi,rfl⟩:=Lt (List.mem_of_find?_eq_some h);have t:i<k:=by grind
 simp only[Oi]at o a;rcases zhQ j k g i t with b | ⟨_,b⟩
 ·rw[a.1,zI]at b;cases b
 ·omega
theorem zuE (l:List Ac) (seq:Int) (e:entsV l=true) (h:l.length<=1048576):zkG l seq=some (visL l seq l.length):=by
 unfold zkG;rw[zo (λk=>((k:Int),visL l seq k)) l.length (r:=Ctl.go (visL l seq l.length)) ?h0]
 case h0=>rfl
 ·rfl
 ·intro k a;have f:=zqP l seq k (by omega);simp only[zb l k a,Lm,zjY _ _ _ h,zl5 l seq k a];rw[iP,za (n:=(k:Int)+1)];cases b:visE l seq k with
  | true=>
    rw[zt7 a b];cases g:l[k].T with
    | true=>simp
    | false=>simp only[Mt,iT,Lm,decide_true,and_self];rw[ze (by grind) (by grind)];rfl
  | false=>
    have i:=zv5 e a b;cases j:l.find? (λd=>decide (d.q=l[k].q)&&Dc (d.c<=seq)) with
    | none=>simp
    | some d=>simp_all
 ·simp
def lastS (l:List Ac) (seq:Int):Nat->J3 × Bool
 | 0=>([],false)
 | k+1=>match l[k]? with | some e=>if visE l seq k=true then (e.q,true) else lastS l seq k | none=>lastS l seq k
def znr (l:List Ac) (seq:Int) (k:Nat) (h:k<l.length):lastS l seq (k+1)=if visE l seq k=true then (l[k].q,true) else lastS l seq k:=by show (match l[k]? with | some e=>_ | none=>_)=_;simp_all
theorem zxH (l:List Ac) (seq:Int): ∀k,k<=l.length->(lastS l seq k).2=true/\(∃i,∃h:i<l.length,i<k/\visE l seq i=true/\l[i].q=(lastS l seq k).1/\∀j,i<j->j<k->visE l seq j=false)\/(lastS l seq k).2=false/\∀j,j<k->visE l seq j=false:=by
 intro k;induction k with
 | zero=>intro _;exact .inr ⟨rfl,λj a=>by omega⟩
 | succ k ih=>intro b;rw[znr l seq k (by omega)];grind
theorem zr3 (l:List Ac) (seq:Int): ∀(n j:Nat) (d:j<=n) (a:j<l.length),l[j].c<=seq->∃i,∃h:i<l.length,i<=j/\visE l seq i=true/\l[i].q=l[j].q:=by
 intro n;induction n with
 | zero=>
   intro j d a hs;obtain rfl:j=0:=by omega
   exact ⟨0,a,Mf _,by rw[zg3 l seq 0 a];simp_all,rfl⟩
 | succ n ih=>
   intro j d a hs;cases b:visE l seq j with
   | true=>exact ⟨j,a,Mf _,b,rfl⟩
   | false=>rw[zg3 l seq j a,dT hs,Nm,<-Qx,Mp]at b;simp only[Classical.not_forall]at b;obtain ⟨e,f,g⟩:=b;obtain ⟨i,hi,rfl⟩:=Lt f;grind
theorem zvF (h:entsV l=true) (m:k<l.length) (hs:l[k].c<=seq):visE l seq k= !((lastS l seq k).2&&Dc (l[k].q=(lastS l seq k).1)):=by
 rw[zg3 l seq k m,dT hs,Nm];rcases zxH l seq k (by omega) with ⟨b,i,hi,n,t,C,D⟩ | ⟨b,n⟩
 ·rw[b,Nm];by_cases f:l[k].q=(lastS l seq k).1
  ·rw[dT f];show _=false;rw[<-Qx,Mp];intro u;have v:l[i]∈l.take k:=by
    have:(l.take k)[i]'(by grind)=l[i]:=by simp
    grind
   have:=u _ v;rw[zg3 l seq i hi,Ma]at t;simp_all
  ·rw[dF f,Mt,Mp];intro d g;obtain ⟨j,w,rfl⟩:=Lt g;have x:j<k:=by grind
   simp only[Oi];cases a:(Dc ((l[j]'(by omega)).q=l[k].q)&&Dc ((l[j]'(by omega)).c<=seq)) with
   | false=>rfl
   | true=>
     exfalso;simp only[Ma,decide_eq_true_eq]at a;obtain ⟨q,y,z,A,o⟩:=zr3 l seq j j (Mf _) (by omega) a.2;have E:q<=i:=by grind
     have B:l[q].q=l[k].q:=o.trans a.1;refine f ?_;by_cases e:q=i
     ·simp_all
     ·rcases zhQ h i hi q (by omega) with p | ⟨p,_⟩
      ·rcases zhQ h k m i n with s | ⟨s,_⟩
       ·have:=zb3 p s;rw[B,zI]at this;cases this
       ·simp_all
      ·simp_all
 ·rw[b,Qf,Mt,Mp];intro d g;obtain ⟨j,w,rfl⟩:=Lt g;have x:j<k:=by grind
  simp only[Oi];cases a:(Dc ((l[j]'(by omega)).q=l[k].q)&&Dc ((l[j]'(by omega)).c<=seq)) with
  | false=>rfl
  | true=>exfalso;simp only[Ma,decide_eq_true_eq]at a;obtain ⟨q,y,z,A,o⟩:=zr3 l seq j j (Mf _) (by omega) a.2;grind
theorem zrd (l:List Ac) (seq:Int) (e:entsV l=true) (h:l.length<=1048576):zis l seq=some (visL l seq l.length):=by
 unfold zis;rw[zo (λk=>((lastS l seq k).1,(lastS l seq k).2,(k:Int),visL l seq k)) l.length (r:=Ctl.go (visL l seq l.length)) ?h0]
 case h0=>rfl
 ·rfl
 ·intro k a;have g:=zqP l seq k (by omega);simp only[zb l k a,Lm,zl5 l seq k a,znr l seq k a];rw[iP,za (n:=(k:Int)+1)];by_cases hs:l[k].c<=seq
  ·have b:=zvF e a hs;generalize lastS l seq k=ls at b |-
   obtain ⟨last,A⟩:=ls;rw[dF];cases A with
   | false=>
     rw[b];cases f:l[k].T with
     | true=>simp
     | false=>rw[ze (by grind) (by grind)];rfl
   | true=>
     by_cases d:l[k].q=last
     ·simp_all
     ·rw[dF d]at b;rw[b,dF d];cases f:l[k].T with
      | true=>simp
      | false=>rw[ze (by grind) (by grind)];rfl
  ·have i:visE l seq k=false:=by rw[zg3 l seq k a,dF hs,Qf]
   simp_all
 ·simp
def seenV (l:List Ac) (snaps:List Int):List (List KV):=snaps.map (λs=>visL l s l.length)++ [visL l 1000000 l.length]
def rangeV (l:List Ac):Int × Int:=l.foldl (λs e=>(goMin s.1 e.c,goMax s.2 e.c)) (1000001,-1)
def zwr (l:List Ac) (k:Nat) (h:k<l.length):rangeV (l.take (k+1))=(goMin (rangeV (l.take k)).1 l[k].c,goMax (rangeV (l.take k)).2 l[k].c):=by unfold rangeV;rw[show l.take (k+1)=l.take k++ [l[k]] by simp,List.foldl_append];rfl
def zkd (l:List Ac) (h:l.length<=1048576):zds l=some (rangeV l):=by
 unfold zds;rw[zo (λk=>((rangeV (l.take k)).1,(rangeV (l.take k)).2,(k:Int))) l.length (r:=Ctl.go (rangeV l)) ?h0]
 case h0=>rfl
 ·rfl
 ·intro k a;simp only[zb l k a,Lm,zwr l k a];rw[iP,za (n:=(k:Int)+1)];unfold goMin goMax;by_cases b:l[k].c<(rangeV (l.take k)).1<;>by_cases d:l[k].c>(rangeV (l.take k)).2<;>simp[b,d]
 ·simp
def memV (l:List Ac):Bool:=Dc (l.length<=60)&&entsV l
theorem zut (l:List Ac) (h:l.length<=1048576):zkz l=some (memV l):=by unfold zkz memV;simp only[zg0 l h,Lm];grind
def tabsV (seq:Int):Int->List (List Ac)->Bool
 | _,[]=>true
 | low,t::r=>(Dc (t≠[])&&(entsV t&&(Dc ((rangeV t).2<low)&&Dc ((rangeV t).2<=seq))))&&tabsV seq (rangeV t).1 r
def snapP (seq:Int) (l:List Int) (k:Nat):Bool:=match l[k]? with
 | some s=>decide (0<=s/\s<=seq)&&(match k with | 0=>true | j+1=>match l[j]? with | some d=>decide (d<s) | none=>true)
 | none=>true
theorem znH (seq:Int) (l:List Int) (k:Nat) (h:k<l.length):snapP seq l k=(Dc (0<=l[k]/\l[k]<=seq)&&(if a:0<k then Dc (l[k - 1]'(by omega)<l[k]) else true)):=by unfold snapP;grind
def snapsV (seq:Int) (l:List Int):Bool:=(Ny l.length).all (snapP seq l)
def totalV (l:List (List Ac)):Nat:=(l.map Nv).sum
def engV (e:Aa):Bool:=(Dc (0<=e.c/\e.c<=1000000)&&(Dc (e.u.length<=4)&&(Dc (e.D.length<=6)&&(Dc (totalV e.D+e.G.length<=400)&&(memV e.G&&(Dc ((rangeV e.G).2<=e.c)&&tabsV e.c (rangeV e.G).1 e.D))))))&&snapsV e.c e.u
def zkI (l:List (List Ac)) (k:Nat) (h:k<l.length):totalV (l.take (k+1))=totalV (l.take k)+l[k].length:=by unfold totalV;rw[show l.take (k+1)=l.take k++ [l[k]] by simp,List.map_append,List.sum_append];rfl
theorem znO (l:List (List Ac)) (k:Nat):totalV (l.take k)<=totalV l:=by
 unfold totalV;conv=>rhs;rw[<-Mj k l]
 grind
def zlM (l:List (List Ac)) (h:l.length<=1048576) (c:totalV l<=1048576):zge l=some (totalV l:Int):=by
 unfold zge;rw[zo (λk=>((totalV (l.take k):Int),(k:Int))) l.length (r:=Ctl.go (totalV l:Int)) ?h0]
 case h0=>rfl
 ·rfl
 ·intro k a;have b:=zkI l k a;have d:=znO l (k+1);simp only[zb l k a,Lm,b];rw[iP,za (n:=(k:Int)+1),za];rfl
 ·simp
theorem zcb (e:Aa) (h:e.G.length<=1048576) (C:e.D.length<=1048576) (m:totalV e.D<=1048576) (E:e.u.length<=1048576):zca e=some (engV e):=by
 have o: ∀t∈e.D,t.length<=1048576:=λt p=>Nt (zjj Nv p) m;unfold zca engV;simp only[zut _ h,zW,zkd _ h,Lm];cases F:memV e.G with
 | false=>simp
 | true=>
   by_cases q:e.D.length<=6
   ·rw[dT q,dF];by_cases v:0<=e.c/\e.c<=1000000
    ·rw[dT v];by_cases w:e.u.length<=4
     ·rw[dT w,dF];by_cases x:(rangeV e.G).2<=e.c
      ·rw[dT x,dF];simp only[Ly,Lo,iF,Lm,Nm];have hL:=zcS (ρ:=Ctl Int Bool) (s0:=((rangeV e.G).1,(e.G.length:Int),(0:Int))) (body:=λ(J:Int × Int × Int)=>if Dc (J.2.2<(e.D.length:Int))then Bd0 (idx e.D J.2.2) λM=>Bd0 (zds M) λO=>Bd0 (if Dc ((M.length:Int)=0)then some true else Bd0 (zer M) λU=>if !U then some true else if Dc (O.2>=J.1)then some true else some (Dc (O.2>e.c))) (λ(V:Bool)=>if V=true then some (.done (.done false))else some (.go (O.1,J8 (J.2.1+(M.length:Int)),J8 (J.2.2+1))))else some (.done (.go J.2.1)))
        (λk s=>s.2.2=(k:Int)/\s.2.1=(totalV (e.D.take k):Int)+e.G.length/\tabsV e.c (rangeV e.G).1 e.D=tabsV e.c s.1 (e.D.drop k)) e.D.length
        (bif tabsV e.c (rangeV e.G).1 e.D then Ctl.go ((totalV e.D:Int)+e.G.length) else Ctl.done false) ⟨rfl,by simp[totalV],rfl⟩ (by
          rintro k ⟨Z,tot,i⟩ a ⟨b,d,f⟩;subst b d;have y:e.D.drop k=e.D[k]::e.D.drop (k+1):=Ls a;have j:=o _ (Nf a);have H:=zkI e.D k a;have t2:=znO e.D (k+1);rw[f,y];simp only[tabsV,zb e.D k a,Lm,zkd _ j,zg0 _ j];rw[iP (by grind),za (n:=(k:Int)+1),za (n:=(totalV (e.D.take k):Int)+e.G.length+(e.D[k].length:Int))];by_cases g:e.D[k]= []
          ·simp_all
          ·have I: ¬(e.D[k].length:Int)=0:=by simp;omega
           grind) (by
          rintro ⟨Z,tot,i⟩ ⟨b,d,f⟩;subst b d;rw[f,Ot];simp[tabsV])
       rw[hL];cases tabsV e.c (rangeV e.G).1 e.D with
       | false=>simp
       | true=>
         rw[zkP (snapP e.c e.u) e.u.length ?hp ?hq]
         case hq=>simp
         case hp=>
          intro k a
          simp only[zb e.u k a,Lm]
          rw[iP,za (n:=(k:Int)+1),znH e.c e.u k a]
          by_cases g:0<=e.u[k]/\e.u[k]<=e.c
          ·rw[dT g];by_cases z:0<k
           ·have A:J8 ((k:Int) - 1)=((k - 1:Nat):Int):=by rw[za];omega
            rw[dif_pos z,iN (by simp),iP];simp only[A,zb e.u (k - 1) (by omega),Lm];by_cases l:e.u[k - 1]'(by omega)<e.u[k]
            ·simp[l,show ¬e.u[k]<=e.u[k - 1]'(by omega) by omega]
            ·simp[l,show e.u[k]<=e.u[k - 1]'(by omega) by omega]
           ·obtain rfl:k=0:=by omega
            simp
          ·rw[dF g];simp
         have W:(Ny e.u.length).all (snapP e.c e.u)=snapsV e.c e.u:=rfl;rw[W];have B:Dc ((totalV e.D:Int)+(e.G.length:Int)<=400)=Dc (totalV e.D+e.G.length<=400):=decide_eq_decide.2 (by omega);cases snapsV e.c e.u with
         | false=>simp
         | true=>simp only[iT,cT,zd,B,Nm,Pv]
      ·grind
     ·grind
    ·grind
   ·grind
theorem zoo (s:List Ac) (h:s.length<=1048576):zc0 s=some s:=by unfold zc0;rw[ze (by grind) (by grind)];rfl
theorem zuP (s:List Int) (h:s.length<=1048576):zed s=some s:=by unfold zed;rw[ze (by grind) (by grind)];rfl
theorem zlE (e:Aa) (b:e.G.length<=1048576) (g:e.D.length<=1048576) (c: ∀t∈e.D,t.length<=1048576) (d:e.u.length<=1048576):zf9 e=some e:=by
 unfold zf9;simp only[zoo _ b,zuP _ d,Lm];rw[zo (λk=>((k:Int),e.D.take k)) e.D.length (r:=Ctl.go e.D) ?h0]
 case h0=>rfl
 ·rfl
 ·intro k a;have f:e.D.take (k+1)=e.D.take k++ [e.D[k]]:=by simp
  simp only[zb e.D k a,Lm,zoo _ (c _ (Nf a))];rw[iP,za (n:=(k:Int)+1),ze (by grind) (by simp;omega),f];rfl
 ·simp
theorem zcy (e:Aa) (d:e.G.length<=1048576) (g:e.D.length<=1048576) (f: ∀t∈e.D,t.length<=1048576) (h:e.u.length<=1048576):zb7 e=some e:=by
 have a: ∀t:List Ac,t.length<=1048576->app 48 ([]:List Ac) t=some t:=λt b=>by rw[ze (by grind) (by grind)];rfl
 unfold zb7;rw[a _ d,ze (l:=([]:List Int)) (k:=e.u) (by grind) (by grind)];rw[zo (λk=>((k:Int),e.D.take k)) e.D.length (r:=Ctl.go e.D) ?h0]
 case h0=>rfl
 ·rfl
 ·intro k c;have b:e.D.take (k+1)=e.D.take k++ [e.D[k]]:=by simp
  simp only[zb e.D k c,Lm,a _ (f _ (Nf c))];rw[iP,za (n:=(k:Int)+1),ze (by grind) (by simp;omega),b];rfl
 ·simp
theorem zwa (s:List Int) (v:Int) (h:s.length<=1048576):zc1 s v=some (Dc (v∈s)):=by
 unfold zc1 zbL;have key: ∃c,loopO (ρ:=Ctl Unit Int) (λ(S1:Int)=>if Dc (S1<(s.length:Int))then Bd0 (idx s S1) λA=>if Dc (v=A)then some (.done (.done S1))else some (.go (J8 (S1+1)))else some (.done (.go ()))) 0=some c/\
  ((∃j:Int,c= .done j/\0<=j/\v∈s)\/(c= .go ()/\v∉s)):=by
  refine z7 (λi t=>t=(i:Int)/\∀q (h:q<s.length),q<i->s[q]≠v) s.length _ ⟨rfl,λq h a=>by omega⟩ ?_ ?_
  ·rintro i t hi ⟨rfl,a⟩;simp only[zb s i hi,Lm];rw[iP,za];grind
  ·rintro t ⟨rfl,a⟩;refine ⟨.go (),by simp,.inr ⟨rfl,λb=>?_⟩⟩;obtain ⟨q,e,rfl⟩:=Lt b;grind
 obtain ⟨c,f,a⟩:=key;rcases a with ⟨j,rfl,g,d⟩ | ⟨rfl,d⟩
 ·simp_all
 ·simp_all
theorem zgn {l:List Int} (a:snapsV seq l=true) (k:Nat) (b:k<l.length):(0<=l[k]/\l[k]<=seq)/\(0<k->l[k - 1]'(by omega)<l[k]):=by unfold snapsV at a;rw[Mp]at a;have:=a k (by simp_all);rw[znH seq l k b,Ma]at this;grind
theorem zrD {l:List Int} (a:snapsV seq l=true) (c:0<l.length):(seq∈l)↔l[l.length - 1]'(by omega)=seq:=by
 constructor
 ·intro b;obtain ⟨i,hi,d⟩:=Lt b;by_cases e:i=l.length - 1
  ·simp_all
  ·have f:=(zgn a (i+1) (by omega)).2 (by omega);have g:=(zgn a (i+1) (by omega)).1;grind
 ·grind
def snapR (e:Aa):Aa × Int × Bool:=
 if engV e=true then (if e.c∈e.u then (e,e.c,true) else if e.u.length=4 then (e,0,false) else ({e with u:=e.u++ [e.c]},e.c,true))
 else (⟨[],[],0,[]⟩,0,false)
def zki (h:engV e=true):e.u.length<=4/\snapsV e.c e.u=true:=by unfold engV at h;simp_all
theorem zrH (e:Aa) (a:e.G.length<=1048576) (b:e.D.length<=1048576) (d:totalV e.D<=1048576) (f:e.u.length<=1048576):ziH e=some (snapR e):=by
 have g: ∀t∈e.D,t.length<=1048576:=λt h=>Nt (zjj Nv h) d;unfold ziH snapR;rw[zcb e a b d f];cases i:engV e with
 | false=>rfl
 | true=>
   obtain ⟨p,j⟩:=zki i;simp only[Lm,Ly,Lo,iF,iT,zcy e a b g f];have k:((if Dc ((e.u.length:Int)>0) then ((idx e.u (J8 ((e.u.length:Int) - 1))).bind λA=>some (Dc (A=e.c))) else (some false)))=some (Dc (e.c∈e.u)):=by
    by_cases l:0<e.u.length
    ·have m:J8 ((e.u.length:Int) - 1)=((e.u.length - 1:Nat):Int):=by rw[za];omega
     rw[iP,m,zb _ _ (by omega)];simp only[Lm];rw[decide_eq_decide.2 (zrD j l)]
    ·simp_all
   rw[k];by_cases n:e.c∈e.u
   ·simp_all
   ·by_cases o:e.u.length=4
    ·simp_all
    ·have: ¬(e.u.length:Int)>=4:=by omega
     simp only[n,o,this,decide_false,Lo,iF];rw[ze (by grind) (by grind)];rfl
def zT (l:List α) (a b:Nat) (lo hi:Int) (c:lo=(a:Int)) (d:hi=(b:Int)) (e:a<=b) (f:b<=l.length):piece l lo hi=some ((l.drop a).take (b - a)):=by unfold piece;simp_all
theorem zkj (l:List α) (p:α->Bool) (j:Nat) (b:j<l.length) (c:p l[j]=false) (d: ∀i (h:i<l.length),i≠j->p l[i]=true):l.filter p=l.take j++l.drop (j+1):=by
 have hs:l=l.take j++l[j]::l.drop (j+1):=by simp
 have e:(l.take j).filter p=l.take j:=by rw[Ov];intro x a;obtain ⟨i,hi,rfl⟩:=Lt a;grind
 have f:(l.drop (j+1)).filter p=l.drop (j+1):=by rw[Ov];intro x a;obtain ⟨i,hi,rfl⟩:=Lt a;grind
 grind
theorem zl7 (p:α->Bool) (l:List α) (k:Nat) (h:k<l.length):(l.take (k+1)).filter p=(l.take k).filter p++if p l[k]=true then [l[k]] else []:=by rw[show l.take (k+1)=l.take k++ [l[k]] by simp,Mz];grind
theorem zxt (l:List Int) (j:Nat) (b:j<l.length) (h:l.length<=1048576):zdM l (j:Int) (J8 ((j:Int)+1))=some (l.take j++l.drop (j+1)):=by
 unfold zdM;have a:J8 ((j:Int)+1)=((j+1:Nat):Int):=by rw[za];omega
 rw[a,zT l j (j+1) _ _ rfl rfl (by omega) (by omega),zT l 0 j 0 (j:Int) rfl rfl (by omega) (by omega),zT l (j+1) l.length _ _ rfl rfl (by omega) (by omega)];rw[iN (by grind)];simp;exact Lv (by simp)
theorem zwi (s:List Int) (v:Int) (h:s.length<=1048576):(∃j,∃b:j<s.length,zbL s v=some (j:Int)/\s[j]=v)\/(zbL s v=some (-1)/\∀x∈s,¬x=v):=by
 unfold zbL;have key: ∃c,loopO (ρ:=Ctl Unit Int) (λ(S1:Int)=>if Dc (S1<(s.length:Int))then Bd0 (idx s S1) λA=>if Dc (v=A)then some (.done (.done S1))else some (.go (J8 (S1+1)))else some (.done (.go ()))) 0=some c/\
  ((∃j,∃b:j<s.length,c= .done (j:Int)/\s[j]=v)\/(c= .go ()/\∀x∈s,¬x=v)):=by
  refine z7 (λi t=>t=(i:Int)/\∀q (h:q<s.length),q<i->¬s[q]=v) s.length _ ⟨rfl,λq h a=>by omega⟩ ?_ ?_
  ·rintro i t hi ⟨rfl,a⟩;simp only[zb s i hi,Lm];rw[iP,za];grind
  ·rintro t ⟨rfl,a⟩;refine ⟨.go (),by simp,.inr ⟨rfl,λx e=>?_⟩⟩;obtain ⟨q,g,rfl⟩:=Lt e;simp_all
 obtain ⟨c,f,a⟩:=key;rw[f];rcases a with ⟨j,b,rfl,d⟩ | ⟨rfl,d⟩
 ·exact .inl ⟨j,b,rfl,d⟩
 ·simp_all
theorem zqz {l:List Int} (b:snapsV seq l=true): ∀(j:Nat) (a:j<l.length) (i:Nat) (hi:i<j),l[i]'(by omega)<l[j]:=by
 intro j;induction j with
 | zero=>intro _ i hi;omega
 | succ j ih=>intro a i hi;have c:=(zgn b (j+1) a).2 (by omega);grind
def dropS (l:List Int) (x:Int):List Int:=l.filter λs=>!Dc (s=x)
def zm8 {l:List Int} (a:snapsV seq l=true) (j:Nat) (b:j<l.length):dropS l l[j]=l.take j++l.drop (j+1):=by
 refine zkj l _ j b (by simp) λi hi c=>?_;have: ¬l[i]=l[j]:=by
  rcases Mw i j with h | h
  ·have:=zqz a j b i h;omega
  ·have:=zqz a i hi j (by omega);omega
 simp_all
def engDropR (e:Aa) (x:Int):Aa × Bool:=if engV e=true then (if x∈e.u then ({e with u:=dropS e.u x},true) else (e,false)) else (⟨[],[],0,[]⟩,false)
theorem zrE (e:Aa) (x:Int) (a:e.G.length<=1048576) (b:e.D.length<=1048576) (d:totalV e.D<=1048576) (f:e.u.length<=1048576):ziG e x=some (engDropR e x):=by
 have h: ∀t∈e.D,t.length<=1048576:=λt i=>Nt (zjj Nv i) d;unfold ziG engDropR;rw[zcb e a b d f];cases l:engV e with
 | false=>rfl
 | true=>
   simp only[Lm,Ly,Lo,iF,iT,zcy e a b h f];rw[zo (λk=>((k:Int),(e.u.take k).filter λs=>!Dc (s=x))) e.u.length (r:=Ctl.go (dropS e.u x)) ?h0]
   case h0=>rfl
   ·simp only[zd];by_cases m:x∈e.u
    ·obtain ⟨j,o,rfl⟩:=Lt m;have p:=zm8 (zki l).2 j o;grind
    ·have p:dropS e.u x=e.u:=by unfold dropS;rw[Ov];grind
     simp_all
   ·intro k g;simp only[zb e.u k g,Lm,zl7 _ e.u k g];rw[iP,za (n:=(k:Int)+1)];by_cases c:e.u[k]=x
    ·simp[c]
    ·simp only[c,decide_false,Mt,iT];rw[ze (by grind) (by grind)];rfl
   ·simp[dropS]
def shareP (l:List A9) (k:Nat):Bool:=match l[k]? with
 | some x=>decide (1<=x.r/\x.r<=99)&&(Dc (0<=x.Y/\x.Y<=1000)&&(match k with | 0=>true | j+1=>match l[j]? with | some d=>decide (d.r<x.r) | none=>true))
 | none=>true
theorem zlS (l:List A9) (k:Nat) (h:k<l.length):shareP l k=(Dc (1<=l[k].r/\l[k].r<=99)&&(Dc (0<=l[k].Y/\l[k].Y<=1000)&&(if a:0<k then Dc ((l[k - 1]'(by omega)).r<l[k].r) else true))):=by unfold shareP;grind
def allNeed (s:Ad):Int:=(s.t.map λx=>needV x.Y).sum+if s.t.length>0 then 4 else 0
def sharesV (s:Ad):Bool:=Dc (0<=s.K/\s.K<=1000)&&(Dc (s.t.length<=4)&&((Ny s.t.length).all (shareP s.t)&&Dc (allNeed s<=s.K)))
theorem zbg (s:Ad) (h:s.t.length<=1048576):zbO s=some (sharesV s):=by
 unfold zbO sharesV;simp only[zW,Lm,zmQ s h];by_cases e:0<=s.K/\s.K<=1000
 ·by_cases f:s.t.length<=4
  ·rw[dT e,dT f,dF];rw[zkP (shareP s.t) s.t.length ?hp ?hq]
   case hq=>simp
   case hp=>
    intro k b
    simp only[zb s.t k b,Lm]
    rw[iP,za (n:=(k:Int)+1),zlS s.t k b]
    by_cases a:1<=s.t[k].r/\s.t[k].r<=99
    ·by_cases c:0<=s.t[k].Y/\s.t[k].Y<=1000
     ·rw[dT a,dT c];by_cases g:0<k
      ·have i:J8 ((k:Int) - 1)=((k - 1:Nat):Int):=by rw[za];omega
       rw[dif_pos g,iN (by simp),iN (by simp),iP];simp only[i,zb s.t (k - 1) (by omega),Lm];by_cases d:(s.t[k - 1]'(by omega)).r<s.t[k].r
       ·simp[d,show ¬s.t[k].r<=(s.t[k - 1]'(by omega)).r by omega]
       ·simp[d,show s.t[k].r<=(s.t[k - 1]'(by omega)).r by omega]
      ·obtain rfl:k=0:=by omega
       simp
     ·rw[dT a,dF c];simp
    ·rw[dF a];simp
   cases (Ny s.t.length).all (shareP s.t) with
   | false=>rfl
   | true=>rfl
  ·grind
 ·grind
theorem zo4 {s:Ad} (a:sharesV s=true): ∀(j:Nat) (b:j<s.t.length) (i:Nat) (hi:i<j),(s.t[i]'(by omega)).r<s.t[j].r:=by
 intro j;induction j with
 | zero=>intro _ i hi;omega
 | succ j ih=>
   intro b i hi;have c:(s.t[j]'(by omega)).r<s.t[j+1].r:=by unfold sharesV at a;simp only[Ma,Mp]at a;have:=a.2.2.1 (j+1) (by simp_all);rw[zlS s.t (j+1) b,dif_pos (by omega)]at this;simp_all
   grind
theorem zsc (s:List A9) (h:s.length<=1048576):zec s=some s:=by unfold zec;rw[ze (by grind) (by grind)];rfl
def zjM (s:Ad) (h:s.t.length<=1048576):zd7 s=some s:=by unfold zd7;rw[zsc _ h];rfl
theorem zf3 (s:Ad) (h:s.t.length<=1048576):ze2 s=some s:=by unfold ze2;rw[ze (by grind) (by grind)];rfl
theorem zjU (s:Ad) (t:Int) (f:sharesV s=true) (h:s.t.length<=1048576):
 ∃j,j<=s.t.length/\(∀i (hi:i<s.t.length),i<j->s.t[i].r<t)/\(∀i (hi:i<s.t.length),j<i->t<s.t[i].r)/\
  ((∃a:j<s.t.length,zeR s t=some ((j:Int),true)/\s.t[j].r=t)\/(zeR s t=some ((j:Int),false)/\∀i (hi:i<s.t.length),j<=i->t<s.t[i].r)):=by
 unfold zeR;have key: ∃c,loopO (ρ:=Ctl Int (Int × Bool)) (λ(A:Int)=>Bd0 (if Dc (A<(s.t.length:Int))then Bd0 (idx s.t A) λB=>some (Dc (B.r<t))else some false) (λ(D:Bool)=>if D=true then some (.go (J8 (A+1)))else some (.done (.go A)))) 0=some c/\
  ∃j,c= .go ((j:Nat):Int)/\j<=s.t.length/\(∀i (hi:i<s.t.length),i<j->s.t[i].r<t)/\∀a:j<s.t.length,t<=s.t[j].r:=by
  refine z7 (λi q=>q=(i:Int)/\∀q (h:q<s.t.length),q<i->s.t[q].r<t) s.t.length _ ⟨rfl,λq h b=>by omega⟩ ?_ ?_
  ·rintro i q hi ⟨rfl,b⟩;simp only[zb s.t i hi,Lm];rw[iP,za];grind
  ·grind
 obtain ⟨c,g,j,rfl,k,b,l⟩:=key;rw[g];have m: ∀i (hi:i<s.t.length),j<i->t<s.t[i].r:=λi hi d=>by have:=l (by omega);have:=zo4 f i hi j d;omega
 refine ⟨j,k,b,m,?_⟩;by_cases a:j<s.t.length
 ·by_cases e:s.t[j].r=t
  ·refine .inl ⟨a,?_,e⟩;simp[zb s.t j a,a,e]
  ·refine .inr ⟨?_,λi hi d=>?_⟩
   ·simp[zb s.t j a,a,e]
   ·grind
 ·refine .inr ⟨?_,λi hi d=>by omega⟩;simp[a]
theorem zuV (l:List A9) (j:Nat) (b:j<l.length) (h:l.length<=1048576):zdL l (j:Int) (J8 ((j:Int)+1))=some (l.take j++l.drop (j+1)):=by
 unfold zdL;have a:J8 ((j:Int)+1)=((j+1:Nat):Int):=by rw[za];omega
 rw[a,zT l j (j+1) _ _ rfl rfl (by omega) (by omega),zT l 0 j 0 (j:Int) rfl rfl (by omega) (by omega),zT l (j+1) l.length _ _ rfl rfl (by omega) (by omega)];rw[iN (by grind)];simp;exact Lv (by simp)
def dropT (l:List A9) (t:Int):List A9:=l.filter λx=>!Dc (x.r=t)
def shareDropR (s:Ad) (t:Int):Ad × Bool:=if sharesV s=true then (if (dropT s.t t).length=s.t.length then (s,false) else ({s with t:=dropT s.t t},true)) else (⟨0,[]⟩,false)
theorem zkc (s:Ad) (t:Int) (h:s.t.length<=1048576):ze0 s t=some (shareDropR s t):=by
 unfold ze0 shareDropR;rw[zbg s h];cases b:sharesV s with
 | false=>rfl
 | true=>
   rw[zo (λk=>((k:Int),(s.t.take k).filter λx=>!Dc (x.r=t))) s.t.length (r:=Ctl.go (dropT s.t t)) ?h0]
   case h0=>rfl
   ·simp only[zd,zf3 s h,Lm];grind
   ·intro k a;simp only[zb s.t k a,Lm,zl7 _ s.t k a];rw[iP,za (n:=(k:Int)+1)];by_cases c:s.t[k].r=t
    ·simp[c]
    ·simp only[c,decide_false,Mt,iT];rw[ze (by grind) (by grind)];rfl
   ·simp[dropT]
theorem zj6 (s:Ad) (t:Int) (h:s.t.length<=1048576):zeJ s t=some (shareDropR s t):=by
 unfold zeJ shareDropR;rw[zci s h,zbg s h];cases c:sharesV s with
 | false=>rfl
 | true=>
   simp only[Lm,Ly,Lo,iF,iT,zjM s h];obtain ⟨j,k,l,m,d⟩:=zjU s t c h;rcases d with ⟨b,a,e⟩ | ⟨a,e⟩
   ·rw[a];simp only[Lm,Ly,Lo,iF,zuV s.t j b h];have f:dropT s.t t=s.t.take j++s.t.drop (j+1):=by refine zkj s.t _ j b (by simp_all) λi hi n=>?_;grind
    grind
   ·rw[a];have f:dropT s.t t=s.t:=by unfold dropT;rw[Ov];intro x g;obtain ⟨i,hi,rfl⟩:=Lt g;grind
    simp_all
def setF (l:List A9) (t q:Int) (j D k:Nat):Bool × Int × List A9:=bif Qj k j then (false,(k:Int),l.take k) else (true,(k:Int),l.take j++(⟨t,q⟩::(l.drop D).take (k - D)))
def zpq (l:List A9) (t q:Int) (j D k:Nat) (h:k<=j):setF l t q j D k=(false,(k:Int),l.take k):=by unfold setF;rw[Qd h];rfl
def zpp (l:List A9) (t q:Int) (j D k:Nat) (h:j<k):setF l t q j D k=(true,(k:Int),l.take j++(⟨t,q⟩::(l.drop D).take (k - D))):=by
 unfold setF;have:Qj k j=false:=by
  cases a:Qj k j
  ·rfl
  ·simp_all;omega
 simp_all
theorem zfp (s:Ad) (t q:Int) (j D:Nat) (g:sharesV s=true) (w:s.t.length<=4) (x:j<=s.t.length) (A:D=j\/D=j+1) (E:D<=s.t.length) (e: ∀i (hi:i<s.t.length),i<j->s.t[i].r<t) (f: ∀i (hi:i<s.t.length),D<=i->t<s.t[i].r) (h:D=j+1->∀hi:j<s.t.length,s.t[j].r=t):
 zbr s t q=some (if sharesV ⟨s.K,s.t.take j++(⟨t,q⟩::s.t.drop D)⟩=true then (⟨s.K,s.t.take j++(⟨t,q⟩::s.t.drop D)⟩,true) else (s,false)):=by
 unfold zbr;rw[zbg s (by omega),g];simp only[Lm,Ly,Lo,iF];have l:(s.t.take j++(⟨t,q⟩::s.t.drop D):List A9).length<=1048576:=by grind
 have m:zbO ⟨s.K,s.t.take j++(⟨t,q⟩::s.t.drop D)⟩=some (sharesV ⟨s.K,s.t.take j++(⟨t,q⟩::s.t.drop D)⟩):=zbg _ l;by_cases y:j=s.t.length
 ·have B:D=j:=by omega
  rw[zo (λk=>(false,(k:Int),s.t.take k)) s.t.length (r:=Ctl.go (false,s.t)) ?h0]
  case h0=>rfl
  ·simp only[zd,Mt,iT];rw[ze (by grind) (by grind)];simp only[Lm,zd];have hl:s.t++ [⟨t,q⟩]=s.t.take j++(⟨t,q⟩::s.t.drop D):=by simp_all
   simp only[Lm,zf3 s (by omega)];grind
  ·intro k a;have o:=e k a (by omega);have b:s.t.take (k+1)=s.t.take k++ [s.t[k]]:=by simp
   simp only[zb s.t k a,Lm,Mt,iT];rw[iP (by simpa using a),za (n:=(k:Int)+1),dF,dF];simp only[Lo,iF,zd,Mt,iT];rw[ze (by grind) (by grind),b];rfl
  ·simp
 ·have z:j<s.t.length:=by omega
  rw[zo (setF s.t t q j D) s.t.length (r:=Ctl.go (true,s.t.take j++(⟨t,q⟩::s.t.drop D))) ?h0]
  case h0=>rw[zpq _ _ _ _ _ _ (Oz _)];simp
  ·simp only[zd,Ly,Lo,iF,m,Lm,zf3 s (by omega)];grind
  ·intro k a;have d:=za (n:=(k:Int)+1);rcases Ok k j with c | c | c
   ·have o:=e k a c;have b:s.t.take (k+1)=s.t.take k++ [s.t[k]]:=by simp
    rw[zpq _ _ _ _ _ _ (by omega),zpq _ _ _ _ _ _ (by omega)];simp only[zb s.t k a,Lm,Mt,iT,d];rw[iP (by simpa using a),dF,dF];simp only[Lo,iF,zd,Mt,iT];rw[ze (by grind) (by grind),b];rfl
   ·subst c;rw[zpq _ _ _ _ _ _ (Mf _),zpp _ _ _ _ _ _ (by omega)];simp only[zb s.t k a,Lm,Mt,iT,d];rw[iP];rcases A with rfl | rfl
    ·have p:=f D a (Mf _);rw[dT,dF];rw[ze (by grind) (by grind)];simp only[Lm,zd,Mt,iT];rw[ze (by grind) (by grind)];have:(s.t.drop D).take (D+1 - D)= [s.t[D]]:=by rw[Ls a,show D+1 - D=1 by omega];rfl
     simp_all
    ·have u:=h rfl a;rw[dT,dT u];rw[ze (by grind) (by grind)];simp
   ·have p:=f k a (by omega);rw[zpp _ _ _ _ _ _ (by omega),zpp _ _ _ _ _ _ (by omega)];simp only[zb s.t k a,Lm,Ly,Lo,iF,d];rw[iP,dF];simp only[zd,Mt,iT];rw[ze (by grind) (by grind)];have v:k - D<(s.t.drop D).length:=by grind
    have b:(s.t.drop D).take (k+1 - D)=(s.t.drop D).take (k - D)++ [s.t[k]]:=by rw[show k+1 - D=(k - D)+1 by omega,Og,Mm v,Pa];grind
    simp_all
  ·rw[zpp _ _ _ _ _ _ (by omega)];grind
theorem zvd (l:List A9) (x:A9) (j:Nat) (a:j<=l.length) (h:l.length<=1048576):zdN l (j:Int) [x]=some (l.take j++(x::l.drop j)):=by unfold zdN ins;grind
theorem znQ (s:Ad) (t q:Int) (h:s.t.length<=1048576): ∃r,zbr s t q=some r/\zbN s t q=some r/\r.1.t.length<=1048576:=by
 by_cases a:sharesV s=true
 ·have k:s.t.length<=4:=by unfold sharesV at a;simp_all
  obtain ⟨j,d,l,o,p⟩:=zjU s t a h;have w: ∀D,(D=j\/D=j+1)->D<=s.t.length->∀b:Bool,((if b=true then (⟨s.K,s.t.take j++(⟨t,q⟩::s.t.drop D)⟩,true) else (s,false):Ad × Bool)).1.t.length<=1048576:=by grind
  rcases p with ⟨m,f,g⟩ | ⟨f,g⟩
  ·have u:=zfp s t q j (j+1) a k d (.inr rfl) (by omega) l (λi hi x=>o i hi (by omega)) (λ_ _=>g);unfold zbN;rw[zci s h,zbg s h,a];simp only[Lm,Ly,Lo,iF,iT,zjM s h,f,zb s.t j m,Mg,zd];have v:s.t.set j ⟨t,q⟩=s.t.take j++(⟨t,q⟩::s.t.drop (j+1)):=by rw[List.set_eq_take_append_cons_drop,iP m]
   have c:(s.t.take j++(⟨t,q⟩::s.t.drop (j+1)):List A9).length<=1048576:=by grind
   rw[v,zci _ c,zbg _ c];grind
  ·have u:=zfp s t q j j a k d (.inl rfl) d l g (λe=>by omega);unfold zbN;rw[zci s h,zbg s h,a];simp only[Lm,Ly,Lo,iF,zjM s h,f,zvd s.t _ j d h,zd];have c:(s.t.take j++(⟨t,q⟩::s.t.drop j):List A9).length<=1048576:=by simp_all
   rw[zci _ c,zbg _ c];grind
 ·have n:sharesV s=false:=by simp_all
  refine ⟨(⟨0,[]⟩,false),?_,?_,by simp⟩
  ·unfold zbr;rw[zbg s h,n];rfl
  ·unfold zbN;rw[zci s h,zbg s h,n];rfl
def ztR {a b:J3} (h:sLt a b=true):sLt b a=false:=by have:=zjF a b;simp_all
def zvC {a b:J3} (c:sLt a b=false) (d:sLt b a=false):a=b:=by have:=zjF a b;simp_all
theorem zzK (l:List α) (p:α->Bool) (h: ∀k (a:k<l.length),body (k:Int)=some (if p l[k]=true then .done (.done true) else .go ((k:Int)+1))) (c:body (l.length:Int)=some (.done (.go ()))):
 bindC (loopO body 0) (λ(_:Unit)=>some false)=some (l.any p):=by
 rw[zcS (λk s=>s=(k:Int)/\l.any p=(l.drop k).any p) l.length (if l.any p=true then Ctl.done true else Ctl.go ()) ?h0 ?h1 ?h2]
 ·cases l.any p<;>rfl
 case h0=>exact ⟨rfl,rfl⟩
 ·rintro k s a ⟨rfl,b⟩;rw[h k a,b,Ls a,Pw];grind
 ·simp_all
def stayV (snaps:List Int) (l:List Ac):Nat->Bool
 | 0=>true
 | j+1=>match l[j]?,l[j+1]? with
   | some d,some e=>!Dc (d.q=e.q)||snaps.any (λs=>decide (e.c<=s)&&Dc (s<d.c))
   | _,_=>false
def zkH (snaps:List Int) (l:List Ac) (j:Nat) (h:j+1<l.length):stayV snaps l (j+1)=(!Dc ((l[j]'(by omega)).q=l[j+1].q)||snaps.any (λs=>decide (l[j+1].c<=s)&&Dc (s<(l[j]'(by omega)).c))):=by show (match l[j]?,l[j+1]? with | some d,some e=>_ | _,_=>false)=_;rw[Mm h,Mm (by omega)]
theorem zyN (l:List Ac) (snaps:List Int) (k:Nat) (a:k<l.length) (h:l.length<=1048576) (hs:snaps.length<=1048576):zjn l (k:Int) snaps=some (stayV snaps l k):=by
 unfold zjn;cases k with
 | zero=>rfl
 | succ j=>
   have b:J8 (((j+1:Nat):Int) - 1)=(j:Int):=by rw[za];omega
   rw[iN (by grind),b,zb l j (by omega),zb l (j+1) a,zkH snaps l j a];simp only[Lm];by_cases c:(l[j]'(by omega)).q=l[j+1].q
   ·rw[dT c];refine zzK snaps _ ?_ (by simp);intro m d;simp only[zb snaps m d,Lm];rw[iP,za (n:=(m:Int)+1)];grind
   ·simp_all
def keepT (snaps:List Int) (l:List Ac) (a:Nat):Nat->List Ac
 | 0=>[]
 | n+1=>keepT snaps l a n++(if stayV snaps l (a+n)=true then l[a+n]?.toList else [])
def znp (snaps:List Int) (l:List Ac) (a n:Nat) (h:a+n<l.length):keepT snaps l a (n+1)=keepT snaps l a n++(if stayV snaps l (a+n)=true then [l[a+n]] else []):=by show keepT snaps l a n++(if stayV snaps l (a+n)=true then l[a+n]?.toList else [])=_;simp_all
theorem zhV (snaps:List Int) (l:List Ac) (a:Nat): ∀n,(keepT snaps l a n).length<=n:=by
 intro n;induction n with
 | zero=>simp[keepT]
 | succ n ih=>show (keepT snaps l a n++(if stayV snaps l (a+n)=true then l[a+n]?.toList else [])).length<=n+1;grind
theorem ztq (snaps:List Int) (l:List Ac) (a n:Nat): ∀m,keepT snaps l a (n+m)=keepT snaps l a n++keepT snaps l (a+n) m:=by
 intro m;induction m with
 | zero=>simp[keepT]
 | succ m ih=>show keepT snaps l a (n+m)++(if stayV snaps l (a+(n+m))=true then l[a+(n+m)]?.toList else [])=keepT snaps l a n++(keepT snaps l (a+n) m++(if stayV snaps l (a+n+m)=true then l[a+n+m]?.toList else []));grind
theorem zlP (snaps:List Int) (l:List Ac) (a:Nat): ∀n,∀x∈keepT snaps l a n,∃i,i<n/\∃h:a+i<l.length,x=l[a+i]:=by
 intro n;induction n with
 | zero=>intro x b;simp[keepT]at b
 | succ n ih=>intro x b;have c:x∈keepT snaps l a n++(if stayV snaps l (a+n)=true then l[a+n]?.toList else []):=b;grind
def sameK (e:Ac):List Ac->Bool
 | y::_=>decide (e.q=y.q)
 | []=>false
def tid:List Ac->Bool × List Ac
 | []=>(false,[])
 | e::t=>bif (((tid t).1&&sameK e t)|| !e.T) then (true,e::(tid t).2) else (false,(tid t).2)
def zdF (e:Ac) (t:List Ac):tid (e::t)=bif (((tid t).1&&sameK e t)|| !e.T) then (true,e::(tid t).2) else (false,(tid t).2):=rfl
theorem zs4: ∀l:List Ac,(tid l).2.length<=l.length:=by
 intro l;induction l with
 | nil=>simp[tid]
 | cons e t ih=>rw[zdF];grind
theorem zyb: ∀(A B:List Ac),(∀x∈A,∀y∈B,x.q≠y.q)->(tid (A++B)).2=(tid A).2++(tid B).2/\(A≠[]->(tid (A++B)).1=(tid A).1):=by
 intro A;induction A with
 | nil=>intro B _;exact ⟨by rfl,λh=>absurd rfl h⟩
 | cons e t ih=>
   intro B a;obtain ⟨b,c⟩:=ih B λx d y f=>a x (.tail _ d) y f;have g:((tid (t++B)).1&&sameK e (t++B))=((tid t).1&&sameK e t):=by
    cases t with
    | nil=>
      cases B with
      | nil=>rfl
      | cons y B=>have:sameK e ([]++y::B)=false:=dF (a e (.head _) y (.head _));rw[this,Rk,show sameK e []=false from rfl,Rk]
    | cons z t=>rw[c (by simp)];rfl
   show (tid (e::(t++B))).2=(tid (e::t)).2++(tid B).2/\(_->(tid (e::(t++B))).1=(tid (e::t)).1);rw[zdF,zdF,g,b];grind
def zBk (e:Ac) (b:e.T=true): ∀A:List Ac,(∀x∈A,x.q=e.q)->tid (A++ [e])=tid A:=by
 intro A;induction A with
 | nil=>intro _;simp[tid,sameK,b]
 | cons x t ih=>
   intro c;have a:=ih λy d=>c y (.tail _ d);show tid (x::(t++ [e]))=tid (x::t);have f:((tid (t++ [e])).1&&sameK x (t++ [e]))=((tid t).1&&sameK x t):=by
    rw[a];cases t with
    | nil=>rfl
    | cons z t=>rfl
   rw[zdF,f,a];rfl
def zAF (e:Ac) (b:e.T=false): ∀A:List Ac,(∀x∈A,x.q=e.q)->tid (A++ [e])=(true,A++ [e]):=by
 intro A;induction A with
 | nil=>intro _;simp[tid,sameK,b]
 | cons x t ih=>
   intro a;have c:=ih λy d=>a y (.tail _ d);show tid (x::(t++ [e]))=_;have f:sameK x (t++ [e])=true:=by
    cases t with
    | nil=>exact dT (a x (.head _))
    | cons z t=>exact dT ((a x (.head _)).trans (a z (.tail _ (.head _))).symm)
   rw[zdF,f,c];rfl
def finE (h:Bool) (A:List Ac):List Ac:=bif h then (tid A).2 else A
def zuZ (b:Bool) (A:List Ac):(finE b A).length<=A.length:=by
 cases b
 ·exact Mf _
 ·exact zs4 A
def zwc (b:Bool) (A B:List Ac) (h: ∀x∈A,∀y∈B,x.q≠y.q):finE b (A++B)=finE b A++finE b B:=by
 cases b
 ·rfl
 ·exact (zyb A B h).1
theorem zzD (D:Bool): ∀(n:Nat) (A:List Ac),A.length=n->n<=1048576->(∀x∈A,∀y∈A,x.q=y.q)->
 loopO (ρ:=Ctl (List Ac) (List Ac)) (λ(E:List Ac)=>Bd0 (if D=true then if Dc ((E.length:Int)>0)then Bd0 (idx E (J8 ((E.length:Int) - 1))) λG=>some G.T else some false else some false) (λ(M:Bool)=>if M=true then Bd0 (piece E 0 (J8 ((E.length:Int) - 1))) λI=>Bd0 (app 48 ([]:List Ac) I) λJ=>some (.go J)else some (.done (.go E)))) A=some (.go (finE D A)):=by
 intro n;induction n with
 | zero=>intro A O _ _;obtain rfl:A= []:=Mr O;rw[zE];cases D<;>rfl
 | succ n ih=>
   intro A O j b;obtain ⟨B,e,rfl⟩: ∃B e,A=B++ [e]:=⟨A.dropLast,A.getLast (by grind),(Pn _).symm⟩;have U:B.length=n:=by simp_all
   rw[zE];have f:J8 ((((B++ [e]).length:Nat):Int) - 1)=(B.length:Int):=by rw[za];simp
   have c: ∀x∈B,x.q=e.q:=λx a=>b x (Nz.2 (.inl a)) e (by simp);cases D with
   | false=>rfl
   | true=>
     rw[f,zb (B++ [e]) B.length (by simp)];have g:Dc ((((B++ [e]).length:Nat):Int)>0)=true:=dT (by simp);simp only[iT,g,Lm,List.getElem_concat_length];cases d:e.T with
     | false=>show some (Ctl.go (B++ [e]))=some (Ctl.go (tid (B++ [e])).2);rw[zAF e d B c]
     | true=>
       simp only[iT];rw[zT _ 0 B.length 0 _ rfl rfl (by omega) (by simp)];have h:((B++ [e]).drop 0).take (B.length - 0)=B:=by simp
       rw[h];simp only[Lm];rw[ze (by grind) (by grind)];simp only[Lm,Mx];have F:=ih B U (by omega) λx a y i=>b x (Nz.2 (.inl a)) y (Nz.2 (.inl i));simp only[iT]at F;rw[F];show some (Ctl.go (tid B).2)=some (Ctl.go (tid (B++ [e])).2);rw[zBk e d B c]
theorem zxX (l:List Ac) (h:l.length<=1048576):zdk l=some l.reverse:=by
 unfold zdk;rw[zcS (λm s=>s.1=(m:Int)/\s.2.1=(l.length:Int) - 1 - m/\∃hl:s.2.2.length=l.length,∀k (d:k<l.length),s.2.2[k]'(by omega)=if k<m\/l.length<=k+m then l[l.length - 1 - k]'(by omega) else l[k]) (l.length / 2) (Ctl.go l.reverse) ?h0 ?h1 ?h2]
 ·rfl
 case h0=>
  refine ⟨rfl,?_,rfl,λk d=>?_⟩
  ·show J8 ((l.length:Int) - 1)=(l.length:Int) - 1 - ((0:Nat):Int);rw[za];omega
  ·rw[iN (by omega)]
 ·rintro m ⟨i,j,s⟩ f ⟨h1,h2,hl,a⟩;simp only at h1 h2 hl a;subst h1;have e:j=((l.length - 1 - m:Nat):Int):=by omega
  subst e;left;have b:m<s.length:=by omega
  have c:l.length - 1 - m<s.length:=by omega
  refine ⟨((m:Int)+1,((l.length - 1 - m:Nat):Int) - 1,(s.set m (s[l.length - 1 - m]'c)).set (l.length - 1 - m) (s[m]'b)),?_,by simp,?_,by simp_all,?_⟩
  ·simp only[zb s _ c,zb s _ b,Lm,Mg];rw[iP (by grind),zb _ _ (by grind)];simp only[Lm,zd];rw[za,za]
  ·grind
  ·grind
 ·rintro ⟨i,j,s⟩ ⟨h1,h2,hl,a⟩;rw[iN (by grind)];congr 3;refine Qy (by simp_all) λk g n=>?_;grind
theorem zpG (l:List Ac) (snaps:List Int) (A:Bool) (h:l.length<=1048576) (hs:snaps.length<=1048576):zck l snaps A=some (finE A (keepT snaps l 0 l.length)):=by
 unfold zck;rw[zo (λk=>((k:Int),keepT snaps l 0 k)) l.length (r:=Ctl.go (keepT snaps l 0 l.length)) ?h0]
 case h0=>rfl
 ·simp only[zd];cases A with
  | false=>rfl
  | true=>
    have B:(keepT snaps l 0 l.length).length<=1048576:=Nt (zhV snaps l 0 _) h;generalize keepT snaps l 0 l.length=K at B;rw[zo (λm=>((tid (K.drop (K.length - m))).1,(K.length:Int) - 1 - m,(tid (K.drop (K.length - m))).2.reverse)) K.length (r:=Ctl.go (tid K).2.reverse) ?g0]
    case g0=>
     rw[Nat.sub_zero,Ot,za]
     simp[tid]
    ·simp only[zd];rw[zxX _ (by rw[List.length_reverse];exact Nt (zs4 K) B),List.reverse_reverse];rfl
    ·intro m j;have hi:(K.length:Int) - 1 - m=((K.length - 1 - m:Nat):Int):=by omega
     have d:(K.length:Int) - 1 - ((m+1:Nat):Int)=((K.length - 1 - m:Nat):Int) - 1:=by omega
     have a:K.length - 1 - m<K.length:=by omega
     have e:K.drop (K.length - (m+1))=K[K.length - 1 - m]::K.drop (K.length - m):=by rw[show K.length - (m+1)=K.length - 1 - m by omega,Ls a,show K.length - 1 - m+1=K.length - m by omega]
     have b:=zs4 (K.drop (K.length - m));rw[e,zdF,hi,d];have f:(if Dc (((K.length - 1 - m:Nat):Int)=J8 ((K.length:Int) - 1))=true then (some true)
 else ((idx K ((K.length - 1 - m:Nat):Int)).bind λD=>
 (idx K (J8 (((K.length - 1 - m:Nat):Int)+1))).bind λE=>
 some (!(Dc (D.q=E.q)))))=some (!sameK K[K.length - 1 - m] (K.drop (K.length - m))):=by
      by_cases h0:m=0
      ·subst h0
       rw[iP (by rw[za];simp_all),show K.drop (K.length - 0)= [] by simp]
       rfl
      ·rw[iN (by rw[za];grind),zb K _ a,za]
       rw[show ((K.length - 1 - m:Nat):Int)+1=((K.length - m:Nat):Int) by omega,zb K (K.length - m) (by omega),Ls (by omega:K.length - m<K.length)]
       rfl
     simp only[f]
     rw[iP (by simp),za (n:=((K.length - 1 - m:Nat):Int) - 1)]
     simp only[zb K _ a,Lm]
     generalize sameK K[K.length - 1 - m] (K.drop (K.length - m))=q
     generalize tid (K.drop (K.length - m))=tt at b |-
     obtain ⟨F,o⟩:=tt
     have g:app 48 o.reverse [K[K.length - 1 - m]]=some (o.reverse++ [K[K.length - 1 - m]]):=ze (by grind) (by grind)
     cases q<;>cases F<;>cases i:K[K.length - 1 - m].T<;>simp[g,i]
    ·simp
     omega
 ·intro k c;have b:=zhV snaps l 0 k;simp only[zb l k c,Lm,zyN l snaps k c h hs,znp snaps l 0 k (by omega),Qu];rw[iP,za (n:=(k:Int)+1)];cases stayV snaps l k with
  | true=>rw[ze (by grind) (by grind)];rfl
  | false=>simp
 ·simp
def zwK (a:entsV l=true) (k:Nat) (b:k<l.length):entP l k=true:=by unfold entsV at a;simp_all
theorem zyA (c:entsV l=true) (a n:Nat):entsV ((l.drop a).take n)=true:=by
 unfold entsV;rw[Mp];intro k f;have d:k<((l.drop a).take n).length:=by simp_all
 have b:a+k<l.length:=by grind
 have e:=zwK c (a+k) b;rw[zhP l (a+k) b,Ma]at e;rw[zhP _ k d];grind
def cutV (l:List Ac) (a:Nat):Prop:=∀i (hi:i<l.length) j (b:j<l.length),i<a->a<=j->l[i].q≠l[j].q
theorem zyQ (l:List Ac) (snaps:List Int) (U:Bool) (a n:Nat) (t:entsV l=true) (h:l.length<=1048576) (hs:snaps.length<=1048576) (u:a+n<=l.length) (C:cutV l a) (v: ∀i (hi:i<l.length) j (D:j<l.length),a<=i->i<a+n->a<=j->j<a+n->l[i].q=l[j].q):zjv ((l.drop a).take n) snaps U=some (finE U (keepT snaps l a n)):=by
 have E:((l.drop a).take n).length=n:=by grind
 have w:=zyA t a n;have F: ∀i,i<n->((l.drop a).take n)[i]? =l[a+i]?:=λi hi=>by simp_all
 generalize (l.drop a).take n=g at E w F;have z: ∀i (hi:i<n),g[i]'(by omega)=l[a+i]'(by omega):=λi hi=>by grind
 unfold zjv;rw[zo (λk=>((k:Int),keepT snaps l a k)) g.length (r:=Ctl.go (keepT snaps l a n)) ?h0]
 case h0=>rfl
 ·simp only[zd];rw[zzD U (keepT snaps l a n).length _ rfl (Nt (zhV snaps l a n) (by omega)) ?_]
  ·rfl
  ·intro x G y H;obtain ⟨i,hi,o,rfl⟩:=zlP snaps l a n x G;obtain ⟨j,D,N,rfl⟩:=zlP snaps l a n y H;grind
 ·intro k f;have A:k<n:=by omega
  have O:=zhV snaps l a k;have I:loopO (ρ:=Ctl Bool (Ctl (Int × List Ac) (Ctl (List Ac) (List Ac)))) (λ(Z:Bool × Int)=>if Dc (Z.2<(snaps.length:Int))then Bd0 (idx g (k:Int)) λV=>Bd0 (idx snaps Z.2) λE14=>Bd0 (zek g V.q E14) λW=>Bd0 (if Z.1=true then some true else if W.2=true then some (Dc (W.1.c=V.c))else some false) (λ(T25:Bool)=>some (.go (T25,J8 (Z.2+1))))else some (.done (.go Z.1))) (Dc ((k:Int)=0),(0:Int))=some (.go (stayV snaps l (a+k))):=by
   rw[zo (λm=>(Dc (k=0)||(snaps.take m).any (λs=>visE g s k),(m:Int))) snaps.length (r:=Ctl.go (Dc (k=0)||snaps.any (λs=>visE g s k))) ?i0]
   case i0=>
    simp
   ·congr 2;cases k with
    | zero=>
      cases a with
      | zero=>rfl
      | succ b=>have:=C b (by omega) (b+1) (by omega) (by omega) (Mf _);rw[zkH snaps l b (by omega),dF this];rfl
    | succ j=>
      rw[show a+(j+1)=(a+j)+1 by omega,zkH snaps l (a+j) (by omega)];have J:(l[a+j]'(by omega)).q=(l[a+j+1]'(by omega)).q:=v _ _ _ _ (by omega) (by omega) (by omega) (by omega);rw[dT J];simp only[Nat.add_one_ne_zero,decide_false,Rl,Ly];congr 1;funext s;rw[zg3 g s (j+1) f];have K:=z (j+1) A;rw[K,show l[a+(j+1)]'(by omega)=l[a+j+1]'(by omega) from rfl];congr 1;rw[Bool.eq_iff_iff,Mp,decide_eq_true_eq];constructor
      ·intro P;have p:g[j]'(by omega)∈g.take (j+1):=by
        have:(g.take (j+1))[j]'(by grind)=g[j]'(by omega):=by simp
        grind
       grind
      ·intro Q d L;obtain ⟨i,hi,rfl⟩:=Lt L;have R:i<j+1:=by grind
       simp only[Oi];have S:(l[a+j]'(by omega)).c<=(l[a+i]'(by omega)).c:=by
        by_cases e:i=j
        ·simp_all
        ·rcases zhQ t (a+j) (by omega) (a+i) (by omega) with o | ⟨_,o⟩
         ·rw[v (a+i) (by omega) (a+j) (by omega) (by omega) (by omega) (by omega) (by omega),zI]at o;trivial
         ·omega
       grind
   ·intro m p;simp only[zb g k f,zb snaps m p,Lm,zjY g _ _ (by omega)];rw[iP,za (n:=(m:Int)+1),Og,Mm p,Rc,<-Bool.or_assoc];simp only[Option.toList_some,Pw,Rp,Rm];generalize (Dc (k=0)||(snaps.take m).any (λs=>visE g s k))=st;cases B:visE g snaps[m] k with
    | true=>rw[zt7 f B];cases st<;>simp
    | false=>
      have u:=zv5 w f B;cases M:g.find? (λd=>decide (d.q=g[k].q)&&Dc (d.c<=snaps[m])) with
      | none=>cases st<;>simp
      | some d=>have:=u d M;cases st<;>simp[this]
   ·simp
  rw[iP];simp only[I,zd,znp snaps l a k (by omega)];rw[za (n:=(k:Int)+1)];cases stayV snaps l (a+k) with
  | true=>simp only[iT,zb g k f,Lm,z k A];rw[ze (by grind) (by grind)];rfl
  | false=>simp
 ·simp_all
def zxC (l:List Ac) (a:Nat) (d:a<l.length) (h:l.length<=1048576): ∃e:Nat,ziN l (a:Int)=some (e:Int)/\a<e/\e<=l.length/\(∀i (hi:i<l.length),a<=i->i<e->l[i].q=l[a].q)/\(∀hi:e<l.length,l[e].q≠l[a].q):=by
 unfold ziN;have key: ∃c,loopO (ρ:=Ctl Int Int) (λ(S1:Int)=>Bd0 (if Dc (S1<(l.length:Int))then Bd0 (idx l S1) λD=>Bd0 (idx l (a:Int)) λB=>some (Dc (D.q=B.q))else some false) (λ(E:Bool)=>if E=true then some (.go (J8 (S1+1)))else some (.done (.go S1)))) (a:Int)=some c/\∃e:Nat,c= .go (e:Int)/\a<e/\e<=l.length/\(∀i (hi:i<l.length),a<=i->i<e->l[i].q=l[a].q)/\(∀hi:e<l.length,l[e].q≠l[a].q):=by
  refine z7 (λk s=>s=((a+k:Nat):Int)/\∀i (hi:i<l.length),a<=i->i<a+k->l[i].q=l[a].q) (l.length - a) _ ⟨rfl,λi hi b f=>by omega⟩ ?_ ?_
  ·rintro k s n ⟨rfl,A⟩;have g:a+k<l.length:=by omega
   simp only[zb l (a+k) g,zb l a d,Lm];rw[iP (by simp;omega),za];by_cases c:l[a+k].q=l[a].q
   ·left;refine ⟨((a+k:Nat):Int)+1,by simp[c],by omega,λi hi b f=>?_⟩;by_cases e:i=a+k
    ·subst e;exact c
    ·exact A i hi b (by omega)
   ·right;refine ⟨.go ((a+k:Nat):Int),by simp[c],a+k,rfl,?_,by omega,A,λ_=>c⟩;have:k≠0:=by rintro rfl;exact c rfl
    omega
  ·rintro s ⟨rfl,A⟩;have j:a+(l.length - a)=l.length:=by omega
   rw[j]at A |-
   exact ⟨.go (l.length:Int),by simp,l.length,rfl,d,Mf _,A,λhi=>absurd hi (by omega)⟩
 obtain ⟨c,m,e,rfl,b⟩:=key;exact ⟨e,by rw[m];rfl,b⟩
def zyt (c:entsV l=true) {e:Nat} (f:cutV l a) (g:a<e) (s:a<l.length) (k: ∀i (hi:i<l.length),a<=i->i<e->l[i].q=l[a].q) (t: ∀hi:e<l.length,l[e].q≠l[a].q):cutV l e:=by
 intro i hi j d m u b;by_cases n:i<a
 ·exact f i hi j d n (by omega) b
 ·rw[k i hi (by omega) m]at b;have o:e<l.length:=by omega
  have p:sLt l[a].q l[e].q=true:=by
   rcases zhQ c e o a g with h | ⟨h,_⟩
   ·exact h
   ·simp_all
  by_cases v:j=e
  ·simp_all
  ·rcases zhQ c j d e (by omega) with h | ⟨h,_⟩
   ·have:=zb3 p h;rw[<-b,zI]at this;trivial
   ·simp_all
def compactR (l:List Ac) (snaps:List Int) (h:Bool):List Ac:=if l.length<=400/\entsV l=true then finE h (keepT snaps l 0 l.length) else []
theorem zoj (l:List Ac) (snaps:List Int) (F:Bool) (h:l.length<=1048576) (hs:snaps.length<=1048576):zfo l snaps F=some (compactR l snaps F):=by
 unfold zfo compactR;rw[zg0 l h];by_cases hl:l.length<=400
 ·rw[iN (by grind)];cases f:entsV l with
  | false=>simp
  | true=>
    simp only[Lm,Ly,Lo,iF];rw[iP ⟨hl,trivial⟩];rw[zcS (λk s=>∃a:Nat,s=((a:Int),finE F (keepT snaps l 0 a))/\a<=l.length/\k<=a/\cutV l a) l.length (Ctl.go (finE F (keepT snaps l 0 l.length))) ?h0 ?h1 ?h2]
    ·rfl
    case h0=>
     refine ⟨0,?_,Oz _,Mf _,λi hi j b h1 h2=>by omega⟩
     cases F<;>rfl
    ·rintro k s z ⟨a,rfl,A,B,c⟩;by_cases g:a<l.length
     ·left;obtain ⟨e,n,h1,h2,d,o⟩:=zxC l a g h;have p:keepT snaps l 0 e=keepT snaps l 0 a++keepT snaps l a (e - a):=by have:=ztq snaps l 0 a (e - a);grind
      have q:finE F (keepT snaps l 0 e)=finE F (keepT snaps l 0 a)++finE F (keepT snaps l a (e - a)):=by rw[p];refine zwc F _ _ λx t y u=>?_;obtain ⟨i,hi,m,rfl⟩:=zlP snaps l 0 a x t;obtain ⟨j,b,v,rfl⟩:=zlP snaps l a (e - a) y u;exact c _ _ _ _ (by omega) (by omega)
      refine ⟨((e:Int),finE F (keepT snaps l 0 e)),?_,e,rfl,h2,by omega,zyt f c h1 g d o⟩;have C:=Nt (zuZ F (keepT snaps l 0 a)) (zhV snaps l 0 a);have D:=Nt (zuZ F (keepT snaps l a (e - a))) (zhV snaps l a (e - a));simp only[n,Lm];rw[iP,zT l a e _ _ rfl rfl (by omega) h2];simp only[Lm];rw[zyQ l snaps F a (e - a) f h hs (by omega) c (λi hi j b m v w E=>(d i hi m (by omega)).trans (d j b w (by omega)).symm)];simp only[Lm];rw[ze (by omega) (by omega),q];rfl
     ·grind
    ·grind
 ·grind
def flushS (e:Aa):Bool × Aa:=bif Dc (e.G.length=0\/6<=e.D.length) then (false,e) else (true,⟨[],e.G::e.D,e.c,e.u⟩)
def zde (h:e.G.length=0\/6<=e.D.length):flushS e=(false,e):=by unfold flushS;rw[dT h];rfl
def zfg (h: ¬(e.G.length=0\/6<=e.D.length)):flushS e=(true,⟨[],e.G::e.D,e.c,e.u⟩):=by unfold flushS;rw[dF h];rfl
def flushR (e:Aa):Aa × Bool:=bif engV e then ((flushS e).2,(flushS e).1) else (⟨[],[],0,[]⟩,false)
theorem znV (e:Aa) (f:e.D.length<=1048576):zgx e=some (flushS e):=by
 unfold zgx zbE ins;by_cases c:e.G.length=0
 ·have b:(e.G.length:Int)=0:=by omega
  rw[zde (Or.inl c),iP (dT b)];rfl
 ·have b: ¬(e.G.length:Int)=0:=by omega
  rw[iN];by_cases d:6<=e.D.length
  ·have a:(e.D.length:Int)>=6:=by omega
   rw[zde (Or.inr d),dT a];rfl
  ·have a: ¬(e.D.length:Int)>=6:=by omega
   rw[zfg (by omega),dF a];grind
theorem zqA (e:Aa) (b:e.G.length<=1048576) (c:e.D.length<=1048576) (d:totalV e.D<=1048576) (f:e.u.length<=1048576):zhp e=some (flushR e):=by
 have h: ∀t∈e.D,t.length<=1048576:=λt i=>Nt (zjj Nv i) d;unfold zhp flushR;rw[zcb e b c d f];cases l:engV e with
 | false=>rfl
 | true=>
   simp only[Lm,Ly,Lo,iF,iT,zcy e b c h f,cT];by_cases j:e.G.length=0
   ·have g:(e.G.length:Int)=0:=by omega
    rw[iP (dT g),zde (Or.inl j)];rfl
   ·have g: ¬(e.G.length:Int)=0:=by omega
    rw[iN];by_cases k:6<=e.D.length
    ·have a:(e.D.length:Int)>=6:=by omega
     rw[zde (Or.inr k),dT a];rfl
    ·have a: ¬(e.D.length:Int)>=6:=by omega
     rw[zfg (by omega),dF a];rw[ze (by grind) (by grind)];rfl
theorem zwO {a:Int} (c:0<=a) (d:a<=4611686018427387904):J8 (ishr .u64 (IntKind.u64.wrap (J8 a)) 1)=a / 2:=by
 have b:IntKind.u64.wrap a=a:=by simp[IntKind.wrap,IntKind.bits,IntKind.signed];omega
 have hs:ishr .u64 a 1=a / 2:=by show a.fdiv (2 ^ 1)=a / 2;grind
 rw[za (n:=a),b,hs,za]
theorem bisect (x:List α) (F:α->Option Int) (c:α->Int) (n: ∀e∈x,F e=some (c e)) (v:x.length<=1048576):
 ∃j,j<=x.length/\loopO (ρ:=Ctl Int ρ) (λ(A:Int × Int)=>if Dc (A.1<A.2)then Bd0 (idx x (J8 (ishr .u64 (IntKind.u64.wrap (J8 (A.1+A.2))) 1))) λD=>Bd0 (F D) λE=>bindC (if Dc (E<0)then some (.go (J8 (J8 (ishr .u64 (IntKind.u64.wrap (J8 (A.1+A.2))) 1)+1),A.2))else some (.go (A.1,J8 (ishr .u64 (IntKind.u64.wrap (J8 (A.1+A.2))) 1)))) (λ(B:Int × Int)=>some (.go (B.1,B.2)))else some (.done (.go A.1))) ((0:Int),(x.length:Int))=some (.go (j:Int))/\(∀i (hi:i<x.length),i+1=j->c x[i]<0)/\(∀l:j<x.length,0<=c x[j]):=by
 obtain ⟨r,o,j,rfl,d,f,p⟩:=z7 (ρ:=Ctl Int ρ) (s0:=((0:Int),(x.length:Int))) (body:=λ(A:Int × Int)=>if Dc (A.1<A.2)then Bd0 (idx x (J8 (ishr .u64 (IntKind.u64.wrap (J8 (A.1+A.2))) 1))) λD=>Bd0 (F D) λE=>bindC (if Dc (E<0)then some (.go (J8 (J8 (ishr .u64 (IntKind.u64.wrap (J8 (A.1+A.2))) 1)+1),A.2))else some (.go (A.1,J8 (ishr .u64 (IntKind.u64.wrap (J8 (A.1+A.2))) 1)))) (λ(B:Int × Int)=>some (.go (B.1,B.2)))else some (.done (.go A.1)))
  (λk s=>∃a b:Nat,s=((a:Int),(b:Int))/\a<=b/\b<=x.length/\b - a+k<=x.length/\(∀i (hi:i<x.length),i+1=a->c x[i]<0)/\(∀l:b<x.length,0<=c x[b])) x.length
  (λr=>∃j:Nat,r= .go (j:Int)/\j<=x.length/\(∀i (hi:i<x.length),i+1=j->c x[i]<0)/\(∀l:j<x.length,0<=c x[j]))
  ⟨0,x.length,rfl,Oz _,Mf _,by omega,λi hi h=>by omega,λh=>by omega⟩ (by
    rintro k s w ⟨a,b,rfl,y,q,z,d,f⟩;by_cases t:a<b
    ·left;have u:((a:Int)+(b:Int)) / 2=(((a+b) / 2:Nat):Int):=by omega
     have m:(a+b) / 2<x.length:=by omega
     simp only[zwO (a:=(a:Int)+(b:Int)) (by omega) (by omega),u,zb x _ m,Lm,n _ (Nf m)];rw[iP (by simpa using t)];by_cases g:c x[(a+b) / 2]<0
     ·rw[iP (by simpa using g),za];refine ⟨_,rfl,(a+b) / 2+1,b,rfl,by omega,q,by omega,λi hi h=>?_,f⟩;obtain rfl:i=(a+b) / 2:=by omega
      exact g
     ·rw[iN (by simpa using g)];exact ⟨_,rfl,a,(a+b) / 2,rfl,by omega,by omega,by omega,d,λ_=>by omega⟩
    ·grind) (by
    grind)
 exact ⟨j,d,o,f,p⟩
theorem zjk {a b c:Ac} (d:entLt a b=true) (e:entLt b c=true):entLt a c=true:=by
 unfold entLt at d e |-
 simp only[Pe,Ma,decide_eq_true_eq]at d e |-
 rcases d with d | ⟨d,f⟩
 ·rcases e with e | ⟨e,_⟩
  ·exact .inl (zb3 d e)
  ·simp_all
 ·grind
theorem zpQ {a b:Ac} (h: ¬(a.q=b.q/\a.c=b.c)) (d:entLt a b=false):entLt b a=true:=by
 unfold entLt at d |-
 have e:=zjF a.q b.q;grind
theorem zff (a b:Ac): ∃r,zx a b=some r/\Dc (r<0)=entLt a b/\(r=0↔(a.q=b.q/\a.c=b.c)):=by
 unfold zx entLt;rw[zAQ,zAP];simp only[Lm,zzQ];by_cases c:sLt a.q b.q=true
 ·have d: ¬a.q=b.q:=λe=>by rw[e,zI]at c;cases c
  simp_all
 ·grind
def insE (l:List Ac) (e:Ac) (j:Nat):List Ac:=l.take j++(e::l.drop j)
theorem znk {e x:Ac} {j:Nat} :x∈insE l e j↔x=e\/x∈l:=by
 unfold insE;conv=>rhs;rw[<-Mj j l,Nz]
 grind
def zvc (l:List Ac) (e:Ac) (j:Nat) (h:j<=l.length):(insE l e j).length=l.length+1:=by unfold insE;simp;omega
def ordE (l:List Ac):Prop:=l.Pairwise λa b=>entLt a b=true
theorem zAi {e:Ac} {j:Nat} (hl:ordE l) (c: ∀i (hi:i<l.length),i<j->entLt l[i] e=true) (d: ∀i (hi:i<l.length),j<=i->entLt e l[i]=true):ordE (insE l e j):=by
 unfold ordE insE at*;have b:=hl;rw[<-Mj j l,Nd]at b;have f: ∀x∈l.take j,entLt x e=true:=by intro x a;obtain ⟨i,hi,rfl⟩:=Lt a;grind
 have g: ∀x∈l.drop j,entLt e x=true:=by intro x a;obtain ⟨i,hi,rfl⟩:=Lt a;simp_all
 rw[Nd,Lw];simp_all
theorem zbj (l:List Ac):entsV l=true↔(∀x∈l,entV x=true)/\ordE l:=by
 constructor
 ·intro h;refine ⟨λx d=>?_,?_⟩
  ·obtain ⟨k,a,rfl⟩:=Lt d;unfold entsV at h;rw[Mp]at h;have:=h k (by simp_all);rw[zhP l k a,Ma]at this;simp_all
  ·unfold ordE;rw[Ms];intro i j hi e f;unfold entLt;simp only[Pe,Ma,decide_eq_true_eq];exact zhQ h j e i f
 ·rintro ⟨g,b⟩;unfold ordE at b;rw[Ms]at b;unfold entsV;rw[Mp];intro k a;have c:k<l.length:=by simp_all
  rw[zhP l k c,g _ (Nf c)];grind
def putF (l:List Ac) (f:Ac) (j k:Nat):Bool × Int × List Ac:=bif Qj k j then (false,(k:Int),l.take k) else (true,(k:Int),l.take j++(f::(l.drop j).take (k - j)))
def zmC (l:List Ac) (f:Ac) (j k:Nat) (h:k<=j):putF l f j k=(false,(k:Int),l.take k):=by unfold putF;rw[Qd h];rfl
def zpn (l:List Ac) (f:Ac) (j k:Nat) (h:j<k):putF l f j k=(true,(k:Int),l.take j++(f::(l.drop j).take (k - j))):=by
 unfold putF;have:Qj k j=false:=by
  cases a:Qj k j
  ·rfl
  ·simp_all;omega
 simp_all
theorem zuF (l:List Ac) (f:Ac) (j:Nat) (hl:l.length<=1048576) (o:j<=l.length) (e: ∀i (hi:i<l.length),i<j->entLt f l[i]=false) (g: ∀hi:j<l.length,entLt f l[j]=true):
 zel l f=some (insE l f j):=by
 unfold zel;rw[zo (putF l f j) l.length (r:=Ctl.go ((putF l f j l.length).1,(putF l f j l.length).2.2)) ?h0]
 case h0=>rw[zmC _ _ _ _ (Oz _)];rfl
 ·by_cases h:j=l.length
  ·subst h;rw[zmC _ _ _ _ (Mf _)];simp only[zd,Mt,iT];rw[ze (by grind) (by grind)];simp[insE]
  ·rw[zpn _ _ _ _ (by omega)];simp only[zd,Ly,Lo,iF];unfold insE;rw[Lv (l:=l.drop j) (by simp)]
 ·intro k a;have c:=za (n:=(k:Int)+1);rcases Ok k j with b | b | b
  ·have d:l.take (k+1)=l.take k++ [l[k]]:=by simp
   rw[zmC _ _ _ _ (by omega),zmC _ _ _ _ (by omega)];simp only[zb l k a,Lm,Mt,iT,c,zej,e k a b,Lo,iF,zd];rw[iP,ze (by grind) (by simp;omega),d];rfl
  ·subst b;rw[zmC _ _ _ _ (Mf _),zpn _ _ _ _ (by omega)];simp only[zb l k a,Lm,Mt,iT,c,zej,g a];rw[iP,ze (by grind) (by simp;omega)];simp only[Lm,zd];rw[ze (by grind) (by grind)];have:(l.drop k).take (k+1 - k)= [l[k]]:=by rw[Ls a,show k+1 - k=1 by omega];rfl
   simp_all
  ·rw[zpn _ _ _ _ (by omega),zpn _ _ _ _ (by omega)];simp only[zb l k a,Lm,Ly,Lo,iF,c,zd];rw[iP,ze (by grind) (by simp;omega)];have m:k - j<(l.drop j).length:=by grind
   have d:(l.drop j).take (k+1 - j)=(l.drop j).take (k - j)++ [l[k]]:=by rw[show k+1 - j=(k - j)+1 by omega,Og,Mm m,Pa];grind
   simp_all
 ·have hi:(putF l f j l.length).2.1=(l.length:Int):=by unfold putF;grind
  simp_all
theorem zxz (l:List Ac) (x:Ac) (j:Nat) (a:j<=l.length) (h:l.length<=1048576):zdP l (j:Int) [x]=some (insE l x j):=by unfold zdP ins insE;grind
theorem znD (l:List Ac) (e:Ac) (hl:ordE l) (h:l.length<=1048576) (s: ∀x∈l,¬(x.q=e.q/\x.c=e.c)):
 ∃j,j<=l.length/\zi5 l e=some (insE l e j,true)/\zel l e=some (insE l e j)/\ordE (insE l e j):=by
 have t: ∀x∈l,zx x e=some ((zx x e).getD 0):=by intro x _;obtain ⟨r,u,_⟩:=zff x e;simp_all
 have v: ∀x:Ac,(((zx x e).getD 0<0)↔entLt x e=true)/\((zx x e).getD 0=0↔(x.q=e.q/\x.c=e.c)):=by intro x;obtain ⟨r,u,k,w⟩:=zff x e;grind
 obtain ⟨j,f,m,k,w⟩:=bisect (ρ:=Int × Bool) l (λx=>zx x e) (λx=>(zx x e).getD 0) t h;have n: ∀a b (E:a<l.length) (m:b<l.length),a<b->entLt l[a] l[b]=true:=by unfold ordE at hl;rw[Ms]at hl;trivial
 have o: ∀i (hi:i<l.length),i<j->entLt l[i] e=true:=by
  intro i hi g;have y:=((v _).1.1 (k (j - 1) (by omega) (by omega)));by_cases z:i=j - 1
  ·grind
  ·exact zjk (n i (j - 1) hi (by omega) (by omega)) y
 have p: ∀i (hi:i<l.length),j<=i->entLt e l[i]=true:=by
  intro i hi g;have d:j<l.length:=by omega
  have A:entLt e l[j]=true:=by refine zpQ (s _ (Nf d)) ?_;grind
  by_cases z:j=i
  ·grind
  ·exact zjk A (n j i d hi (by omega))
 have asym: ∀a b:Ac,entLt a b=true->entLt b a=false:=by
  intro a b B;cases C:entLt b a with
  | false=>rfl
  | true=>have:=zjk B C;unfold entLt at this;rw[zI]at this;grind
 refine ⟨j,f,?_,zuF l e j h f (λi hi g=>asym _ _ (o i hi g)) (λhi=>p j hi (Mf _)),zAi hl o p⟩;unfold zi5 zbf;rw[m];simp only[zd];have D:(if Dc ((j:Int)<(l.length:Int)) then ((idx l (j:Int)).bind λF=>(zx F e).bind λG=>some (Dc (G=0))) else (some false))=some false:=by
  by_cases d:j<l.length
  ·rw[iP (by grind),zb l j d];grind
  ·grind
 rw[D];simp only[Lm,Lo,iF,zxz l e j f h]
def opV (o:Op):Bool:=Dc (1<=(o.q.length:Int)/\(o.q.length:Int)<=10)&&(Dc ((o.Q.length:Int)<=16)&&(!o.T||decide (o.Q= [])))
theorem zo9 (o:Op):zgs o=some (opV o):=by unfold zgs opV;simp only[zW,Lm];grind
theorem zu9 (o:Op):((zku o.q).bind λh=>if !h then (some true) else ((zkv o.T o.Q).bind λA=>some (!A)))=some (!opV o):=by unfold zku zkv opV;simp only[zY,Lm];grind
def batchV (l:List Op):Bool:=Dc (1<=l.length/\l.length<=6)&&l.all opV
def batchI (l:List Op):Dc (1<=(l.length:Int)/\(l.length:Int)<=6)=Dc (1<=l.length/\l.length<=6):=decide_eq_decide.2 (by omega)
theorem zc4 (l:List Op) (h:l.length<=1048576):zdD l=some (batchV l):=by
 unfold zdD batchV;simp only[zW,Lm,batchI];by_cases a:1<=l.length/\l.length<=6
 ·rw[dT a];rw[zcS (λk s=>s=(k:Int)/\l.all opV=(l.drop k).all opV) l.length (if l.all opV=true then Ctl.go () else Ctl.done false) ?h0 ?h1 ?h2]
  ·cases l.all opV<;>rfl
  case h0=>exact ⟨rfl,rfl⟩
  ·rintro k s b ⟨rfl,c⟩;simp only[zb l k b,Lm,zo9];rw[iP,za (n:=(k:Int)+1),c,Ls b,Pu];grind
  ·simp
 ·rw[dF a];rfl
theorem zd0 (l:List Op) (h:l.length<=1048576):zcY l=some (batchV l):=by
 unfold zcY batchV;rw[zcS (λk s=>s=(k:Int)/\l.all opV=(l.drop k).all opV) l.length (if l.all opV=true then Ctl.go () else Ctl.done false) ?h0 ?h1 ?h2]
 ·cases l.all opV with
  | false=>simp
  | true=>simp only[iT,zd,zY,Lm,batchI,Pv]
 case h0=>exact ⟨rfl,rfl⟩
 ·rintro k s a ⟨rfl,b⟩;simp only[zb l k a,Lm,zu9];rw[iP,za (n:=(k:Int)+1),b,Ls a,Pu];grind
 ·simp
def laterV (l:List Op) (k:Nat) (key:J3):Bool:=(l.drop (k+1)).any λx=>decide (x.q=key)
theorem znS (s:List Op) (c:Op) (h:s.length<=1048576):zG s c=some (s.any λx=>decide (x.q=c.q)):=by
 unfold zG;have key: ∃r:Int,z6 s c=some r/\Dc (r>=0)=s.any λx=>decide (x.q=c.q):=by
  unfold z6 zg9;obtain ⟨r,f,b⟩:=z7 (ρ:=Ctl Unit Int) (s0:=(0:Int)) (body:=λ(S1:Int)=>if Dc (S1<(s.length:Int))then Bd0 (idx s S1) λA=>Bd0 (some (Dc (A.q=c.q))) λB=>if B=true then some (.done (.done S1))else some (.go (J8 (S1+1)))else some (.done (.go ())))
   (λk t=>t=(k:Int)/\(s.any λx=>decide (x.q=c.q))=(s.drop k).any λx=>decide (x.q=c.q)) s.length
   (λr=>(∃i:Nat,r= .done (i:Int)/\(s.any λx=>decide (x.q=c.q))=true)\/(r= .go ()/\(s.any λx=>decide (x.q=c.q))=false))
   ⟨rfl,rfl⟩ (by
     rintro k t a ⟨rfl,d⟩;rw[Ls a,Pw]at d;simp only[zb s k a,Lm];rw[iP,za (n:=(k:Int)+1)];cases g:Dc (s[k].q=c.q) with
     | true=>grind
     | false=>simp_all) (by
     simp)
  rcases b with ⟨i,rfl,e⟩ | ⟨rfl,e⟩
  ·simp_all
  ·simp_all
 grind
theorem zyT (l:List Op) (k:Nat) (a:k<l.length) (h:l.length<=1048576):
 loopO (ρ:=Ctl Bool ρ) (λ(A:Bool × Int)=>if Dc (A.2<(l.length:Int))then Bd0 (if A.1=true then Bd0 (idx l A.2) λB=>Bd0 (idx l (k:Int)) λD=>some (!(Dc (B.q=D.q)))else some false) (λ(E:Bool)=>some (.go (E,J8 (A.2+1))))else some (.done (.go A.1)))
 (true,J8 ((k:Int)+1))=some (.go (!laterV l k l[k].q)):=by
 rw[zo (λd=>(!(((l.drop (k+1)).take d).any λx=>decide (x.q=l[k].q)),((k+1+d:Nat):Int))) (l.length - (k+1)) (r:=Ctl.go (!laterV l k l[k].q)) ?h0]
 case h0=>rw[za];simp
 ·intro d f;have b:k+1+d<l.length:=by omega
  have c:d<(l.drop (k+1)).length:=by simp_all
  have e:(l.drop (k+1)).take (d+1)=(l.drop (k+1)).take d++ [l[k+1+d]]:=by rw[Og,Mm c,Pa];rfl
  simp only[zb l _ b,zb l k a,Lm,e,Rc,Pw,Rp,Rm];rw[iP (by grind),za];grind
 ·rw[show k+1+(l.length - (k+1))=l.length by omega,Lv (by simp)];simp[laterV]
def entO (o:Op) (seq:Int):Ac:=⟨o.q,seq,o.T,o.Q⟩
def memB (l:List Op) (seq:Int) (m:List Ac):Nat->List Ac
 | 0=>m
 | k+1=>match l[k]? with
   | some o=>bif laterV l k o.q then memB l seq m k else (zel (memB l seq m k) (entO o seq)).getD []
   | none=>memB l seq m k
def zgH (l:List Op) (seq:Int) (m:List Ac) (k:Nat) (a:k<l.length) (h:laterV l k l[k].q=true):memB l seq m (k+1)=memB l seq m k:=by show (match l[k]? with | some o=>_ | none=>_)=_;simp_all
def znv (l:List Op) (seq:Int) (m:List Ac) (k:Nat) (a:k<l.length) (h:laterV l k l[k].q=false):memB l seq m (k+1)=(zel (memB l seq m k) (entO l[k] seq)).getD []:=by show (match l[k]? with | some o=>_ | none=>_)=_;simp_all
def invB (l:List Op) (seq:Int) (m:List Ac) (k:Nat) (x:Ac):Prop:=x∈m\/∃i,∃hi:i<l.length,i<k/\laterV l i l[i].q=false/\x=entO l[i] seq
theorem znu (l:List Op) (seq:Int) (m M:List Ac) (k:Nat) (j:k<l.length) (hs: ∀x∈m,x.c<seq) (A: ∀x∈M,invB l seq m k x): ∀x∈M,¬(x.q=(entO l[k] seq).q/\x.c=(entO l[k] seq).c):=by
 rintro x b ⟨d,e⟩;rcases A x b with h | ⟨i,hi,n,a,rfl⟩
 ·have:=hs x h;have f:x.c=seq:=e;omega
 ·unfold laterV at a;rw[List.any_eq_false]at a;have g:l[k]∈l.drop (i+1):=by
   have:(l.drop (i+1))[k - (i+1)]'(by grind)=l[k]:=by grind
   grind
  refine a _ g ?_;have f:l[i].q=l[k].q:=d;simp_all
def zea (l:List Op) (seq:Int) (m:List Ac) (n:ordE m) (hs: ∀x∈m,x.c<seq) (hl:m.length+l.length<=1048576): ∀k,k<=l.length->ordE (memB l seq m k)/\(memB l seq m k).length<=m.length+k/\(∀x∈memB l seq m k,invB l seq m k x)/\(∀x∈m,x∈memB l seq m k):=by
 intro k;induction k with
 | zero=>intro _;exact ⟨n,Mf _,λx a=>.inl a,λx a=>a⟩
 | succ k ih=>
   intro u;obtain ⟨f,v,d,g⟩:=ih (by omega);have b:k<l.length:=by omega
   cases e:laterV l k l[k].q with
   | true=>
     rw[zgH l seq m k b e];refine ⟨f,by omega,λx a=>?_,g⟩;rcases d x a with h | ⟨i,hi,o,h⟩
     ·exact .inl h
     ·exact .inr ⟨i,hi,by omega,h⟩
   | false=>
     obtain ⟨j,p,_,s,t⟩:=znD (memB l seq m k) (entO l[k] seq) f (by omega) (znu l seq m _ k b hs d);rw[znv l seq m k b e,s];refine ⟨t,?_,λx a=>?_,λx a=>?_⟩
     ·rw[Option.getD_some,zvc _ _ _ p];omega
     ·rcases znk.1 a with rfl | a
      ·exact .inr ⟨k,b,by omega,e,rfl⟩
      ·rcases d x a with h | ⟨i,hi,o,h⟩
       ·exact .inl h
       ·exact .inr ⟨i,hi,by omega,h⟩
     ·exact znk.2 (.inr (g x a))
def zoT (l:List Op) (seq:Int) (m:List Ac) (b:ordE m) (hs: ∀x∈m,x.c<seq) (hl:m.length+l.length<=1048576) (k:Nat) (a:k<l.length) (d:laterV l k l[k].q=false):
    zi5 (memB l seq m k) (entO l[k] seq)=some (memB l seq m (k+1),true)/\zel (memB l seq m k) (entO l[k] seq)=some (memB l seq m (k+1)):=by obtain ⟨e,i,f,_⟩:=zea l seq m b hs hl k (by omega);obtain ⟨j,n,g,h,_⟩:=znD (memB l seq m k) (entO l[k] seq) e (by omega) (znu l seq m _ k a hs f);rw[znv l seq m k a d,g,h];trivial
theorem zjT (m:Int): ∀(l:List Ac) (s:Int × Int),(m<=(l.foldl (λs e=>(goMin s.1 e.c,goMax s.2 e.c)) s).1↔m<=s.1/\∀x∈l,m<=x.c)/\((l.foldl (λs e=>(goMin s.1 e.c,goMax s.2 e.c)) s).2<=m↔s.2<=m/\∀x∈l,x.c<=m)
 | [],s=>by simp
 | e::l,s=>by
   obtain ⟨a,b⟩:=zjT m l (goMin s.1 e.c,goMax s.2 e.c);simp only[List.foldl_cons];rw[a,b];have d:m<=goMin s.1 e.c↔m<=s.1/\m<=e.c:=by unfold goMin;omega
   have f:goMax s.2 e.c<=m↔s.2<=m/\e.c<=m:=by unfold goMax;omega
   grind
def zfc (l:List Ac) (m:Int):m<=(rangeV l).1↔m<=1000001/\∀x∈l,m<=x.c:=(zjT m l _).1
def zh0 (l:List Ac) (m:Int):(rangeV l).2<=m↔-1<=m/\∀x∈l,x.c<=m:=(zjT m l _).2
theorem zAD {D A B:Int} (a:A<=B\/seq<B) (b:seq<=D): ∀t:List (List Ac),tabsV seq A t=true->tabsV D B t=true:=by
 have go: ∀(t:List (List Ac)) (A:Int),tabsV seq A t=true->tabsV D A t=true:=by
  intro t;induction t with
  | nil=>intro _ _;rfl
  | cons x t ih=>
    intro A h;simp only[tabsV,Ma,decide_eq_true_eq]at h |-
    grind
 intro t h;cases t with
 | nil=>rfl
 | cons x t=>
   simp only[tabsV,Ma,decide_eq_true_eq]at h |-
   grind
theorem zzs {A:Int} {l:List Int} (d:seq<=A) (h:snapsV seq l=true):snapsV A l=true:=by
 unfold snapsV;rw[Mp];intro k e;have c:k<l.length:=by simp_all
 obtain ⟨a,b⟩:=zgn h k c;rw[znH A l k c,Ma];grind
def engB (e:Aa) (l:List Op):Aa:=⟨memB l (e.c+1) e.G l.length,e.D,e.c+1,e.u⟩
def okB (e:Aa) (l:List Op):Bool:=Dc (e.c+1<=1000000)&&(Dc ((memB l (e.c+1) e.G l.length).length<=60)&&Dc (totalV e.D+(memB l (e.c+1) e.G l.length).length<=400))
def zJ (h:engV e=true):(0<=e.c/\e.c<=1000000)/\e.u.length<=4/\e.D.length<=6/\totalV e.D+e.G.length<=400/\(e.G.length<=60/\entsV e.G=true)/\(rangeV e.G).2<=e.c/\tabsV e.c (rangeV e.G).1 e.D=true/\snapsV e.c e.u=true:=by unfold engV memV at h;simp_all
def zf6 {l:List Op} (h:engV e=true) (a:batchV l=true):ordE e.G/\(∀x∈e.G,x.c<e.c+1)/\e.G.length+l.length<=66:=by obtain ⟨g,i,j,k,b,d,m,n⟩:=zJ h;unfold batchV at a;rw[Ma,decide_eq_true_eq]at a;refine ⟨((zbj _).1 b.2).2,λx f=>?_,by omega⟩;have:=((zh0 _ _).1 d).2 x f;omega
theorem zgv {l:List Op} (h:engV e=true) (b:batchV l=true):engV (engB e l)=okB e l:=by
 obtain ⟨u,f,g,v,j,w,k,m⟩:=zJ h;obtain ⟨n,o,y⟩:=zf6 h b;obtain ⟨p,z,d,A⟩:=zea l (e.c+1) e.G n o (by omega) l.length (Mf _);unfold batchV at b;rw[Ma,decide_eq_true_eq,Mp]at b;unfold okB engB engV memV;simp only;rw[dT f,dT g,zzs (by omega) m];by_cases B:e.c+1<=1000000
 ·have C:0<=e.c+1/\e.c+1<=1000000:=by omega
  have q:entsV (memB l (e.c+1) e.G l.length)=true:=by
   rw[zbj];refine ⟨λx a=>?_,p⟩;rcases d x a with a | ⟨i,hi,_,_,rfl⟩
   ·exact ((zbj _).1 j.2).1 x a
   ·have:=b.2 _ (Nf hi);unfold opV at this;unfold entV entO;simp_all
  have s:(rangeV (memB l (e.c+1) e.G l.length)).2<=e.c+1:=by
   rw[zh0];refine ⟨by omega,λx a=>?_⟩;rcases d x a with a | ⟨i,hi,_,_,rfl⟩
   ·grind
   ·exact Qe _
  have t:(rangeV e.G).1<=(rangeV (memB l (e.c+1) e.G l.length)).1\/e.c<(rangeV (memB l (e.c+1) e.G l.length)).1:=by
   by_cases c:(rangeV e.G).1<=e.c+1
   ·left;rw[zfc];have:=(zfc e.G (rangeV e.G).1).1 (Qe _);refine ⟨this.1,λx a=>?_⟩;rcases d x a with a | ⟨i,hi,_,_,rfl⟩
    ·simp_all
    ·exact c
   ·right;have:e.c+1<=(rangeV (memB l (e.c+1) e.G l.length)).1:=by
     rw[zfc];have D:=(zfc e.G (rangeV e.G).1).1 (Qe _);refine ⟨by omega,λx a=>?_⟩;rcases d x a with a | ⟨i,hi,_,_,rfl⟩
     ·grind
     ·exact Qe _
    omega
  rw[q,dT s,zAD t (by omega) _ k];grind
 ·grind
def putR (e:Aa) (l:List Op):Aa × Bool:=bif engV e then (bif batchV l then (bif okB e l then (engB e l,true) else (e,false)) else (e,false)) else (⟨[],[],0,[]⟩,false)
theorem zgO (e:Aa) (l:List Op) (h:e.G.length<=1048576) (b:e.D.length<=1048576) (d:totalV e.D<=1048576) (f:e.u.length<=1048576) (i:l.length<=1048576):zcq e l=some (putR e l):=by
 have v: ∀t∈e.D,t.length<=1048576:=λt w=>Nt (zjj Nv w) d;unfold zcq putR;rw[zcb e h b d f];cases g:engV e with
 | false=>rfl
 | true=>
   simp only[Lm,Ly,Lo,iF,zcy e h b v f,cT,zc4 l i];cases j:batchV l with
   | false=>rfl
   | true=>
     have y:=(zJ g).1;obtain ⟨m,o,z⟩:=zf6 g j;have A:J8 (e.c+1)=e.c+1:=za;obtain ⟨B,C,E,F⟩:=zea l (e.c+1) e.G m o (by omega) l.length (Mf _);rw[zo (λk=>((k:Int),memB l (e.c+1) e.G k)) l.length (r:=Ctl.go (memB l (e.c+1) e.G l.length)) ?h0]
     case h0=>rfl
     ·simp only[zd];have p:=zcb (engB e l) (by show (memB l (e.c+1) e.G l.length).length<=_;omega) b d f;rw[zgv g j]at p;unfold engB at p |-
      grind
     ·intro k a;rw[iP,zyT l k a i];simp only[zd,zb l k a,Lm];rw[za (n:=(k:Int)+1)];cases s:laterV l k l[k].q with
      | true=>rw[zgH l _ _ k a s];rfl
      | false=>have x:=(zoT l (e.c+1) e.G m o (by omega) k a s).2;unfold entO at x;simp_all
     ·simp
theorem zsq (e:Aa) (l:List Op) (b:engV e=true) (h:batchV l=true):zd1 e l=some (okB e l,engB e l):=by
 obtain ⟨p,s,t,u,v,_⟩:=zJ b;obtain ⟨d,f,w⟩:=zf6 b h;have i:J8 (e.c+1)=e.c+1:=za;obtain ⟨y,z,A,B⟩:=zea l (e.c+1) e.G d f (by omega) l.length (Mf _);unfold zd1;simp only[i];rw[zo (λk=>(true,(k:Int),memB l (e.c+1) e.G k)) l.length (r:=Ctl.go (true,memB l (e.c+1) e.G l.length)) ?h0]
 case h0=>rfl
 ·simp only[zd,iT,zlM e.D (by omega) (by omega),Lm];rw[za];unfold okB engB;have C:Dc ((totalV e.D:Int)+(((memB l (e.c+1) e.G l.length).length:Nat):Int)<=400)=Dc (totalV e.D+(memB l (e.c+1) e.G l.length).length<=400):=decide_eq_decide.2 (by omega);grind
 ·intro k a;have j:piece l (J8 ((k:Int)+1)) (l.length:Int)=some (l.drop (k+1)):=by rw[za,zT l (k+1) l.length _ _ (by omega) rfl (by omega) (Mf _),Lv (by simp)]
  simp only[zb l k a,Lm,j,znS _ l[k] (by simp;omega:(l.drop (k+1)).length<=1048576)];rw[iP (by simpa using a),za (n:=(k:Int)+1)];have m:((l.drop (k+1)).any λx=>decide (x.q=l[k].q))=laterV l k l[k].q:=rfl;rw[m];cases g:laterV l k l[k].q with
  | true=>rw[zgH l _ _ k a g];rfl
  | false=>have o:=(zoT l (e.c+1) e.G d f (by omega) k a g).1;unfold entO at o;simp_all
 ·simp
theorem iand64 (c:a<2 ^ 63) (d:b<2 ^ 63):iand .i64 (a:Int) (b:Int)=((a &&& b:Nat):Int):=by
 unfold iand;have f:a &&& b<=a:=Rh;have e:(Lx I6.bits (a:Int) &&& Lx I6.bits (b:Int)).toNat=a &&& b:=by show (Lx 64 (a:Int) &&& Lx 64 (b:Int)).toNat=a &&& b;grind
 rw[e];exact za
theorem ior64 (c:a<2 ^ 63) (d:b<2 ^ 63):ior .i64 (a:Int) (b:Int)=((a ||| b:Nat):Int):=by
 unfold ior;have f:a ||| b<2 ^ 63:=Ol c d;have e:(Lx I6.bits (a:Int) ||| Lx I6.bits (b:Int)).toNat=a ||| b:=by show (Lx 64 (a:Int) ||| Lx 64 (b:Int)).toNat=a ||| b;grind
 rw[e];exact za
theorem ixor64 (c:a<2 ^ 63) (d:b<2 ^ 63):ixor .i64 (a:Int) (b:Int)=(a ^^^ b:Int):=by
 unfold ixor;have f:a ^^^ b<2 ^ 63:=Pq c d;have e:(Lx I6.bits (a:Int) ^^^ Lx I6.bits (b:Int)).toNat=a ^^^ b:=by show (Lx 64 (a:Int) ^^^ Lx 64 (b:Int)).toNat=a ^^^ b;grind
 rw[e];exact za
def wrap32 (n:Int):IntKind.u32.wrap n=n % 4294967296:=by simp[IntKind.wrap,IntKind.bits,IntKind.signed]
def wrap64u (n:Int):IntKind.u64.wrap n=n % 18446744073709551616:=by simp[IntKind.wrap,IntKind.bits,IntKind.signed]
theorem ior32 (c:a<2 ^ 32) (d:b<2 ^ 32):ior .u32 (a:Int) (b:Int)=((a ||| b:Nat):Int):=by
 unfold ior;have f:a ||| b<2 ^ 32:=Ol c d;have e:(Lx IntKind.u32.bits (a:Int) ||| Lx IntKind.u32.bits (b:Int)).toNat=a ||| b:=by show (Lx 32 (a:Int) ||| Lx 32 (b:Int)).toNat=a ||| b;grind
 rw[e,wrap32];omega
theorem ixor32 (c:a<2 ^ 32) (d:b<2 ^ 32):ixor .u32 (a:Int) (b:Int)=(a ^^^ b:Int):=by
 unfold ixor;have f:a ^^^ b<2 ^ 32:=Pq c d;have e:(Lx IntKind.u32.bits (a:Int) ^^^ Lx IntKind.u32.bits (b:Int)).toNat=a ^^^ b:=by show (Lx 32 (a:Int) ^^^ Lx 32 (b:Int)).toNat=a ^^^ b;grind
 rw[e,wrap32];omega
theorem iand8 (c:a<2 ^ 8) (d:b<2 ^ 8):iand .u8 (a:Int) (b:Int)=((a &&& b:Nat):Int):=by
 unfold iand;have f:a &&& b<=a:=Rh;have e:(Lx IntKind.u8.bits (a:Int) &&& Lx IntKind.u8.bits (b:Int)).toNat=a &&& b:=by show (Lx 8 (a:Int) &&& Lx 8 (b:Int)).toNat=a &&& b;grind
 rw[e];simp[IntKind.wrap,IntKind.bits,IntKind.signed];omega
theorem zdz {k:IntKind} (b:n<=k.bits):ishr k (a:Int) (n:Int)=((a / 2 ^ n:Nat):Int):=by unfold ishr;grind
def ishl64 (b:n<=64) (h:a*2 ^ n<2 ^ 63):ishl .i64 (a:Int) (n:Int)=((a*2 ^ n:Nat):Int):=by
 unfold ishl;have c:I6.bits=64:=rfl;rw[Mg,c,Oa b];have e:(a:Int)*2 ^ n=((a*2 ^ n:Nat):Int):=by rfl
 exact za
def ishl32 (b:n<=32):ishl .u32 (a:Int) (n:Int)=((a*2 ^ n % 4294967296:Nat):Int):=by
 unfold ishl;have c:IntKind.u32.bits=32:=rfl;have e:(a:Int)*2 ^ n=((a*2 ^ n:Nat):Int):=by rfl
 rw[Mg,c,Oa b,wrap32,e];rfl
def zoO (h:x<2 ^ 63):zb8 (x:Int)=some ((x % 4294967296:Nat):Int):=by unfold zb8;rw[show (4294967295:Int)=((4294967295:Nat):Int) from rfl,iand64 h (by decide),show x &&& 4294967295=x % 4294967296 from Mv x 32]
def rotN (x n:Nat):Nat:=x*2 ^ n % 4294967296 ||| x / 2 ^ (32 - n)
def zBc (h:x<4294967296):rotN x n<4294967296:=by refine Ol (n:=32) (Ox _ (by decide)) ?_;exact Pr (Ph _ _) h
def zyS (h:x<4294967296) (b:n<=16):zdm (x:Int) (n:Int)=some (rotN x n:Int):=by
 unfold zdm nn;have a:x*2 ^ n<2 ^ 63:=by
  have:2 ^ n<=2 ^ 16:=Nk (by decide) b
  calc x*2 ^ n<=x*2 ^ 16:=Oy _ this
   _<2 ^ 63:=by omega
 have c:x / 2 ^ (32 - n)<2 ^ 32:=Pr (Ph _ _) h;have d:IntKind.u64.wrap ((32:Int) - (n:Int))=((32 - n:Nat):Int):=by rw[wrap64u];omega
 rw[iN (by omega),d,ishl64 (by omega) a,zdz (by show 32 - n<=64;omega),ior64 a (by omega)];rw[zoO (Ol a (by omega))];simp only[Lm];unfold rotN;rw[show (4294967296:Nat)=2 ^ 32 from rfl,Nat.or_mod_two_pow,Nj c]
def zAs (h:x<4294967296) (d:n<=16):zbe (x:Int) (n:Int)=some (rotN x n:Int):=by
 unfold zbe nn;have a:iand .u64 (IntKind.u64.wrap (n:Int)) 31=(n:Int):=by
  have e:IntKind.u64.wrap (n:Int)=(n:Int):=by rw[wrap64u];omega
  unfold iand;have f:(Lx IntKind.u64.bits (n:Int) &&& Lx IntKind.u64.bits 31).toNat=n:=by show (Lx 64 (n:Int) &&& Lx 64 ((31:Nat):Int)).toNat=n;rw[Qh,Qh,BitVec.toNat_and,Qm,Qm,Nj (by omega),Nj (by omega)];rw[show n &&& 31=n % 32 from Mv n 5];omega
  simp_all
 have b:x / 2 ^ (32 - n)<2 ^ 32:=Pr (Ph _ _) h;have c:IntKind.u64.wrap ((32:Int) - (n:Int))=((32 - n:Nat):Int):=by rw[wrap64u];omega
 rw[a,iN (by omega),c,ishl32 (by omega),zdz (by show 32 - n<=32;omega),ior32 (Ox _ (by decide)) b];rfl
def zqo {p q:Int} (e:0<=p/\p<4294967296) (f:0<=q/\q<4294967296):ior .u32 p q=ior .i64 p q/\0<=ior .i64 p q/\ior .i64 p q<4294967296:=by
 have c:p=(p.toNat:Int):=by omega
 have d:q=(q.toNat:Int):=by omega
 have a:p.toNat<2 ^ 32:=by omega
 have b:q.toNat<2 ^ 32:=by omega
 have g:=Ol a b;rw[c,d,ior32 a b,ior64 (by omega) (by omega)];omega
def zyO (x:UInt8) (n:Nat) (a:n<=24):ishl .u32 (IntKind.u32.wrap (x.toNat:Int)) (n:Int)=ishl .i64 (J8 (x.toNat:Int)) (n:Int)/\0<=ishl .i64 (J8 (x.toNat:Int)) (n:Int)/\ishl .i64 (J8 (x.toNat:Int)) (n:Int)<4294967296:=by
 have e:=x.toNat_lt;have b:IntKind.u32.wrap (x.toNat:Int)=(x.toNat:Int):=by rw[wrap32];omega
 have c:J8 (x.toNat:Int)=(x.toNat:Int):=za;have d:2 ^ n<=2 ^ 24:=Nk (by decide) a;have f:x.toNat*2 ^ n<=x.toNat*2 ^ 24:=Oy _ d;rw[b,c,ishl32 (by omega),ishl64 (by omega) (by omega)];omega
def znl (x:UInt8) (n:Int) (a:0<=n/\n<=24):ishl .u32 (IntKind.u32.wrap (x.toNat:Int)) n=ishl .i64 (J8 (x.toNat:Int)) n/\0<=ishl .i64 (J8 (x.toNat:Int)) n/\ishl .i64 (J8 (x.toNat:Int)) n<4294967296:=by
 have e:n=(n.toNat:Int):=by omega
 exact zyO x n.toNat (by omega)
def zlt {x:Option α} {g:α->Option β} (h: ∀a,f a=g a):x.bind f=x.bind g:=by
 cases x with
 | none=>rfl
 | some a=>exact h a
def zrj (a b c d:UInt8):ior .u32 (ior .u32 (ior .u32 (IntKind.u32.wrap (a.toNat:Int)) (ishl .u32 (IntKind.u32.wrap (b.toNat:Int)) 8)) (ishl .u32 (IntKind.u32.wrap (c.toNat:Int)) 16)) (ishl .u32 (IntKind.u32.wrap (d.toNat:Int)) 24)=
     ior .i64 (ior .i64 (ior .i64 (J8 (a.toNat:Int)) (ishl .i64 (J8 (b.toNat:Int)) 8)) (ishl .i64 (J8 (c.toNat:Int)) 16)) (ishl .i64 (J8 (d.toNat:Int)) 24)/\
     0<=ior .i64 (ior .i64 (ior .i64 (J8 (a.toNat:Int)) (ishl .i64 (J8 (b.toNat:Int)) 8)) (ishl .i64 (J8 (c.toNat:Int)) 16)) (ishl .i64 (J8 (d.toNat:Int)) 24)/\
     ior .i64 (ior .i64 (ior .i64 (J8 (a.toNat:Int)) (ishl .i64 (J8 (b.toNat:Int)) 8)) (ishl .i64 (J8 (c.toNat:Int)) 16)) (ishl .i64 (J8 (d.toNat:Int)) 24)<4294967296:=by
 have k:=a.toNat_lt;have l:IntKind.u32.wrap (a.toNat:Int)=J8 (a.toNat:Int):=by rw[wrap32,za];omega
 have e:0<=J8 (a.toNat:Int)/\J8 (a.toNat:Int)<4294967296:=by rw[za];omega
 obtain ⟨m,f⟩:=znl b 8 (by omega);obtain ⟨n,g⟩:=znl c 16 (by omega);obtain ⟨o,h⟩:=znl d 24 (by omega);obtain ⟨p,i⟩:=zqo e f;obtain ⟨q,j⟩:=zqo i g;obtain ⟨s,t⟩:=zqo j h;simp_all
def zyU (s:J3) (at_:Int):zfC s at_=z8 s at_:=by exact zlt λa=>zlt λb=>zlt λc=>zlt λd=>congrArg some (zrj a b c d).1
def zvk (s:J3) (at_ r:Int) (h:z8 s at_=some r):0<=r/\r<4294967296:=by obtain ⟨a,_,h⟩:=Oh.1 h;obtain ⟨b,_,h⟩:=Oh.1 h;obtain ⟨c,_,h⟩:=Oh.1 h;obtain ⟨d,_,h⟩:=Oh.1 h;rw[<-Option.some.inj h];exact (zrj a b c d).2
def zc6 (s:J3) (i:Nat) (h:i<s.length):sidx s (i:Int)=some s[i]:=by unfold sidx;simp
theorem zwm (s:J3) (i:Nat) (h:i+3<s.length) (hs:s.length<=1048576): ∃n:Nat,z8 s (i:Int)=some (n:Int)/\zfC s (i:Int)=some (n:Int)/\n<4294967296:=by
 have g:=zyU s (i:Int);have a:=zvk s (i:Int);have hs': ∃r,z8 s (i:Int)=some r:=by
  unfold z8;have w: ∀d:Nat,d<=3->J8 ((i:Int)+(d:Int))=((i+d:Nat):Int):=λd j=>by rw[za];omega
  have b:J8 ((i:Int)+1)=((i+1:Nat):Int):=w 1 (by omega);have c:J8 ((i:Int)+2)=((i+2:Nat):Int):=w 2 (by omega);have e:J8 ((i:Int)+3)=((i+3:Nat):Int):=w 3 (by omega);rw[b,c,e,zc6 s i (by omega),zc6 s (i+1) (by omega),zc6 s (i+2) (by omega),zc6 s (i+3) (by omega)];simp
 obtain ⟨r,f⟩:=hs';obtain ⟨p,q⟩:=a r f;refine ⟨r.toNat,?_,?_,by omega⟩
 ·grind
 ·grind
def okW (l:List Wrd):Prop:=∀x∈l,0<=x.v/\x.v<4294967296
def zw4 {l:List Wrd} {i:Nat} {x:Wrd} (h:okW l) (c:0<=x.v/\x.v<4294967296):okW (l.set i x):=by
 intro y b;rcases List.mem_or_eq_of_mem_set b with a | a
 ·exact h y a
 ·simp_all
def qi (l:List Wrd) (x y z r:Int):Option (List Wrd):=
 (idx l x).bind λh=>(idx l y).bind λA=>(idx (l.set x.toNat (Wrd.mk (IntKind.u32.wrap (h.v+A.v)))) z).bind λD=>(idx (l.set x.toNat (Wrd.mk (IntKind.u32.wrap (h.v+A.v)))) x).bind λE=>
 (zbe (ixor .u32 D.v E.v) r).bind λB=>some ((l.set x.toNat (Wrd.mk (IntKind.u32.wrap (h.v+A.v)))).set z.toNat (Wrd.mk B))
def qs (l:List Int) (x y z r:Int):Option (List Int):=
 (idx l x).bind λE=>(idx l y).bind λF=>(zb8 (J8 (E+F))).bind λD=>(idx (l.set x.toNat D) z).bind λh=>(idx (l.set x.toNat D) x).bind λA=>
 (zdm (ixor .i64 h A) r).bind λB=>some ((l.set x.toNat D).set z.toNat B)
theorem zwR {l:List α} {i:Int} {v w:α} (h:idx l i=some v):idx (l.set i.toNat w) i=some w:=by
 unfold idx at h |-
 grind
def zwC {x:Option α} {g:α->Option β} (h: ∀a,x=some a->f a=g a):x.bind f=x.bind g:=by
 cases x
 ·rfl
 ·exact h _ rfl
def zoG (l:List Wrd) (a b c d:Int):zb6 l a b c d=(qi l a b d 16).bind λe=>(qi e c d b 12).bind λf=>(qi f a b d 8).bind λg=>qi g c d b 7:=by unfold zb6 qi;simp only[Qv,Lm];repeat (refine zwC λ_ h=>?_;try simp only[zwR h,Lm])
def zpb (l:List Int) (a b c d:Int):zl l a b c d=(qs l a b d 16).bind λe=>(qs e c d b 12).bind λf=>(qs f a b d 8).bind λg=>qs g c d b 7:=by unfold zl qs;simp only[Qv,Lm];repeat first | refine zwC λ_ _=>?_ | rw[zwR (by assumption),Lm]
def zhW {l:List Wrd} (h:okW l) (k:Nat) (a:k<l.length): ∃n:Nat,l[k].v=(n:Int)/\n<4294967296:=by obtain ⟨b,c⟩:=h _ (Nf a);exact ⟨l[k].v.toNat,by omega,by omega⟩
def zpr (l:List Wrd) (x y z r:Nat) (hl:l.length=16) (a:okW l) (q:x<16) (s:y<16) (t:z<16) (d:r<=16):
    ∃l',qi l (x:Int) (y:Int) (z:Int) (r:Int)=some l'/\qs (l.map Wrd.v) (x:Int) (y:Int) (z:Int) (r:Int)=some (l'.map Wrd.v)/\l'.length=16/\okW l':=by
 obtain ⟨B,G,u⟩:=zhW a x (by omega);obtain ⟨D,I,w⟩:=zhW a y (by omega);have g:IntKind.u32.wrap ((B:Int)+(D:Int))=(((B+D) % 4294967296:Nat):Int):=by rw[wrap32];omega
 have h:(l.set x (Wrd.mk (((B+D) % 4294967296:Nat):Int))).length=16:=by rw[Pi];exact hl
 have b:okW (l.set x (Wrd.mk (((B+D) % 4294967296:Nat):Int))):=zw4 a ⟨by show (0:Int)<=(((B+D) % 4294967296:Nat):Int);omega,by show (((B+D) % 4294967296:Nat):Int)<_;omega⟩;obtain ⟨nz,J,e⟩:=zhW b z (by omega);obtain ⟨E,F,f⟩:=zhW b x (by omega);have c:=Pq (n:=32) e f;have A:=zBc (n:=r) (show nz ^^^ E<4294967296 from c);refine ⟨(l.set x (Wrd.mk (((B+D) % 4294967296:Nat):Int))).set z (Wrd.mk (rotN (nz ^^^ E) r:Int)),?_,?_,by rw[Pi];exact h,zw4 b ⟨by show (0:Int)<=(rotN (nz ^^^ E) r:Int);omega,by show (rotN (nz ^^^ E) r:Int)<_;omega⟩⟩
 ·unfold qi;simp only[zb l x (by omega),zb l y (by omega),Lm,G,I,g,Mg,zb _ z (by omega:z<(l.set x (Wrd.mk (((B+D) % 4294967296:Nat):Int))).length),zb _ x (by omega:x<(l.set x (Wrd.mk (((B+D) % 4294967296:Nat):Int))).length),J,F,ixor32 e f,zAs c d]
 ·unfold qs;have i:idx (l.map Wrd.v) (x:Int)=some (B:Int):=by rw[zb _ x (by simp;omega)];simp[G]
  have j:idx (l.map Wrd.v) (y:Int)=some (D:Int):=by rw[zb _ y (by simp;omega)];simp[I]
  have k:J8 ((B:Int)+(D:Int))=((B+D:Nat):Int):=by rw[za];omega
  have m:(l.map Wrd.v).set x (((B+D) % 4294967296:Nat):Int)=(l.set x (Wrd.mk (((B+D) % 4294967296:Nat):Int))).map Wrd.v:=by rw[List.map_set]
  simp only[i,j,Lm,k,zoO (show B+D<2 ^ 63 by omega),Mg,m];have o:idx ((l.set x (Wrd.mk (((B+D) % 4294967296:Nat):Int))).map Wrd.v) (z:Int)=some (nz:Int):=by rw[zb _ z (by simp;omega)];simp only[Py,J]
  have p:idx ((l.set x (Wrd.mk (((B+D) % 4294967296:Nat):Int))).map Wrd.v) (x:Int)=some (E:Int):=by rw[zb _ x (by simp;omega)];simp only[Py,F]
  simp only[o,p,Lm,ixor64 (show nz<2 ^ 63 by omega) (show E<2 ^ 63 by omega),zyS c d];simp
def zxP (l:List Wrd) (a b c d:Nat) (hl:l.length=16) (i:okW l) (g:a<16) (e:b<16) (h:c<16) (f:d<16):
    ∃l',zb6 l (a:Int) (b:Int) (c:Int) (d:Int)=some l'/\zl (l.map Wrd.v) (a:Int) (b:Int) (c:Int) (d:Int)=some (l'.map Wrd.v)/\l'.length=16/\okW l':=by
 obtain ⟨j,k,m,r1,n⟩:=zpr l a b d 16 hl i g e f (by omega);obtain ⟨o,y,z,r2,p⟩:=zpr j c d b 12 r1 n h f e (by omega);obtain ⟨q,A,B,s,t⟩:=zpr o a b d 8 r2 p g e f (by omega);obtain ⟨u,C,D,w,x⟩:=zpr q c d b 7 s t h f e (by omega);refine ⟨u,?_,?_,w,x⟩
 ·rw[zoG,show (16:Int)=((16:Nat):Int) from rfl,k];simp_all
 ·rw[zpb,show (16:Int)=((16:Nat):Int) from rfl,m];simp_all
def goodW (l:List Wrd):Prop:=l.length=16/\okW l
def qv (l:List Wrd) (a b c d:Nat):List Wrd:=(zb6 l (a:Int) (b:Int) (c:Int) (d:Int)).getD []
def qv_ok {l:List Wrd} (h:goodW l) (a b c d:Nat) (e:a<16) (f:b<16) (g:c<16) (i:d<16):
    zb6 l (a:Int) (b:Int) (c:Int) (d:Int)=some (qv l a b c d)/\zl (l.map Wrd.v) (a:Int) (b:Int) (c:Int) (d:Int)=some ((qv l a b c d).map Wrd.v)/\goodW (qv l a b c d):=by obtain ⟨l',j,k,m,n⟩:=zxP l a b c d h.1 h.2 e f g i;unfold qv;rw[j,k];trivial
def colW (l:List Wrd):Nat->List Wrd
 | 0=>l
 | k+1=>qv (colW l k) k (4+k) (8+k) (12+k)
def diagW (l:List Wrd):Nat->List Wrd
 | 0=>l
 | k+1=>qv (diagW l k) k (4+(k+1) % 4) (8+(k+2) % 4) (12+(k+3) % 4)
def roundW (l:List Wrd):List Wrd:=diagW (colW l 4) 4
def roundsW (l:List Wrd):Nat->List Wrd
 | 0=>l
 | k+1=>roundW (roundsW l k)
def zfa {l:List Wrd} (h:goodW l): ∀k,k<=4->goodW (colW l k)
 | 0,_=>h
 | k+1,a=>(qv_ok (zfa h k (by omega)) k (4+k) (8+k) (12+k) (by omega) (by omega) (by omega) (by omega)).2.2
def zgu {l:List Wrd} (h:goodW l): ∀k,k<=4->goodW (diagW l k)
 | 0,_=>h
 | k+1,a=>(qv_ok (zgu h k (by omega)) k (4+(k+1) % 4) (8+(k+2) % 4) (12+(k+3) % 4) (by omega) (by omega) (by omega) (by omega)).2.2
def zws {l:List Wrd} (h:goodW l):goodW (roundW l):=zgu (zfa h 4 (by omega)) 4 (by omega)
def zeT {l:List Wrd} (h:goodW l): ∀k,goodW (roundsW l k)
 | 0=>h
 | k+1=>zws (zeT h k)
theorem zzS {l:List Wrd} (h:goodW l):loopO (ρ:=Ctl (List Wrd) ρ) (λ(A:Int × List Wrd)=>if Dc (A.1<4)then Bd0 (zb6 A.2 A.1 (J8 ((4:Int)+A.1)) (J8 ((8:Int)+A.1)) (J8 ((12:Int)+A.1))) λB=>some (.go (J8 (A.1+1),B))else some (.done (.go A.2)))
 ((0:Int),l)=some (.go (colW l 4)):=by
 rw[zo (λk=>((k:Int),colW l k)) 4 (r:=Ctl.go (colW l 4)) ?h0]
 case h0=>rfl
 ·intro k d;have a:J8 ((4:Int)+(k:Int))=((4+k:Nat):Int):=by rw[za];omega
  have b:J8 ((8:Int)+(k:Int))=((8+k:Nat):Int):=by rw[za];omega
  have c:J8 ((12:Int)+(k:Int))=((12+k:Nat):Int):=by rw[za];omega
  simp only[a,b,c,(qv_ok (zfa h k (by omega)) k (4+k) (8+k) (12+k) (by omega) (by omega) (by omega) (by omega)).1,Lm];rw[iP (by grind),za];rfl
 ·rfl
theorem zyv {l:List Wrd} (h:goodW l):loopO (ρ:=Ctl (List Wrd) ρ) (λ(A:Int × List Wrd)=>if Dc (A.1<4)then Bd0 (zb6 A.2 A.1 (J8 ((4:Int)+(Nh (J8 (A.1+1)) 4))) (J8 ((8:Int)+(Nh (J8 (A.1+2)) 4))) (J8 ((12:Int)+(Nh (J8 (A.1+3)) 4)))) λB=>some (.go (J8 (A.1+1),B))else some (.done (.go A.2)))
 ((0:Int),l)=some (.go (diagW l 4)):=by
 rw[zo (λk=>((k:Int),diagW l k)) 4 (r:=Ctl.go (diagW l 4)) ?h0]
 case h0=>rfl
 ·intro k g;have e: ∀(a d:Nat),a<=12->d<=3->J8 ((a:Int)+(Nh (J8 ((k:Int)+(d:Int))) 4))=((a+(k+d) % 4:Nat):Int):=by intro a d i j;rw[za (n:=(k:Int)+(d:Int)),show (k:Int)+(d:Int)=((k+d:Nat):Int) by omega,show (4:Int)=((4:Nat):Int) from rfl,<-Int.ofNat_tmod,za];rfl
  have b:J8 ((4:Int)+(Nh (J8 ((k:Int)+1)) 4))=_:=e 4 1 (by omega) (by omega);have c:J8 ((8:Int)+(Nh (J8 ((k:Int)+2)) 4))=_:=e 8 2 (by omega) (by omega);have f:J8 ((12:Int)+(Nh (J8 ((k:Int)+3)) 4))=_:=e 12 3 (by omega) (by omega);simp only[b,c,f,(qv_ok (zgu h k (by omega)) k (4+(k+1) % 4) (8+(k+2) % 4) (12+(k+3) % 4) (by omega) (by omega) (by omega) (by omega)).1,Lm];rw[iP (by grind),za];rfl
 ·rfl
def zx7 {l:List Wrd} (h:goodW l) (f:List Int->Option β):((zl (l.map Wrd.v) (0:Int) (4:Int) (8:Int) (12:Int)).bind λA=>
 (zl A 1 5 (9:Int) (13:Int)).bind λB=>
 (zl B 2 6 (10:Int) (14:Int)).bind λD=>
 (zl D 3 7 (11:Int) (15:Int)).bind λE=>
 (zl E 0 5 (10:Int) (15:Int)).bind λF=>
 (zl F 1 6 (11:Int) (12:Int)).bind λG=>
 (zl G 2 7 (8:Int) (13:Int)).bind λI=>
 (zl I 3 4 (9:Int) (14:Int)).bind λJ=>f J)=f ((roundW l).map Wrd.v):=by have a:zl (l.map Wrd.v) (0:Int) (4:Int) (8:Int) (12:Int)=some ((colW l 1).map Wrd.v):=(qv_ok h 0 4 8 12 (by omega) (by omega) (by omega) (by omega)).2.1;have b:zl ((colW l 1).map Wrd.v) (1:Int) (5:Int) (9:Int) (13:Int)=some ((colW l 2).map Wrd.v):=(qv_ok (zfa h 1 (by omega)) 1 5 9 13 (by omega) (by omega) (by omega) (by omega)).2.1;have c:zl ((colW l 2).map Wrd.v) (2:Int) (6:Int) (10:Int) (14:Int)=some ((colW l 3).map Wrd.v):=(qv_ok (zfa h 2 (by omega)) 2 6 10 14 (by omega) (by omega) (by omega) (by omega)).2.1;have d:zl ((colW l 3).map Wrd.v) (3:Int) (7:Int) (11:Int) (15:Int)=some ((colW l 4).map Wrd.v):=(qv_ok (zfa h 3 (by omega)) 3 7 11 15 (by omega) (by omega) (by omega) (by omega)).2.1;have g:=zfa h 4 (by omega);have e:zl ((colW l 4).map Wrd.v) (0:Int) (5:Int) (10:Int) (15:Int)=some ((diagW (colW l 4) 1).map Wrd.v):=(qv_ok g 0 5 10 15 (by omega) (by omega) (by omega) (by omega)).2.1;have i:zl ((diagW (colW l 4) 1).map Wrd.v) (1:Int) (6:Int) (11:Int) (12:Int)=some ((diagW (colW l 4) 2).map Wrd.v):=(qv_ok (zgu g 1 (by omega)) 1 6 11 12 (by omega) (by omega) (by omega) (by omega)).2.1;have j:zl ((diagW (colW l 4) 2).map Wrd.v) (2:Int) (7:Int) (8:Int) (13:Int)=some ((diagW (colW l 4) 3).map Wrd.v):=(qv_ok (zgu g 2 (by omega)) 2 7 8 13 (by omega) (by omega) (by omega) (by omega)).2.1;have k:zl ((diagW (colW l 4) 3).map Wrd.v) (3:Int) (4:Int) (9:Int) (14:Int)=some ((diagW (colW l 4) 4).map Wrd.v):=(qv_ok (zgu g 3 (by omega)) 3 4 9 14 (by omega) (by omega) (by omega) (by omega)).2.1;simp only[a,b,c,d,e,i,j,k,Lm];rfl
def kN (s:J3) (i:Nat):Nat:=((z8 s ((4*i:Nat):Int)).getD 0).toNat
def kN_ok (s:J3) (i:Nat) (h:4*i+3<s.length) (hs:s.length<=1048576):z8 s ((4*i:Nat):Int)=some (kN s i:Int)/\zfC s ((4*i:Nat):Int)=some (kN s i:Int)/\kN s i<4294967296:=by
 obtain ⟨n,a,b,c⟩:=zwm s (4*i) h hs;have e:kN s i=n:=by unfold kN;simp_all
 simp_all
def selW (k i n:Nat):Wrd:=bif Nat.blt i k then Wrd.mk (n:Int) else Wrd.mk 0
def firstK (key:J3) (k:Nat):List Wrd:=[Wrd.mk 1634760805,Wrd.mk 857760878,Wrd.mk 2036477234,Wrd.mk 1797285236,selW k 0 (kN key 0),selW k 1 (kN key 1),selW k 2 (kN key 2),selW k 3 (kN key 3),selW k 4 (kN key 4),selW k 5 (kN key 5),selW k 6 (kN key 6),selW k 7 (kN key 7),Wrd.mk 0,Wrd.mk 0,Wrd.mk 0,Wrd.mk 0]
def firstN (key:J3) (counter:Int) (nonce:J3) (k:Nat):List Wrd:=[Wrd.mk 1634760805,Wrd.mk 857760878,Wrd.mk 2036477234,Wrd.mk 1797285236,Wrd.mk (kN key 0:Int),Wrd.mk (kN key 1:Int),Wrd.mk (kN key 2:Int),Wrd.mk (kN key 3:Int),Wrd.mk (kN key 4:Int),Wrd.mk (kN key 5:Int),Wrd.mk (kN key 6:Int),Wrd.mk (kN key 7:Int),Wrd.mk counter,selW k 0 (kN nonce 0),selW k 1 (kN nonce 1),selW k 2 (kN nonce 2)]
def zub (key:J3) (counter:Int) (nonce:J3) (f:key.length=32) (g:0<=counter/\counter<=4294967295) (i:nonce.length=12):zfZ key counter nonce=some (firstN key counter nonce 3):=by
 unfold zfZ;have c:IntKind.u32.wrap counter=counter:=by rw[wrap32];omega
 have hl: ∀l:List Wrd,l.length=16->lenIs 16 l=some ():=λl h=>by unfold lenIs;simp_all
 rw[hl _ rfl];rw[zo (λk=>((k:Int),firstK key k)) 8 (r:=Ctl.go (firstK key 8)) ?h0]
 case h0=>rfl
 ·simp only[zd];simp only[Lm,Mg,c];rw[zo (λk=>((k:Int),firstN key counter nonce k)) 3 (r:=Ctl.go (firstN key counter nonce 3)) ?h1]
  case h1=>rfl
  ·rfl
  ·intro k j;have a:J8 ((4:Int)*(k:Int))=((4*k:Nat):Int):=by rw[za];omega
   have d:J8 ((13:Int)+(k:Int))=((13+k:Nat):Int):=by rw[za];omega
   simp only[a,d,(kN_ok nonce k (by omega) (by omega)).2.1,Lm,zb (firstN key counter nonce k) (13+k) (by show 13+k<16;omega),Mg];have b:k=0\/k=1\/k=2:=by omega
   rcases b with rfl | rfl | rfl<;>rfl
  ·rfl
 ·intro k m;have a:J8 ((4:Int)*(k:Int))=((4*k:Nat):Int):=by rw[za];omega
  have e:J8 ((4:Int)+(k:Int))=((4+k:Nat):Int):=by rw[za];omega
  simp only[a,e,(kN_ok key k (by omega) (by omega)).2.1,Lm,zb (firstK key k) (4+k) (by show 4+k<16;omega),Mg];have b:k=0\/k=1\/k=2\/k=3\/k=4\/k=5\/k=6\/k=7:=by omega
  rcases b with rfl | rfl | rfl | rfl | rfl | rfl | rfl | rfl<;>rfl
 ·rfl
def zl8 (key:J3) (counter:Int) (nonce:J3) (f:key.length=32) (g:0<=counter/\counter<=4294967295) (h:nonce.length=12):goodW (firstN key counter nonce 3):=by refine ⟨rfl,?_⟩;have a: ∀i,i<8->kN key i<4294967296:=λi hi=>(kN_ok key i (by omega) (by omega)).2.2;have b: ∀i,i<3->kN nonce i<4294967296:=λi hi=>(kN_ok nonce i (by omega) (by omega)).2.2;have j:=a 0 (by omega);have k:=a 1 (by omega);have l:=a 2 (by omega);have m:=a 3 (by omega);have n:=a 4 (by omega);have o:=a 5 (by omega);have p:=a 6 (by omega);have q:=a 7 (by omega);have s:=b 0 (by omega);have t:=b 1 (by omega);have u:=b 2 (by omega);have s0:selW 3 0 (kN nonce 0)=Wrd.mk (kN nonce 0:Int):=rfl;have d:selW 3 1 (kN nonce 1)=Wrd.mk (kN nonce 1:Int):=rfl;have e:selW 3 2 (kN nonce 2)=Wrd.mk (kN nonce 2:Int):=rfl;intro x c;unfold firstN at c;rw[s0,d,e]at c;simp only[Nn,List.not_mem_nil,or_false]at c;rcases c with rfl | rfl | rfl | rfl | rfl | rfl | rfl | rfl | rfl | rfl | rfl | rfl | rfl | rfl | rfl | rfl<;>simp only<;>omega
def bytes4 (n:Nat):J3:=[toU8 (n:Int),toU8 ((n / 256:Nat):Int),toU8 ((n / 65536:Nat):Int),toU8 ((n / 16777216:Nat):Int)]
def outW (w s:List Wrd):Nat->J3
 | 0=>[]
 | k+1=>outW w s k++(match w[k]?,s[k]? with | some x,some y=>bytes4 ((x.v+y.v).toNat % 4294967296) | _,_=>[])
def zoW (w s:List Wrd) (k:Nat) (a:k<w.length) (hs:k<s.length):outW w s (k+1)=outW w s k++bytes4 ((w[k].v+s[k].v).toNat % 4294967296):=by show outW w s k++(match w[k]?,s[k]? with | some x,some y=>_ | _,_=>_)=_;simp_all
def znz (w s:List Wrd) (a:w.length=16) (hs:s.length=16): ∀k,k<=16->(outW w s k).length=4*k
 | 0,_=>rfl
 | k+1,b=>by rw[zoW w s k (by omega) (by omega),Lr,znz w s a hs k (by omega)];rfl
def znN (n:Nat):toU8 ((n % 256:Nat):Int)=toU8 (n:Int):=by unfold toU8;simp
def chaR (key:J3) (counter:Int) (nonce:J3):J3:=outW (roundsW (firstN key counter nonce 3) 10) (firstN key counter nonce 3) 16
def chaOk (key:J3) (counter:Int) (nonce:J3):Bool:=Dc (key.length=32)&&(Dc (nonce.length=12)&&Dc (0<=counter/\counter<=4294967295))
def chaV (key:J3) (counter:Int) (nonce:J3):J3:=bif chaOk key counter nonce then chaR key counter nonce else []
def zhO (h:chaOk key counter nonce=true):key.length=32/\nonce.length=12/\0<=counter/\counter<=4294967295:=by unfold chaOk at h;simp_all
def zkR (key:J3) (counter:Int) (nonce:J3) (h:chaOk key counter nonce=true):(chaV key counter nonce).length=64:=by obtain ⟨a,b,c⟩:=zhO h;have g:=zl8 key counter nonce a c b;unfold chaV chaR;rw[h];exact znz _ _ (zeT g 10).1 g.1 16 (Mf _)
theorem znW (key:J3) (counter:Int) (nonce:J3):ziq key counter nonce=some (chaOk key counter nonce):=by unfold ziq chaOk;have a:Dc ((key.length:Int)=32)=Dc (key.length=32):=decide_eq_decide.2 (by omega);have b:Dc ((nonce.length:Int)=12)=Dc (nonce.length=12):=decide_eq_decide.2 (by omega);rw[a,b,zY];grind
theorem zkX (key:J3) (counter:Int) (nonce:J3):zft key counter nonce=some (chaV key counter nonce):=by
 unfold zft chaV;rw[znW];cases c:chaOk key counter nonce with
 | false=>rfl
 | true=>
   obtain ⟨h1,a,b⟩:=zhO c;have g:=zl8 key counter nonce h1 b a;have hl: ∀l:List Wrd,l.length=16->lenIs 16 l=some ():=λl h=>by unfold lenIs;simp_all
   simp only[Lm,Ly,Lo,iF,cT,zub key counter nonce h1 b a,hl _ g.1];unfold chaR;generalize firstN key counter nonce 3=s at g;rw[zo (λk=>((k:Int),roundsW s k)) 10 (r:=Ctl.go (roundsW s 10)) ?h0]
   case h0=>rfl
   ·have A:=zeT g 10;simp only[zd,show mkLen 1 64=some 64 from rfl,Lm];rw[zo (λk=>((k:Int),outW (roundsW s 10) s k)) 16 (r:=Ctl.go (outW (roundsW s 10) s 16)) ?h1]
    case h1=>rfl
    ·rfl
    ·intro k d;obtain ⟨n,D,i⟩:=zhW A.2 k (by rw[A.1];trivial);obtain ⟨m,B,j⟩:=zhW g.2 k (by rw[g.1];omega);have e:=znz (roundsW s 10) s A.1 g.1 k (by omega);simp only[hl _ A.1,zb (roundsW s 10) k (by rw[A.1];omega),zb s k (by rw[g.1];omega),Lm,D,B];have f:IntKind.u32.wrap ((n:Int)+(m:Int))=(((n+m) % 4294967296:Nat):Int):=by rfl
     rw[f,show (8:Int)=((8:Nat):Int) from rfl,show (24:Int)=((24:Nat):Int) from rfl,zdz (by decide),zdz (by decide)];rw[show ishr .u32 (((n+m) % 4294967296:Nat):Int) (16:Int)=_ from zdz (n:=16) (by decide)];rw[iP (by simp;omega),za,ze (by simp;omega) (by rw[e];simp;omega)];rw[zoW _ _ k (by rw[A.1];omega) (by rw[g.1];omega),D,B];rfl
    ·rfl
   ·intro k d;have E:=zeT g k;simp only[zzS E,zd,zyv (zfa E 4 (by omega))];rw[iP (by grind),za];rfl
   ·simp
def zr9 {x:Option α} {a:α} {r:Option β} (h:x=some a) (b:f a=r):x.bind f=r:=by rw[h];exact b
theorem zhN (key:J3) (counter:Int) (nonce:J3):zc7 key counter nonce=some (chaV key counter nonce):=by
 unfold zc7 chaV;have A:Dc ((key.length:Int)=32)=Dc (key.length=32):=decide_eq_decide.2 (by omega);have B:Dc ((nonce.length:Int)=12)=Dc (nonce.length=12):=decide_eq_decide.2 (by omega);rw[A,B,zW];cases o:chaOk key counter nonce with
 | false=>unfold chaOk at o;grind
 | true=>
   obtain ⟨h1,h2,p⟩:=zhO o;have g:=zl8 key counter nonce h1 p h2;rw[dT h1,dT h2,dT p];unfold zll chaR;rw[zo (λk=>((k:Int),((firstN key counter nonce 3).map Wrd.v).take (4+k))) 8 (r:=Ctl.go (((firstN key counter nonce 3).map Wrd.v).take 12)) ?h0]
   case h0=>rfl
   ·have C:z8 nonce 0=some (kN nonce 0:Int):=(kN_ok nonce 0 (by omega) (by omega)).1;have D:z8 nonce 4=some (kN nonce 1:Int):=(kN_ok nonce 1 (by omega) (by omega)).1;have E:z8 nonce 8=some (kN nonce 2:Int):=(kN_ok nonce 2 (by omega) (by omega)).1;have F:app 8 (((firstN key counter nonce 3).map Wrd.v).take 12) [counter,(kN nonce 0:Int),(kN nonce 1:Int),(kN nonce 2:Int)]=some ((firstN key counter nonce 3).map Wrd.v):=by rfl
    have t2:app 8 ([]:List Int) ((firstN key counter nonce 3).map Wrd.v)=some ((firstN key counter nonce 3).map Wrd.v):=by rfl
    simp only[zd,C,D,E,Lm,F,t2];generalize firstN key counter nonce 3=s at g;rw[zo (λk=>((k:Int),(roundsW s k).map Wrd.v)) 10 (r:=Ctl.go ((roundsW s 10).map Wrd.v)) ?h1]
    case h1=>rfl
    ·have U:=zeT g 10;simp only[zd];generalize roundsW s 10=w at U;rw[zo (λk=>((k:Int),outW (w) s k)) 16 (r:=Ctl.go (outW (w) s 16)) ?h2]
     case h2=>rfl
     ·rfl
     ·intro k q;have t:k<(w).length:=by rw[U.1];trivial
      have u:k<s.length:=by rw[g.1];trivial
      obtain ⟨n,Z,R⟩:=zhW U.2 k t;obtain ⟨m,W,S⟩:=zhW g.2 k u;have y:=znz (w) s U.1 g.1 k (by omega);have G:idx ((w).map Wrd.v) (k:Int)=some (n:Int):=by rw[zb _ k (by simp_all)];simp_all
      have H:idx (s.map Wrd.v) (k:Int)=some (m:Int):=by rw[zb _ k (by simp_all)];simp only[Py,W]
      have I:J8 ((n:Int)+(m:Int))=((n+m:Nat):Int):=by rw[za];omega
      have J:(n+m) % 4294967296<4294967296:=Ox _ (by decide);have z:zb8 (J8 ((n:Int)+(m:Int)))=some (((n+m) % 4294967296:Nat):Int):=by rw[I];exact zoO (by omega)
      generalize K:(n+m) % 4294967296=x at J z;rw[iP (by simp only[decide_eq_true_eq];omega)];refine zr9 G (zr9 H (zr9 z ?_));have L:toU8 (iand .i64 (x:Int) (255:Int))=toU8 (x:Int):=by rw[show (255:Int)=((255:Nat):Int) from rfl,iand64 (by omega) (by decide),show x &&& 255=x % 256 from Mv x 8,znN]
      have M:toU8 (iand .i64 (ishr .i64 (x:Int) (8:Int)) 255)=toU8 ((x / 256:Nat):Int):=by rw[show ishr .i64 (x:Int) (8:Int)=((x / 256:Nat):Int) from zdz (n:=8) (by decide),show (255:Int)=((255:Nat):Int) from rfl,iand64 (by omega) (by decide),show x / 256 &&& 255=x / 256 % 256 from Mv _ 8,znN]
      have N:toU8 (iand .i64 (ishr .i64 (x:Int) (16:Int)) 255)=toU8 ((x / 65536:Nat):Int):=by rw[show ishr .i64 (x:Int) (16:Int)=((x / 65536:Nat):Int) from zdz (n:=16) (by decide),show (255:Int)=((255:Nat):Int) from rfl,iand64 (by omega) (by decide),show x / 65536 &&& 255=x / 65536 % 256 from Mv _ 8,znN]
      have O:ishr .i64 (x:Int) (24:Int)=((x / 16777216:Nat):Int):=zdz (n:=24) (by decide);rw[L,M,N,O,za,ze (by rw[y];simp;omega) (by rw[y];simp;omega)];simp only[Lm];rw[zoW _ _ k t u,Z,W,show ((n:Int)+(m:Int)).toNat=n+m by omega,K];rfl
     ·simp
    ·intro k q;simp only;rw[iP (by simp only[decide_eq_true_eq];omega),za (n:=(k:Int)+1)];exact zx7 (zeT g k) (λV=>some (Ctl.go ((k:Int)+1,V)))
    ·simp
   ·intro k q;have P:J8 ((4:Int)*(k:Int))=((4*k:Nat):Int):=by rw[za];omega
    simp only[P,(kN_ok key k (by omega) (by omega)).1,Lm];rw[iP (by simp only[decide_eq_true_eq];omega),za,ze (by rw[Nb];simp;omega) (by rw[Nb];simp;omega)];have Q:k=0\/k=1\/k=2\/k=3\/k=4\/k=5\/k=6\/k=7:=by omega
    unfold firstN;rcases Q with rfl | rfl | rfl | rfl | rfl | rfl | rfl | rfl
    ·generalize kN nonce 0=a;generalize kN nonce 1=b;generalize kN nonce 2=c;generalize kN key 0=d;generalize kN key 1=e;generalize kN key 2=y2;generalize kN key 3=f;generalize kN key 4=h;generalize kN key 5=i;generalize kN key 6=j;generalize kN key 7=l;rfl
    ·generalize kN nonce 0=a;generalize kN nonce 1=b;generalize kN nonce 2=c;generalize kN key 0=d;generalize kN key 1=e;generalize kN key 2=y2;generalize kN key 3=f;generalize kN key 4=h;generalize kN key 5=i;generalize kN key 6=j;generalize kN key 7=l;rfl
    ·generalize kN nonce 0=a;generalize kN nonce 1=b;generalize kN nonce 2=c;generalize kN key 0=d;generalize kN key 1=e;generalize kN key 2=y2;generalize kN key 3=f;generalize kN key 4=h;generalize kN key 5=i;generalize kN key 6=j;generalize kN key 7=l;rfl
    ·generalize kN nonce 0=a;generalize kN nonce 1=b;generalize kN nonce 2=c;generalize kN key 0=d;generalize kN key 1=e;generalize kN key 2=y2;generalize kN key 3=f;generalize kN key 4=h;generalize kN key 5=i;generalize kN key 6=j;generalize kN key 7=l;rfl
    ·generalize kN nonce 0=a;generalize kN nonce 1=b;generalize kN nonce 2=c;generalize kN key 0=d;generalize kN key 1=e;generalize kN key 2=y2;generalize kN key 3=f;generalize kN key 4=h;generalize kN key 5=i;generalize kN key 6=j;generalize kN key 7=l;rfl
    ·generalize kN nonce 0=a;generalize kN nonce 1=b;generalize kN nonce 2=c;generalize kN key 0=d;generalize kN key 1=e;generalize kN key 2=y2;generalize kN key 3=f;generalize kN key 4=h;generalize kN key 5=i;generalize kN key 6=j;generalize kN key 7=l;rfl
    ·generalize kN nonce 0=a;generalize kN nonce 1=b;generalize kN nonce 2=c;generalize kN key 0=d;generalize kN key 1=e;generalize kN key 2=y2;generalize kN key 3=f;generalize kN key 4=h;generalize kN key 5=i;generalize kN key 6=j;generalize kN key 7=l;rfl
    ·generalize kN nonce 0=a;generalize kN nonce 1=b;generalize kN nonce 2=c;generalize kN key 0=d;generalize kN key 1=e;generalize kN key 2=y2;generalize kN key 3=f;generalize kN key 4=h;generalize kN key 5=i;generalize kN key 6=j;generalize kN key 7=l;rfl
   ·simp
def fixV (n:Nat):Nat->J3
 | 0=>[]
 | j+1=>toU8 ((n / 256 ^ j:Nat):Int)::fixV n j
def zqb (n:Nat): ∀j,(fixV n j).length=j
 | 0=>rfl
 | j+1=>by rw[fixV,Nu,zqb n j]
def zor (n b j:Nat):n / b ^ j / b=n / b ^ (j+1):=by rw[Nat.div_div_eq_div_mul,Pl]
def fixedV (n w:Int):J3:=bif Dc (1<=w/\w<=7)&&(Dc (0<=n)&&Dc (n.toNat / 256 ^ w.toNat=0)) then fixV n.toNat w.toNat else []
theorem zur (n w:Int) (e:n<=4611686018427387904):zkx n w=some (fixedV n w):=by
 unfold zkx fixedV;rw[zW];by_cases a:1<=w/\w<=7
 ·rw[dT a];by_cases b:0<=n
  ·obtain ⟨m,rfl⟩: ∃m:Nat,n=(m:Int):=⟨n.toNat,by omega⟩;obtain ⟨u,rfl⟩: ∃u:Nat,w=(u:Int):=⟨w.toNat,by omega⟩;rw[dT b,dF];simp only[Lm,Ly,Lo,iF,Mg];rw[zo (λj=>(((m / 256 ^ j:Nat):Int),fixV m j,(j:Int))) u (r:=Ctl.go (((m / 256 ^ u:Nat):Int),fixV m u)) ?h0]
   case h0=>simp[fixV]
   ·simp only[zd];grind
   ·intro j f;have c:Nh ((m / 256 ^ j:Nat):Int) (256:Int)=((m / 256 ^ j % 256:Nat):Int):=by rfl
    have d:Ps ((m / 256 ^ j:Nat):Int) (256:Int)=((m / 256 ^ (j+1):Nat):Int):=by rw[show (256:Int)=((256:Nat):Int) from rfl,<-Int.ofNat_tdiv,zor]
    have g:((m / 256 ^ (j+1):Nat):Int)<=(m:Int):=Int.ofNat_le.2 (Ph _ _);have h:(0:Int)<=((m / 256 ^ (j+1):Nat):Int):=Int.natCast_nonneg _;have hl:=zqb m j;simp only[c,d,znN];rw[iP,za (n:=(j:Int)+1),za];rw[zbZ (by grind)];rfl
   ·simp
  ·grind
 ·grind
theorem zuc (n w:Int) (k:n<=4611686018427387904):zkq n w=some (fixedV n w):=by
 unfold zkq fixedV;rw[zY];by_cases a:1<=w/\w<=7
 ·rw[dT a];by_cases b:0<=n
  ·obtain ⟨m,rfl⟩: ∃m:Nat,n=(m:Int):=⟨n.toNat,by omega⟩;obtain ⟨u,rfl⟩: ∃u:Nat,w=(u:Int):=⟨w.toNat,by omega⟩;have c:IntKind.u64.wrap (J8 ((8:Int)*(u:Int)))=((8*u:Nat):Int):=by rw[za,wrap64u];omega
   have d:ishr .i64 (m:Int) ((8*u:Nat):Int)=((m / 256 ^ u:Nat):Int):=by rw[zdz (by show 8*u<=64;omega),Nat.pow_mul]
   have e:Dc (((m / 256 ^ u:Nat):Int)=0)=Dc (m / 256 ^ u=0):=decide_eq_decide.2 (by omega);rw[dT b,dF];simp only[Lm,Ly,Lo,iF,Mg,c,d,e];by_cases f:m / 256 ^ u=0
   ·rw[dT f];simp only[Ly,Lo,iF,Nm,cT];rw[zAf (by omega) (by omega)];simp only[Lm];rw[zo (λj=>(((m / 256 ^ j:Nat):Int),(u:Int) - 1 - (j:Int),Po (u - j) (0:UInt8)++fixV m j)) u (r:=Ctl.go (fixV m u)) ?h0]
    case h0=>rw[za];simp[fixV]
    ·rfl
    ·intro j l;have g:ishr .i64 ((m / 256 ^ j:Nat):Int) (8:Int)=((m / 256 ^ (j+1):Nat):Int):=by rw[show ishr .i64 ((m / 256 ^ j:Nat):Int) (8:Int)=((m / 256 ^ j / 256:Nat):Int) from zdz (n:=8) (by decide),zor]
     have hl:=zqb m j;have hi:(u:Int) - 1 - (j:Int)=((u - 1 - j:Nat):Int):=by omega
     have h:u - 1 - j<(Po (u - j) (0:UInt8)++fixV m j).length:=by grind
     have i:(Po (u - j) (0:UInt8)++fixV m j).set (u - 1 - j) (toU8 ((m / 256 ^ j:Nat):Int))=Po (u - (j+1)) (0:UInt8)++fixV m (j+1):=by rw[show u - j=(u - (j+1))+1 by omega,List.replicate_succ',Mh,show u - 1 - j=u - (j+1) by omega,Om _ _ (by simp)];simp[fixV]
     simp only[hi,g,zb _ _ h,Lm,Mg,i];rw[iP (by rfl),za];grind
    ·grind
   ·grind
  ·grind
 ·grind
def varN:Nat->Nat->J3
 | 0,n=>[toU8 (n:Int)]
 | f+1,n=>bif Dc (n<128) then [toU8 (n:Int)] else toU8 ((128+n % 128:Nat):Int)::varN f (n / 128)
def zh6 {f:Nat} (h:n<128):varN f n= [toU8 (n:Int)]:=by
 cases f with
 | zero=>rfl
 | succ f=>rw[varN,dT h];rfl
def zkO {f:Nat} (h:128<=n):varN (f+1) n=toU8 ((128+n % 128:Nat):Int)::varN f (n / 128):=by rw[varN,dF];rfl
theorem zv4 {body:Int × J3->Option (Ctl (Int × J3) (Ctl (Int × J3) J3))} (b: ∀(n:Nat) (A:J3),128<=n->n<562949953421312->A.length<=100->body ((n:Int),A)=some (.go (((n / 128:Nat):Int),A++ [toU8 ((128+n % 128:Nat):Int)]))) (a: ∀(n:Nat) (A:J3),n<128->body ((n:Int),A)=some (.done (.go ((n:Int),A)))):
 ∀(f n:Nat) (A:J3),n<128 ^ (f+1)->n<562949953421312->A.length+f<=100->∃(m:Nat) (B:J3),loopO body ((n:Int),A)=some (.go ((m:Int),B))/\B++ [toU8 (m:Int)]=A++varN f n/\B.length<=100:=by
 intro f;induction f with
 | zero=>
   intro n A c _ d;have e:n<128:=by trivial
   exact ⟨n,A,by rw[zE,a n A e],by rfl,by omega⟩
 | succ f ih=>
   intro n A c g d;by_cases h:n<128
   ·exact ⟨n,A,by rw[zE,a n A h],by rw[zh6 h],by omega⟩
   ·have i:n / 128<128 ^ (f+1):=by omega
    obtain ⟨m,B,l,j,k⟩:=ih (n / 128) (A++ [toU8 ((128+n % 128:Nat):Int)]) i (by omega) (by grind);refine ⟨m,B,?_,?_,k⟩
    ·rw[zE,b n A (by omega) g (by omega)];trivial
    ·rw[j,zkO (by omega),Mh];rfl
def varV (n:Int):J3:=bif Dc (0<=n/\n<=562949953421311) then varN 6 n.toNat else []
theorem zju (n:Int):zfq n=some (varV n):=by
 unfold zfq varV;rw[zW];by_cases h:0<=n/\n<=562949953421311
 ·rw[dT h];obtain ⟨m,rfl⟩: ∃m:Nat,n=(m:Int):=⟨n.toNat,by omega⟩;simp only[Lm,Ly,Lo,iF,cT,Mg];obtain ⟨p,D,a,b,e⟩:=zv4 (body:=λ(A:Int × J3)=>if Dc (A.1>=128)then Bd0 (app 1 A.2 ([toU8 (J8 ((128:Int)+(Nh A.1 128)))])) λB=>some (.go (J8 (Ps A.1 128),B))else some (.done (.go (A.1,A.2)))) (by
   intro n D f g i;have c:Nh (n:Int) (128:Int)=((n % 128:Nat):Int):=by rfl
   have t2:Ps (n:Int) (128:Int)=((n / 128:Nat):Int):=by rfl
   have d:J8 ((128:Int)+((n % 128:Nat):Int))=((128+n % 128:Nat):Int):=by rw[za];omega
   simp only[c,t2,d];rw[iP (by grind),ze (by grind) (by simp;omega),za];rfl) (by
   grind) 6 m [] (by omega) (by omega) (by simp)
  rw[a];simp only[zd];rw[ze (by grind) (by grind),b];rfl
 ·grind
def or128 (m:Nat) (h:m<128):128 ||| m=128+m:=by have:=Pp (i:=7) (b:=m) h 1;simp_all
theorem zma (n:Int):zhK n=some (varV n):=by
 unfold zhK varV;rw[zY];by_cases h:0<=n/\n<=562949953421311
 ·rw[dT h];obtain ⟨m,rfl⟩: ∃m:Nat,n=(m:Int):=⟨n.toNat,by omega⟩;simp only[Lm,Ly,Lo,iF,cT,Mg];obtain ⟨p,D,a,b,f⟩:=zv4 (body:=λ(A:Int × J3)=>if Dc (A.1>127)then Bd0 (app 1 A.2 ([toU8 (ior .i64 (128:Int) (iand .i64 A.1 127))])) λB=>some (.go (ishr .i64 A.1 7,B))else some (.done (.go (A.1,A.2)))) (by
   intro n D g i j;have c:iand .i64 (n:Int) (127:Int)=((n % 128:Nat):Int):=by rw[show (127:Int)=((127:Nat):Int) from rfl,iand64 (by omega) (by decide),show n &&& 127=n % 128 from Mv n 7]
   have t2:ishr .i64 (n:Int) (7:Int)=((n / 128:Nat):Int):=zdz (n:=7) (by decide);have d:n % 128<128:=Ox _ (by decide);have e:ior .i64 (128:Int) ((n % 128:Nat):Int)=((128+n % 128:Nat):Int):=by rw[show (128:Int)=((128:Nat):Int) from rfl,ior64 (by decide) (by omega),or128 _ d]
   simp only[c,t2,e];rw[iP (by grind),ze (by grind) (by simp;omega)];rfl) (by
   grind) 6 m [] (by omega) (by omega) (by simp)
  rw[a];simp only[zd];rw[ze (by grind) (by grind),b];rfl
 ·grind
def numV:J3->Nat
 | []=>0
 | x::l=>x.toNat % 128+128*numV l
def zkM: ∀(l:J3),numV l<128 ^ l.length
 | []=>by decide
 | x::l=>by have:=zkM l;have a:x.toNat % 128<128:=Ox _ (by decide);rw[numV,Nu,Pl];omega
def ztA: ∀(l:J3) (x:UInt8),numV (l++ [x])=numV l+128 ^ l.length*(x.toNat % 128)
 | [],x=>by simp[numV]
 | y::l,x=>by rw[Ng,numV,numV,ztA l x,Nu,Pl,Nat.mul_add,Rr (128 ^ l.length) 128,Nat.mul_assoc];omega
def readN:Nat->J3->Option (Nat × Nat)
 | 0,_=>none
 | _+1,[]=>none
 | f+1,x::l=>bif Dc (x.toNat<128) then some (x.toNat,1) else match readN f l with
   | some (m,k)=>bif Dc (m=0) then none else some (x.toNat % 128+128*m,k+1)
   | none=>none
def zg2 (n:Nat):(toU8 (n:Int)).toNat=n % 256:=by unfold toU8;simp;omega
def zpv (x:UInt8):toU8 (x.toNat:Int)=x:=by have:=x.toNat_lt;apply UInt8.toNat_inj.1;rw[zg2];omega
def zpu {l:List α} {j:Nat} (a:1<=j) (b:j<=l.length):l.take j≠[]:=by intro e;have:=congrArg Nv e;simp_all
def zqd (f:Nat) (x:UInt8):varN f (numV [x])= [x]↔x.toNat<128:=by
 have a:x.toNat % 128<128:=Ox _ (by decide);rw[show numV [x]=x.toNat % 128 by rfl,zh6 a];constructor
 ·intro h;have b:toU8 ((x.toNat % 128:Nat):Int)=x:=by simp_all
  have c:=congrArg Ru b;rw[zg2]at c;omega
 ·intro h;rw[Nj h,zpv]
theorem zlz (f:Nat) (x:UInt8) (l:J3) (hl:l≠[]):varN (f+1) (numV (x::l))=x::l↔128<=x.toNat/\numV l≠0/\varN f (numV l)=l:=by
 have i:x.toNat % 128<128:=Ox _ (by decide);have j:=x.toNat_lt;have c:(x.toNat % 128+128*numV l) % 128=x.toNat % 128:=by omega
 have d:(x.toNat % 128+128*numV l) / 128=numV l:=by omega
 by_cases e:numV l=0
 ·rw[numV,e,zh6 (by omega)];simp_all
 ·rw[numV,zkO (by omega),c,d];constructor
  ·intro h;obtain ⟨a,b⟩:=List.cons.inj h;have g:=congrArg Ru a;rw[zg2]at g;grind
  ·rintro ⟨a,_,b⟩;rw[b,show 128+x.toNat % 128=x.toNat by omega,zpv]
theorem zeb: ∀(f:Nat) (s:J3) (n k:Nat),readN f s=some (n,k)->1<=k/\k<=f/\k<=s.length/\n=numV (s.take k)/\varN (f - 1) n=s.take k/\∀g j,1<=j->j<=g+1->j<=s.length->varN g (numV (s.take j))=s.take j->j=k
 | 0,s,n,k,h=>by cases h
 | f+1,[],n,k,h=>by cases h
 | f+1,x::l,n,k,h=>by
   rw[readN]at h;by_cases b:x.toNat<128
   ·rw[dT b]at h;simp only[cT,Qw,Rn]at h;obtain ⟨rfl,rfl⟩:=h;have c:x.toNat % 128=x.toNat:=Nj b;refine ⟨Mf _,by omega,by simp,by simp[numV,c],?_,λg j i o q a=>?_⟩
    ·have:=(zqd (f+1 - 1) x).2 b;rw[show numV [x]=x.toNat by trivial]at this;trivial
    ·cases j with
     | zero=>omega
     | succ j=>
       cases j with
       | zero=>rfl
       | succ j=>
         cases g with
         | zero=>omega
         | succ g=>rw[Nr]at a;have:=(zlz g x (l.take (j+1)) (zpu (by omega) (by simp_all))).1 a;omega
   ·rw[dF b]at h;simp only[cF]at h;cases d:readN f l with
    | none=>rw[d]at h;cases h
    | some p=>
      obtain ⟨m,k'⟩:=p;rw[d]at h;simp only at h;by_cases c:m=0
      ·simp_all
      ·rw[dF c]at h;simp only[cF,Qw,Rn]at h;obtain ⟨rfl,rfl⟩:=h;obtain ⟨t,z,u,e,v,A⟩:=zeb f l m k' d;have w:l.take k'≠[]:=zpu t u;refine ⟨by omega,by omega,by simp_all,by rw[Nr,numV,<-e],?_,λg j i o q a=>?_⟩
       ·rw[Nr,Qp];obtain ⟨B,rfl⟩: ∃B,f=B+1:=⟨f - 1,by omega⟩;rw[Qp]at v;have:=(zlz B x (l.take k') w).2 ⟨by omega,by omega,by simp_all⟩;rw[numV,<-e]at this;trivial
       ·cases j with
        | zero=>omega
        | succ j=>
          cases j with
          | zero=>rw[Nr,Qg]at a;exact absurd ((zqd g x).1 a) b
          | succ j=>
            cases g with
            | zero=>omega
            | succ g=>
              rw[Nr]at a;have y:j+1<=l.length:=by simp_all
              have:=(zlz g x (l.take (j+1)) (zpu (by omega) y)).1 a;grind
theorem zry: ∀(f:Nat) (s:J3),readN f s=none->∀g j,1<=j->j<=f->j<=g+1->j<=s.length->varN g (numV (s.take j))≠s.take j
 | 0,s,h=>λg j c d=>by omega
 | f+1,[],h=>λg j c d k n=>by simp_all
 | f+1,x::l,h=>by
   intro g j q t u v a;rw[readN]at h;by_cases e:x.toNat<128
   ·simp_all
   ·rw[dF e]at h;simp only[cF]at h;cases j with
    | zero=>omega
    | succ j=>
      cases j with
      | zero=>rw[Nr,Qg]at a;exact e ((zqd g x).1 a)
      | succ j=>
        cases g with
        | zero=>omega
        | succ g=>
          rw[Nr]at a;have i:j+1<=l.length:=by simp_all
          obtain ⟨w,y,o⟩:=(zlz g x (l.take (j+1)) (zpu (by omega) i)).1 a;cases b:readN f l with
          | none=>exact zry f l b g (j+1) (by omega) (by omega) (by omega) i o
          | some p=>
            obtain ⟨m,k'⟩:=p;rw[b]at h;simp only at h;by_cases z:m=0
            ·obtain ⟨c,d,k,n,A,B⟩:=zeb f l m k' b;grind
            ·simp_all
def readR:Option (Nat × Nat)->Int × Int
 | some (n,k)=>((n:Int),(k:Int))
 | none=>(0,0)
def readI (n i:Nat):Option (Nat × Nat)->Int × Int
 | some (m,k)=>bif Dc (m=0/\0<i) then (0,0) else (((n+128 ^ i*m:Nat):Int),((i+k:Nat):Int))
 | none=>(0,0)
def zxS (p:Option (Nat × Nat)):readI 0 0 p=readR p:=by
 cases p with
 | none=>rfl
 | some p=>simp[readI,readR]
theorem zxR (n i f:Nat) (x:UInt8) (l:J3) (b: ¬x.toNat<128):readI n i (readN (f+1) (x::l))=readI (n+128 ^ i*(x.toNat % 128)) (i+1) (readN f l):=by
 rw[readN,dF b];simp only[cF];cases readN f l with
 | none=>rfl
 | some p=>
   obtain ⟨m,k⟩:=p;simp only;by_cases a:m=0
   ·simp[a,readI]
   ·rw[dF a];simp only[cF,readI];grind
def zBz (n d i:Nat) (h:n<2 ^ (7*i)):n ||| d*2 ^ (7*i)=n+2 ^ (7*i)*d:=by rw[Nat.or_comm,Rr,<-Pp h];omega
def pow128 (i:Nat):128 ^ i=2 ^ (7*i):=by rw[Nat.pow_mul]
def zig (s:J3) (hs:s.length<=1099511627776):zif s=some (readR (readN 7 s)):=by
 unfold zif;obtain ⟨r,l,m⟩:=z7 (ρ:=Ctl Unit (Int × Int)) (s0:=((0:Int),(0:Int))) (body:=λ(S1:Int × Int)=>Bd0 (if Dc (S1.2<7)then some (Dc (S1.2<(s.length:Int)))else some false) (λ(D:Bool)=>if D=true then Bd0 (sidx s S1.2) λA=>if Dc (((A.toNat:Nat):Int)>=128)then some (.go (ior .i64 S1.1 (ishl .i64 (J8 (iand .u8 (A.toNat:Int) (127:Int))) (IntKind.u64.wrap (J8 ((7:Int)*S1.2)))),J8 (S1.2+1)))else Bd0 (if Dc (((A.toNat:Nat):Int)=0)then some (Dc (S1.2>0))else some false) (λ(B:Bool)=>if B=true then some (.done (.done ((0:Int),(0:Int))))else some (.done (.done (ior .i64 S1.1 (ishl .i64 (J8 (iand .u8 (A.toNat:Int) (127:Int))) (IntKind.u64.wrap (J8 ((7:Int)*S1.2)))),J8 (S1.2+1)))))else some (.done (.go ()))))
  (λi S=>S.1=(numV (s.take i):Int)/\S.2=(i:Int)/\i<=s.length/\readR (readN 7 s)=readI (numV (s.take i)) i (readN (7 - i) (s.drop i))) 7 (λr=>r= .done (readR (readN 7 s))\/(r= .go ()/\readR (readN 7 s)=(0,0))) ⟨by simp[numV],rfl,Oz _,by simp[numV,zxS]⟩ (by
    rintro i ⟨n,j⟩ hi ⟨a,b,c,d⟩;simp only at a b;subst a b;rw[d];simp only;rw[dT (by omega:((i:Int)<7))];simp only[iT,Lm];by_cases hl:i<s.length
    ·have e:s.drop i=s[i]::s.drop (i+1):=Ls hl;have o:s.take (i+1)=s.take i++ [s[i]]:=by rw[Og,Mm hl];rfl
     have v:=s[i].toNat_lt;have g:=zkM (s.take i);rw[Nb,Oa c,pow128]at g;have p:2 ^ (7*i)<=2 ^ 42:=Nk (by decide) (by omega);have w:s[i].toNat % 128<128:=Ox _ (by decide);have E:iand .u8 (s[i].toNat:Int) (127:Int)=((s[i].toNat % 128:Nat):Int):=by rw[show (127:Int)=((127:Nat):Int) from rfl,iand8 (by omega) (by decide),show s[i].toNat &&& 127=s[i].toNat % 128 from Mv _ 7]
     have F:IntKind.u64.wrap (J8 ((7:Int)*(i:Int)))=((7*i:Nat):Int):=by rw[za,wrap64u];omega
     have x:s[i].toNat % 128*2 ^ (7*i)<=127*2 ^ 42:=Nat.mul_le_mul (by omega) p;have G:ior .i64 (numV (s.take i):Int) (ishl .i64 (J8 ((s[i].toNat % 128:Nat):Int)) ((7*i:Nat):Int))=((numV (s.take i)+128 ^ i*(s[i].toNat % 128):Nat):Int):=by rw[za,ishl64 (by omega) (by omega),ior64 (by omega) (by omega),zBz _ _ _ g,pow128]
     rw[dT (by omega:(i:Int)<(s.length:Int)),zc6 s i hl,e];simp only[iT,Lm,E,F,G];rw[za,show 7 - i=(7 - (i+1))+1 by omega];by_cases f:s[i].toNat<128
     ·right;refine ⟨_,?_,.inl rfl⟩;rw[dF (by omega: ¬(s[i].toNat:Int)>=128),readN,dT f];simp only[Lo,iF,cT,readI];have q:s[i].toNat % 128=s[i].toNat:=Nj f;rw[q];by_cases t:s[i].toNat=0
      ·by_cases u:0<i
       ·rw[dT (⟨t,u⟩:s[i].toNat=0/\0<i),dT (by omega:(s[i].toNat:Int)=0),dT (by omega:(i:Int)>0)];rfl
       ·rw[dF (by omega: ¬(s[i].toNat=0/\0<i)),dT (by omega:(s[i].toNat:Int)=0),dF (by omega: ¬(i:Int)>0)];rfl
      ·rw[dF (by omega: ¬(s[i].toNat=0/\0<i)),dF (by omega: ¬(s[i].toNat:Int)=0)];rfl
     ·left;rw[dT (by omega:(s[i].toNat:Int)>=128)];have k:numV (s.take (i+1))=numV (s.take i)+128 ^ i*(s[i].toNat % 128):=by rw[o,ztA,Nb,Oa c]
      refine ⟨(_,_),rfl,by rw[k],by simp,by omega,?_⟩;rw[zxR _ _ _ _ _ f,k]
    ·right;have e:s.drop i= []:=List.drop_eq_nil_of_le (by omega);rw[dF (by omega: ¬(i:Int)<(s.length:Int)),e,show 7 - i=(7 - (i+1))+1 by omega];exact ⟨.go (),rfl,.inr ⟨rfl,rfl⟩⟩) (by
    rintro ⟨n,j⟩ ⟨a,b,c,d⟩;simp only at a b;subst a b;exact ⟨.go (),rfl,.inr ⟨rfl,d⟩⟩)
 rw[l];rcases m with rfl | ⟨rfl,h⟩
 ·rfl
 ·rw[h];rfl
def zfs (s:J3) (a b:Nat) (c:a<=b) (d:b<=s.length):ssub s (a:Int) (b:Int)=some ((s.drop a).take (b - a)):=by unfold ssub;simp_all
def zji (s:J3) (a:Nat) (h:a<=s.length):ssub s (a:Int) (s.length:Int)=some (s.drop a):=by rw[zfs s a s.length h (Mf _),Lv (by simp)]
theorem zAg (s:J3) (k:Nat) (d:1<=k) (e:k<=7) (f:k<=s.length):
 loopO (ρ:=Ctl Int ρ) (λ(A:Int × Int)=>if Dc (A.2>=0)then Bd0 (sidx s A.2) λB=>some (.go (J8 (J8 (A.1*128)+(Nh (J8 (B.toNat:Int)) 128)),J8 (A.2 - 1)))else some (.done (.go A.1)))
 ((0:Int),(k:Int) - 1)=some (.go (numV (s.take k):Int)):=by
 have g:(s.take k).length=k:=by simp_all
 rw[zo (λt=>((numV ((s.take k).drop (k - t)):Int),(k:Int) - 1 - (t:Int))) k (r:=Ctl.go (numV (s.take k):Int)) ?h0]
 case h0=>rw[show k - 0=k by omega,Ml (by omega)];simp[numV]
 ·intro t h;have hi:(k:Int) - 1 - (t:Int)=((k - 1 - t:Nat):Int):=by omega
  have b:(s.take k).drop (k - (t+1))=s[k - 1 - t]::(s.take k).drop (k - t):=by rw[show k - (t+1)=k - 1 - t by omega,Ls (by omega),Oi];grind
  have i:=(s[k - 1 - t]).toNat_lt;have a:=zkM ((s.take k).drop (k - t));have hl:((s.take k).drop (k - t)).length=t:=by grind
  rw[hl]at a;have j:128 ^ t<=128 ^ 6:=Nk (by decide) (by omega);have c:Nh (((s[k - 1 - t]).toNat:Nat):Int) (128:Int)=(((s[k - 1 - t]).toNat % 128:Nat):Int):=by rfl
  simp only[hi,zc6 s (k - 1 - t) (by omega),Lm];rw[iP (by rfl),za (n:=(((s[k - 1 - t]).toNat:Nat):Int)) (by omega) (by omega),c,b,numV];generalize numV ((s.take k).drop (k - t))=z at a;rw[za (n:=(z:Int)*128),za,za];grind
 ·grind
def zrK (s:J3) (hs:s.length<=1099511627776):zgq s=some (readR (readN 7 s)):=by
 unfold zgq;obtain ⟨r,a,m⟩:=z7 (ρ:=Ctl Unit (Int × Int)) (s0:=(1:Int)) (body:=λ(S1:Int)=>Bd0 (if Dc (S1<=7)then some (Dc (S1<=(s.length:Int)))else some false) (λ(G:Bool)=>if G=true then bindC (loopO (λ(A:Int × Int)=>if Dc (A.2>=0)then Bd0 (sidx s A.2) λD=>some (.go (J8 (J8 (A.1*128)+(Nh (J8 (D.toNat:Int)) 128)),J8 (A.2 - 1)))else some (.done (.go A.1))) ((0:Int),J8 (S1 - 1))) (λ(B:Int)=>Bd0 (ssub s 0 S1) λE=>Bd0 (zfq B) λF=>if Dc (F=E)then some (.done (.done (B,S1)))else some (.go (J8 (S1+1))))else some (.done (.go ()))))
  (λi S=>S=((i+1:Nat):Int)/\∀j,1<=j->j<=i->j<=s.length->varN 6 (numV (s.take j))≠s.take j) 7 (λr=>(∃n k,readN 7 s=some (n,k)/\r= .done ((n:Int),(k:Int)))\/(readN 7 s=none/\r= .go ())) ⟨rfl,λj b l=>by omega⟩ (by
    rintro i S hi ⟨rfl,h⟩;rw[dT (by omega:((i+1:Nat):Int)<=7)];simp only[iT,Lm];by_cases hl:i+1<=s.length
    ·rw[dT (by omega:((i+1:Nat):Int)<=(s.length:Int)),za (n:=((i+1:Nat):Int) - 1)];simp only[iT];rw[zAg s (i+1) (by omega) (by omega) hl];have o:ssub s 0 ((i+1:Nat):Int)=some (s.take (i+1)):=zfs s 0 (i+1) (by omega) hl;have q:=zkM (s.take (i+1));rw[Nb,Oa hl]at q;have v:128 ^ (i+1)<=128 ^ 7:=Nk (by decide) (by omega);have t:varV (numV (s.take (i+1)):Int)=varN 6 (numV (s.take (i+1))):=by unfold varV;rw[dT,cond_true,Mg]
     simp only[zd,o,Lm,zju,t];by_cases c:varN 6 (numV (s.take (i+1)))=s.take (i+1)
     ·right;rw[dT c];refine ⟨_,rfl,.inl ⟨numV (s.take (i+1)),i+1,?_,rfl⟩⟩;cases a:readN 7 s with
      | none=>exact absurd c (zry 7 s a 6 (i+1) (by omega) (by omega) (by omega) hl)
      | some p=>obtain ⟨n,k⟩:=p;obtain ⟨_,_,_,d,_,u⟩:=zeb 7 s n k a;have:=u 6 (i+1) (by omega) (by omega) hl c;subst this;rw[d]
     ·left;rw[dF c];refine ⟨_,rfl,by rw[za];omega,λj b l f=>?_⟩;by_cases e:j=i+1
      ·subst e;exact c
      ·exact h j b (by omega) f
    ·right;rw[dF (by omega: ¬((i+1:Nat):Int)<=(s.length:Int))];refine ⟨.go (),rfl,.inr ⟨?_,rfl⟩⟩;cases a:readN 7 s with
     | none=>rfl
     | some p=>obtain ⟨n,k⟩:=p;obtain ⟨b,_,f,d,g,_⟩:=zeb 7 s n k a;rw[d]at g;exact absurd g (h k b (by omega) f)) (by
    rintro S ⟨rfl,h⟩;refine ⟨.go (),rfl,.inr ⟨?_,rfl⟩⟩;cases a:readN 7 s with
    | none=>rfl
    | some p=>obtain ⟨n,k⟩:=p;obtain ⟨b,l,f,d,g,_⟩:=zeb 7 s n k a;rw[d]at g;exact absurd g (h k b l f))
 rw[a];rcases m with ⟨n,k,e,rfl⟩ | ⟨e,rfl⟩
 ·rw[e];rfl
 ·rw[e];rfl
def l6V (s:J3):Nat->Nat->List Int × Int
 | 0,a=>([],(a:Int))
 | n+1,a=>bif Dc (s.length<a) then ([],-1) else match readN 7 (s.drop a) with
   | some (x,k)=>((x:Int)::(l6V s n (a+k)).1,(l6V s n (a+k)).2)
   | none=>([],-1)
def zgY (s:J3) (a n:Nat) (hs:s.length<=1099511627776) (f:n<=1048576) (b:a<=2199023255552):zbQ s (a:Int) (n:Int)=some (l6V s n a):=by
 unfold zbQ;have key: ∀(m i a:Nat) (A:List Int),i+m=n->A.length=i->a<=2199023255552->
  bindC (loopO (λ(B:Int × Int × List Int)=>if Dc (B.2.1<(n:Int))then Bd0 (if Dc (B.1<0)then some true else some (Dc (B.1>(s.length:Int)))) (λ(I:Bool)=>if I=true then some (.done (.done (B.2.2,(-1:Int))))else Bd0 (ssub s B.1 (s.length:Int)) λE=>Bd0 (zgq E) λD=>if Dc (D.2=0)then some (.done (.done (B.2.2,(-1:Int))))else Bd0 (app 8 B.2.2 ([D.1])) λF=>some (.go (J8 (B.1+D.2),J8 (B.2.1+1),F)))else some (.done (.go (B.1,B.2.2))))
 ((a:Int),(i:Int),A)) (λ(G:Int × List Int)=>some (G.2,G.1))=some (A++(l6V s m a).1,(l6V s m a).2):=by
  intro m;induction m with
  | zero=>intro i a A hi c b;rw[zE];simp only;rw[iN (by simp only[decide_eq_true_eq];omega)];simp[l6V]
  | succ m ih=>
    intro i a A hi c b;rw[zE];simp only;rw[iP (by simp only[decide_eq_true_eq];omega),dF (by omega: ¬(a:Int)<0)];simp only[Lo,iF,Lm,l6V];by_cases hl:s.length<a
    ·rw[dT hl,dT (by omega:(a:Int)>(s.length:Int))];simp
    ·rw[dF hl,dF (by omega: ¬(a:Int)>(s.length:Int))];simp only[Lo,iF,zji s a (by omega),Lm,zrK (s.drop a) (by simp;omega),cF];cases d:readN 7 (s.drop a) with
     | none=>simp[readR]
     | some p=>obtain ⟨x,k⟩:=p;obtain ⟨g,h,_⟩:=zeb 7 _ x k d;have e:Dc ((readR (some (x,k))).2=0)=false:=dF (by show ¬(k:Int)=0;omega);rw[e];simp only[Lo,iF,readR];rw[ze (by simp;omega) (by simp;omega)];simp only[Lm];rw[za (n:=(a:Int)+(k:Int)),za (n:=(i:Int)+1)];have:=ih (i+1) (a+k) (A++ [(x:Int)]) (by omega) (by simp;omega) (by omega);rw[show ((a:Int)+(k:Int))=((a+k:Nat):Int) by omega,show ((i:Int)+1)=((i+1:Nat):Int) by omega,this,Mh];rfl
 have:=key n 0 a [] (by omega) rfl b;simpa using this
def nonceV (kind n:Int):J3:=bif Dc (0<=kind/\kind<=255)&&Dc (0<=n/\n<=562949953421311) then [toU8 kind,0,0,0,0]++fixedV n 7 else []
theorem zjl (n:Int) (h:0<=n/\n<=562949953421311):(fixedV n 7).length=7:=by unfold fixedV;have a:n.toNat / 256 ^ (7:Int).toNat=0:=Nat.div_eq_of_lt (by grind);rw[dT h.1,dT a];rfl
theorem ziK (kind n:Int):zeX kind n=some (nonceV kind n):=by
 unfold zeX nonceV;rw[zW,zW];by_cases b:0<=kind/\kind<=255
 ·by_cases a:0<=n/\n<=562949953421311
  ·rw[dT b,dT a];simp only[Lm,Ly,Lo,iF,Px,cT,zur n 7 (by omega)];rw[zbZ (by rw[zjl n a];simp)];rfl
  ·grind
 ·grind
theorem zie (kind n:Int):zf8 kind n=some (nonceV kind n):=by
 unfold zf8 nonceV;rw[zY,zY];by_cases b:0<=kind/\kind<=255
 ·by_cases a:0<=n/\n<=562949953421311
  ·rw[dT b,dT a];simp only[Lm,Ly,Lo,iF,Px,cT,zuc n 7 (by omega)];rw[zbZ (by rw[zjl n a];simp)];rfl
  ·grind
 ·grind
def zv3: ∀(f n:Nat),(varN f n).length<=f+1
 | 0,n=>Mf _
 | f+1,n=>by
   by_cases h:n<128
   ·rw[zh6 h];simp
   ·rw[zkO (by omega),Nu];have:=zv3 f (n / 128);omega
def zc9 (n:Int):(varV n).length<=7:=by
 unfold varV;cases Dc (0<=n/\n<=562949953421311)
 ·simp
 ·exact zv3 6 _
def mintOk (secret:J3) (t e:Int):Bool:=Dc (secret.length=32)&&(Dc (1<=t/\t<=99)&&Dc (0<=e/\e<=1000000))
def znx {t e:Int} (h:mintOk secret t e=true):secret.length=32/\(1<=t/\t<=99)/\0<=e/\e<=1000000:=by unfold mintOk at h;simp_all
def mintV (secret:J3) (t e:Int):J3:=bif mintOk secret t e then varV t++varV e++(chaV secret e (nonceV 2 t)).take 8 else []
theorem zqq {t e:Int} (h:mintOk secret t e=true):(chaV secret e (nonceV 2 t)).length=64:=by
 obtain ⟨a,b,c⟩:=znx h;refine zkR _ _ _ ?_;have d:(nonceV 2 t).length=12:=by unfold nonceV;rw[dT (by trivial),dT];simp only[Px,cT,Lr,zjl t (by omega)];rfl
 unfold chaOk;grind
theorem zcD (secret:J3) (t e:Int):zbX secret t e=some (mintV secret t e):=by
 unfold zbX mintV;have b:Dc ((secret.length:Int)=32)=Dc (secret.length=32):=decide_eq_decide.2 (by omega);rw[b,zW,zW];cases a:mintOk secret t e with
 | true=>have g:=zqq a;obtain ⟨c,d,f⟩:=znx a;have h:=zc9 t;have i:=zc9 e;rw[dT c,dT d,dT f];simp only[Lm,Ly,Lo,iF,cT,zju,ziK,zhN];rw[zbZ (by omega)];simp only[Lm];rw[show ssub (chaV secret e (nonceV 2 t)) 0 8=some ((chaV secret e (nonceV 2 t)).take 8) from zfs _ 0 8 (by omega) (by omega)];simp only[Lm];rw[zbZ (by grind)];rfl
 | false=>unfold mintOk at a;grind
theorem zcC (secret:J3) (t e:Int):zcg secret t e=some (mintV secret t e):=by
 unfold zcg mintV zbz zdV;have b:Dc ((secret.length:Int)=32)=Dc (secret.length=32):=decide_eq_decide.2 (by omega);rw[b,zY,zY];cases a:mintOk secret t e with
 | true=>have g:=zqq a;obtain ⟨c,d,f⟩:=znx a;have h:=zc9 t;have i:=zc9 e;rw[dT c,dT d,dT f];simp only[Lm,Ly,Lo,iF,cT,zma,zie,zkX];rw[zbZ (by omega)];simp only[Lm];rw[show ssub (chaV secret e (nonceV 2 t)) 0 8=some ((chaV secret e (nonceV 2 t)).take 8) from zfs _ 0 8 (by omega) (by omega)];simp only[Lm];rw[zbZ (by grind)];rfl
 | false=>unfold mintOk at a;grind
theorem zjE (h:readN 7 s=some (n,k)):varV (n:Int)=s.take k/\k<=s.length/\1<=k/\k<=7:=by obtain ⟨c,a,b,d,f,_⟩:=zeb 7 s n k h;have e:=zkM (s.take k);rw[Nb,Oa b,<-d]at e;have g:128 ^ k<=128 ^ 7:=Nk (by decide) a;refine ⟨?_,b,c,a⟩;unfold varV;grind
def tokR (secret s:J3):Int × Int × Bool:=match readN 7 s with
 | none=>(0,0,false)
 | some (t,a)=>match readN 7 (s.drop a) with
   | none=>(0,0,false)
   | some (e,_)=>bif Dc (mintV secret t e=s) then ((t:Int),(e:Int),true) else (0,0,false)
theorem zAe {t a e k2:Nat} (d:readN 7 s=some (t,a)) (f:readN 7 (s.drop a)=some (e,k2)) (b:mintV secret t e=s):s.length=a+k2+8:=by
 obtain ⟨h,i,j,_⟩:=zjE d;obtain ⟨k,g,l,_⟩:=zjE f;rw[My]at g;unfold mintV at b;cases c:mintOk secret t e with
 | false=>simp_all
 | true=>rw[c]at b;have m:=zqq c;grind
theorem zka (secret s:J3) (hs:s.length<=1099511627776):zeY secret s=some (tokR secret s):=by
 unfold zeY tokR;rw[show zbQ s 0 2=some (l6V s 2 0) from zgY s 0 2 hs (by decide) (by decide)];simp only[Lm];cases a:readN 7 s with
 | none=>
   have e:l6V s 2 0=([],-1):=by rw[l6V,dF,cond_false,Oo,a]
   simp_all
 | some p=>
   obtain ⟨t,b⟩:=p;obtain ⟨g,h,i,_⟩:=zjE a;simp only;cases j:readN 7 (s.drop b) with
   | none=>
     have e:l6V s 2 0=([(t:Int)],-1):=by rw[l6V,dF,cond_false,Oo,a];simp only[Qu,l6V];simp_all
     simp_all
   | some q=>
     obtain ⟨e,k2⟩:=q;have ev:l6V s 2 0=([(t:Int),(e:Int)],((b+k2:Nat):Int)):=by rw[l6V,dF,cond_false,Oo,a];simp only[Qu,l6V];grind
     have c: ¬s= []:=by grind
     have d:idx [(t:Int),(e:Int)] 0=some (t:Int):=rfl;have f:idx [(t:Int),(e:Int)] 1=some (e:Int):=rfl;rw[ev];simp only;rw[dF,dF c];simp only[Lo,iF,d,f,Lm,zcD];grind
theorem zj4 (secret s:J3) (hs:s.length<=1099511627776):zeI secret s=some (tokR secret s):=by
 unfold zeI tokR zbn;simp only[Lo,iF];rw[show ssub s 0 (s.length:Int)=some s from zji s 0 (Oz _)];simp only[Lm,zig s hs];cases c:readN 7 s with
 | none=>rfl
 | some p=>
   obtain ⟨t,a⟩:=p;obtain ⟨k,f,l,_⟩:=zjE c;have g:Dc ((readR (some (t,a))).2=0)=false:=dF (by show ¬(a:Int)=0;omega);rw[g];simp only[Lo,iF,Lm,readR];rw[za (n:=(0:Int)+(a:Int)),show (0:Int)+(a:Int)=((a:Nat):Int) by omega,zji s a f];simp only[Lm,zig (s.drop a) (by grind)];cases d:readN 7 (s.drop a) with
   | none=>rfl
   | some q=>
     obtain ⟨e,k2⟩:=q;obtain ⟨m,h,o,_⟩:=zjE d;rw[My]at h;have i:Dc ((readR (some (e,k2))).2=0)=false:=dF (by show ¬(k2:Int)=0;omega);rw[i];simp only[Lo,iF,Lm,readR];rw[za (n:=(a:Int)+(k2:Int))];unfold zb0 zdx;simp only[Lo,iF,Lm];rw[za (n:=(s.length:Int) - ((a:Int)+(k2:Int)))];by_cases b:mintV secret t e=s
     ·have hl:=zAe c d b;rw[dT b,dF];simp only[Lo,iF];rw[za (n:=(a:Int)+(k2:Int)+8),za (n:=(a:Int)+(k2:Int)+8 - 8)];rw[show (a:Int)+(k2:Int)+8 - 8=((a+k2:Nat):Int) by omega,show (a:Int)+(k2:Int)+8=((a+k2+8:Nat):Int) by omega,zfs s (a+k2) (a+k2+8) (by omega) (by omega)];simp only[Lm];rw[dT];simp only[Mt,Ly,iT,Lm,Lo,iF,zcC];simp_all
     ·rw[dF b];by_cases j:(8:Int)>(s.length:Int) - ((a:Int)+(k2:Int))
      ·simp_all
      ·rw[dF j];simp only[Lo,iF];rw[za (n:=(a:Int)+(k2:Int)+8),za (n:=(a:Int)+(k2:Int)+8 - 8)];rw[show (a:Int)+(k2:Int)+8 - 8=((a+k2:Nat):Int) by omega,show (a:Int)+(k2:Int)+8=((a+k2+8:Nat):Int) by omega,zfs s (a+k2) (a+k2+8) (by omega) (by omega)];simp only[Lm,zcC];simp_all
theorem passes {ρ:Type} (l:List α) (p:α->Bool) (body:Int->Option (Ctl Int (Ctl Unit Bool))) (h: ∀k (a:k<l.length),body (k:Int)=some (if p l[k]=true then .go ((k:Int)+1) else .done (.done false))) (c:body (l.length:Int)=some (.done (.go ()))):
 loopO body 0=some (if l.all p=true then .go () else .done false):=by
 rw[zcS (λk s=>s=(k:Int)/\l.all p=(l.drop k).all p) l.length (if l.all p=true then Ctl.go () else Ctl.done false) ?h0 ?h1 ?h2]
 case h0=>exact ⟨rfl,rfl⟩
 ·rintro k s a ⟨rfl,b⟩;rw[h k a,b,Ls a,Pu];grind
 ·simp_all
def pieceV (s:J3):J3:=varV (s.length:Int)++s
def zl3 (s:J3) (h:s.length<=1099511627776):ze7 s=some (pieceV s):=by unfold ze7 pieceV;have:=zc9 (s.length:Int);rw[zju];simp only[Lm];rw[zbZ (by omega)];rfl
def znZ (s:J3) (h:s.length<=1099511627776):zir s=some (pieceV s):=by unfold zir pieceV;have:=zc9 (s.length:Int);rw[zma];simp only[Lm];rw[zbZ (by omega)];rfl
def zgJ (s:J3):(pieceV s).length<=7+s.length:=by have:=zc9 (s.length:Int);unfold pieceV;simp_all
def zqc {α:Type} (g:α->J3) (m:Nat): ∀(l:List α),(∀x∈l,(g x).length<=m)->(l.flatMap g).length<=m*l.length
 | [],_=>by simp
 | x::l,h=>by have a:=h x (by simp);have b:=zqc g m l λy c=>h y (by simp_all);rw[List.flatMap_cons,Lr,Nu,Nat.mul_succ];omega
def zth (g:α->J3) (l:List α) (k:Nat) (h:k<l.length):(l.take (k+1)).flatMap g=(l.take k).flatMap g++g l[k]:=by rw[Og,Mm h,List.flatMap_append];simp
theorem znT (g:α->J3) (m:Nat) (l:List α) (k:Nat) (h: ∀x∈l,(g x).length<=m):((l.take k).flatMap g).length<=m*l.length:=by have b:=zqc g m (l.take k) λx a=>h x (List.mem_of_mem_take a);have c:m*(l.take k).length<=m*l.length:=Oy _ (by grind);omega
def zBl (f n:Nat):varN f n≠[]:=by
 by_cases h:n<128
 ·rw[zh6 h];simp
 ·cases f with
  | zero=>simp[varN]
  | succ f=>rw[zkO (by omega)];simp
def zBm {n:Int} (h:0<=n/\n<=562949953421311):varV n≠[]:=by unfold varV;rw[dT h];exact zBl 6 _
theorem ztN: ∀(f n:Nat) (rest:J3),n<128 ^ (f+1)->readN (f+1) (varN f n++rest)=some (n,(varN f n).length)
 | 0,n,rest,h=>by
   have a:n<128:=by trivial
   rw[zh6 a];show readN 1 (toU8 (n:Int)::rest)=_;rw[readN,zg2,Nj (by omega),dT a];rfl
 | f+1,n,rest,h=>by
   by_cases a:n<128
   ·rw[zh6 a];show readN (f+2) (toU8 (n:Int)::rest)=_;rw[readN,zg2,Nj (by omega),dT a];rfl
   ·have b:n / 128<128 ^ (f+1):=by omega
    rw[zkO (by omega),Ng,readN,zg2,Nj (by omega),dF,ztN f (n / 128) rest b];grind
def zo1 (n:Int) (h:0<=n/\n<=562949953421311) (rest:J3):readN 7 (varV n++rest)=some (n.toNat,(varV n).length):=by unfold varV;rw[dT h];exact ztN 6 n.toNat rest (by omega)
def zfG (h:readN 7 s=some (n,k)):n<562949953421312/\1<=k/\k<=s.length:=by obtain ⟨e,a,b,c,_,_⟩:=zeb 7 s n k h;have d:=zkM (s.take k);rw[Nb,Oa b,<-c]at d;have f:128 ^ k<=128 ^ 7:=Nk (by decide) a;omega
def rdN (t:J3) (a:Nat) (bad:Bool):Int × Nat × Bool:=bif bad then (0,a,true) else match readN 7 (t.drop a) with
 | none=>(0,a,true)
 | some (x,k)=>((x:Int),a+k,false)
theorem zjD (t:J3) (a:Nat) (bad:Bool) (h:a<=t.length):(0<=(rdN t a bad).1/\(rdN t a bad).1<=562949953421311)/\(rdN t a bad).2.1<=t.length/\((rdN t a bad).2.2=false->bad=false/\a<(rdN t a bad).2.1):=by
 unfold rdN;cases bad with
 | true=>exact ⟨⟨by simp,by simp⟩,h,λe=>by cases e⟩
 | false=>
   cases b:readN 7 (t.drop a) with
   | none=>exact ⟨⟨by simp,by simp⟩,h,λe=>by cases e⟩
   | some p=>obtain ⟨c,d,f⟩:=zfG b;grind
theorem ztB (t:J3) (a:Nat) (bad:Bool) (h:a<=t.length) (e:t.length<=1099511627776):zbn ⟨t,(a:Int),bad⟩=some ((rdN t a bad).1,⟨t,((rdN t a bad).2.1:Int),(rdN t a bad).2.2⟩):=by
 unfold zbn rdN;cases bad with
 | true=>rfl
 | false=>
   simp only[Lo,iF,zji t a h,Lm,zig (t.drop a) (by grind),cF];cases b:readN 7 (t.drop a) with
   | none=>rfl
   | some p=>obtain ⟨x,k⟩:=p;obtain ⟨f,g,c⟩:=zfG b;rw[My]at c;have d:Dc ((readR (some (x,k))).2=0)=false:=dF (by show ¬(k:Int)=0;omega);rw[d];simp only[Lo,iF,readR];rw[za,show (a:Int)+(k:Int)=((a+k:Nat):Int) by omega]
def rdB (t:J3) (a:Nat) (bad:Bool) (n:Int):J3 × Nat × Bool:=bif bad||decide (t.length<a+n.toNat) then ([],a,true) else ((t.drop a).take n.toNat,a+n.toNat,false)
theorem ztI (t:J3) (a:Nat) (bad:Bool) (n:Int) (h:a<=t.length):(rdB t a bad n).2.1<=t.length/\a<=(rdB t a bad n).2.1/\((rdB t a bad n).2.2=false->bad=false):=by unfold rdB;grind
theorem zuN (t:J3) (a:Nat) (bad:Bool) (n:Int) (h:a<=t.length) (b:t.length<=1099511627776) (d:0<=n/\n<=562949953421311):zb0 ⟨t,(a:Int),bad⟩ n=some ((rdB t a bad n).1,⟨t,((rdB t a bad n).2.1:Int),(rdB t a bad n).2.2⟩):=by
 unfold zb0 rdB;cases bad with
 | true=>rfl
 | false=>
   rw[za (n:=(t.length:Int) - (a:Int))];by_cases c:t.length<a+n.toNat
   ·grind
   ·rw[dF c,dF];rw[za (n:=(a:Int)+n),za (n:=(a:Int)+n - n),show (a:Int)+n - n=(a:Int) by omega,show (a:Int)+n=((a+n.toNat:Nat):Int) by omega,zfs t a (a+n.toNat) (by omega) (by omega)];simp
def rdS (t:J3) (a:Nat) (bad:Bool):J3 × Nat × Bool:=rdB t (rdN t a bad).2.1 (rdN t a bad).2.2 (rdN t a bad).1
def zvE (t:J3) (a:Nat) (bad:Bool) (h:a<=t.length) (b:t.length<=1099511627776):zb1 ⟨t,(a:Int),bad⟩=some ((rdS t a bad).1,⟨t,((rdS t a bad).2.1:Int),(rdS t a bad).2.2⟩):=by obtain ⟨c,d,_⟩:=zjD t a bad h;unfold zb1 rdS;rw[ztB t a bad h b];simp only[Lm];rw[zuN t _ _ _ d b c];rfl
theorem zh1 (t:J3) (a:Nat) (bad:Bool) (h:a<=t.length):(rdS t a bad).2.1<=t.length/\((rdS t a bad).2.2=false->bad=false/\a<(rdS t a bad).2.1):=by obtain ⟨c,b,d⟩:=zjD t a bad h;obtain ⟨e,f,g⟩:=ztI t (rdN t a bad).2.1 (rdN t a bad).2.2 (rdN t a bad).1 b;unfold rdS;grind
def zem {x:J3} (h:t.drop a=x++rest):t.drop (a+x.length)=rest:=by rw[<-Oq,h,List.drop_left]
theorem zw6 {n:Int} (h:t.drop a=varV n++rest) (b:0<=n/\n<=562949953421311):rdN t a false=(n,a+(varV n).length,false):=by unfold rdN;rw[h,zo1 n b rest];grind
theorem zw7 {x:J3} (h:t.drop a=pieceV x++rest) (d:x.length<=1048576) (e:a<=t.length):rdS t a false=(x,a+(pieceV x).length,false):=by
 have b:t.drop a=varV (x.length:Int)++(x++rest):=by rw[h];unfold pieceV;simp
 have c:=zem b;have hl:=congrArg Nv c;rw[My,Lr]at hl;unfold rdS;rw[zw6 b (by omega)];unfold rdB;simp only[Rl,Mg];by_cases f:x.length=0
 ·have g:=congrArg Nv b;grind
 ·rw[dF];simp only[cF];rw[c,List.take_left];simp only[pieceV,Lr,Nat.add_assoc]
theorem zoQ (s:J3): ∀(n a:Nat),a<=s.length->((l6V s n a).2= -1\/∃b:Nat,(l6V s n a).2=(b:Int)/\b<=s.length/\(l6V s n a).1.length=n)/\∀x∈(l6V s n a).1,0<=x/\x<=562949953421311
 | 0,a,h=>⟨.inr ⟨a,rfl,h,rfl⟩,λx c=>by trivial⟩
 | n+1,a,h=>by
   rw[l6V,dF,cond_false];cases d:readN 7 (s.drop a) with
   | none=>exact ⟨.inl rfl,λx c=>by trivial⟩
   | some p=>obtain ⟨x,k⟩:=p;obtain ⟨f,g,e⟩:=zfG d;rw[My]at e;obtain ⟨i,j⟩:=zoQ s n (a+k) (by omega);grind
def zwW (s:J3): ∀(l:List Int) (a:Nat) (rest:J3),(∀x∈l,0<=x/\x<=1000000)->a<=s.length->s.drop a=l.flatMap varV++rest->l6V s l.length a=(l,((a+(l.flatMap varV).length:Nat):Int))
 | [],a,rest,_,_,_=>by rfl
 | x::l,a,rest,c,f,h=>by
   have b:s.drop a=varV x++(l.flatMap varV++rest):=by simp_all
   have d:=zem b;have g:=c x (by simp);have hl:=congrArg Nv b;rw[My,Lr]at hl;have e:a+(varV x).length<=s.length:=by omega
   rw[Nu,l6V,dF,cond_false,b,zo1 x (by omega)];simp only;rw[zwW s l (a+(varV x).length) rest (λy i=>c y (by simp_all)) e d];simp;omega
def zrZ (s:J3) (n:Int) (a:0<n):zbQ s (-1) n=some ([],-1):=by unfold zbQ;rw[zE];simp_all
def takeB (s:J3) (a:Nat):J3 × Int:=match readN 7 (s.drop a) with
 | none=>([],-1)
 | some (x,k)=>bif Dc (x<=s.length - (a+k)) then ((s.drop (a+k)).take x,((a+k+x:Nat):Int)) else ([],-1)
theorem zp1 (s:J3) (a:Nat) (h:a<=s.length):(takeB s a).2= -1\/∃b:Nat,(takeB s a).2=(b:Int)/\b<=s.length:=by
 unfold takeB;cases d:readN 7 (s.drop a) with
 | none=>exact .inl rfl
 | some p=>
   obtain ⟨x,k⟩:=p;obtain ⟨f,g,e⟩:=zfG d;rw[My]at e;simp only;by_cases c:x<=s.length - (a+k)
   ·rw[dT c];exact .inr ⟨a+k+x,rfl,by omega⟩
   ·grind
def zrY (s:J3):zeq s (-1)=some ([],-1):=by unfold zeq;rw[zrZ s 1 (by omega)];rfl
theorem zgX (s:J3) (a:Nat) (h:a<=s.length) (hs:s.length<=1048576):zeq s (a:Int)=some (takeB s a):=by
 unfold zeq takeB;rw[show zbQ s (a:Int) (1:Int)=some (l6V s 1 a) from zgY s a 1 (by omega) (by decide) (by omega)];simp only[Lm,l6V];rw[dF (by omega: ¬s.length<a),cond_false];cases b:readN 7 (s.drop a) with
 | none=>rfl
 | some p=>
   obtain ⟨x,k⟩:=p;obtain ⟨f,g,d⟩:=zfG b;rw[My]at d;simp only;rw[dF];have e:idx [(x:Int)] 0=some (x:Int):=rfl;simp only[Lo,iF,e,Lm];rw[za (n:=(s.length:Int) - ((a+k:Nat):Int))];by_cases c:x<=s.length - (a+k)
   ·rw[dT c,dF];rw[za,show ((a+k:Nat):Int)+(x:Int)=((a+k+x:Nat):Int) by omega,zfs s (a+k) (a+k+x) (by omega) (by omega)];simp
   ·grind
def zpc {x:J3} (h:s.drop a=pieceV x++rest) (c:x.length<=1048576) (d:a+(pieceV x).length<=s.length):takeB s a=(x,((a+(pieceV x).length:Nat):Int)):=by
 have b:s.drop a=varV (x.length:Int)++(x++rest):=by rw[h];unfold pieceV;simp
 have e:=zem b;have f:(pieceV x).length=(varV (x.length:Int)).length+x.length:=by unfold pieceV;simp
 unfold takeB;rw[b,zo1 (x.length:Int) (by omega)];simp only[Mg];rw[dT];simp_all;omega
def iand255 (p:Int):0<=iand .i64 p 255/\iand .i64 p 255<=255:=by
 unfold iand;have e:(Lx I6.bits p &&& Lx I6.bits 255).toNat<=255:=by show (Lx 64 p &&& Lx 64 ((255:Nat):Int)).toNat<=255;exact Nat.and_le_right
 rw[IntKind.wrap_i64];omega
def zz8 (code:J3) (h:code.length<=1048576): ∃q,zkA code=some ⟨code,0,q⟩:=by
 unfold zkA;obtain ⟨r,a,q,rfl⟩:=z7 (ρ:=Ctl Int A8) (s0:=(J8 ((10101:Int)+(code.length:Int)),(0:Int))) (body:=λ(S1:Int × Int)=>Bd0 (if Dc (S1.2<(code.length:Int))then some (Dc (S1.2<4000))else some false) (λ(B:Bool)=>if B=true then Bd0 (idx code S1.2) λA=>some (.go (iand .i64 (J8 (J8 (J8 (S1.1*131)+(J8 (A.toNat:Int)))+7)) 1073741823,J8 (S1.2+1)))else some (.done (.go S1.1)))) (λk S=>S.2=(k:Int)) code.length (λr=>∃q,r= .go q) rfl (by
  rintro k ⟨p,i⟩ b rfl;rw[dT (by omega:(k:Int)<(code.length:Int))];by_cases c:(k:Int)<4000
  ·left;rw[dT c];simp only[iT,Lm,zb code k b];exact ⟨_,rfl,by simp only;rw[za];omega⟩
  ·right;rw[dF c];exact ⟨.go p,rfl,p,rfl⟩) (by
  rintro ⟨p,i⟩ rfl;rw[dF (by omega: ¬(code.length:Int)<(code.length:Int))];exact ⟨.go p,rfl,p,rfl⟩)
 rw[a];exact ⟨q,rfl⟩
def zgh (b:J3) (i h:Int) (hi:0<=i/\i<=b.length) (d:b.length<=1048576): ∃x A a,zbP ⟨b,i,h⟩=some (x,⟨b,A,a⟩)/\(0<=x/\x<=255)/\(0<=A/\A<=b.length):=by
 unfold zbP;by_cases c:i<(b.length:Int)
 ·rw[dT c];simp only[iT];rw[zlB hi.1 c];simp only[Lm,zd];exact ⟨_,_,_,rfl,iand255 _,by rw[za];omega⟩
 ·rw[dF c];exact ⟨_,_,_,rfl,iand255 _,hi⟩
theorem zZ (b:J3) (i h n:Int) (hi:0<=i/\i<=b.length) (a:b.length<=1048576): ∃x M g,zC ⟨b,i,h⟩ n=some (x,⟨b,M,g⟩)/\(0<=x/\(0<n->x<n)/\(n<=0->x=0))/\(0<=M/\M<=b.length):=by
 unfold zC;by_cases c:n<=0
 ·rw[dT c];grind
 ·rw[dF c];have j:nz n=some ():=by unfold nz;rw[iN (by omega)]
  have k: ∀x:Int,0<=x->0<=Nh x n/\Nh x n<n:=λx l=>⟨Int.tmod_nonneg _ l,Int.tmod_lt_of_pos _ (by omega)⟩;obtain ⟨d,m,o,p,D,q⟩:=zgh b i h hi a;simp only[Lo,iF,p,Lm,j];by_cases s:n<=256
  ·grind
  ·rw[dF s];obtain ⟨e,t,u,v,E,k2⟩:=zgh b m o q a;simp only[v,Lm];obtain ⟨f,w,y,z,F,A⟩:=zgh b t u k2 a;simp only[z,Lm];obtain ⟨B,G,H,C,I,J⟩:=zgh b w y A a;simp only[C,Lm];rw[za (n:=d*16777216),za (n:=e*65536),za (n:=d*16777216+e*65536),za (n:=f*256),za (n:=d*16777216+e*65536+f*256),za];have:=k (d*16777216+e*65536+f*256+B) (by omega);grind
theorem zcF (b:J3) (i h n:Int) (hi:0<=i/\i<=b.length) (a:b.length<=1048576): ∃x A c,zbp ⟨b,i,h⟩ n=some (x,⟨b,A,c⟩)/\(0<=A/\A<=b.length):=by unfold zbp;obtain ⟨x,d,f,e,_,k⟩:=zZ b i h n hi a;simp only[e,Lm];grind
theorem zeS (b:J3) (i h:Int) (l:List Int) (hl:l≠[]) (hi:0<=i/\i<=b.length) (a:b.length<=1048576): ∃x A c,zbY ⟨b,i,h⟩ l=some (x,⟨b,A,c⟩)/\x∈l/\(0<=A/\A<=b.length):=by unfold zbY;have d:=Qk.2 hl;obtain ⟨x,f,j,e,g,k⟩:=zZ b i h (l.length:Int) hi a;simp only[e,Lm];rw[zlB g.1 (g.2.1 (by omega))];grind
def zBs (code:J3):zqp code=some (Dc ((code.length:Int)>1048576)):=rfl
def zlQ (b:J3) (i h most:Int) (H:0<=most/\most<=1000) (hi:0<=i/\i<=b.length) (f:b.length<=1048576): ∃s Z v,zep ⟨b,i,h⟩ most=some (s,⟨b,Z,v⟩)/\s.length<=1000/\(0<=Z/\Z<=b.length):=by
 unfold zep;obtain ⟨a,w,x,y,_,z⟩:=zZ b i h 4 hi f;simp only[y,Lm];rw[za (n:=most+1)];obtain ⟨c,A,B,C,I,k2⟩:=zZ b w x (most+1) z f;simp only[C,Lm];obtain ⟨r,D,p,q,s,rfl,j⟩:=z7 (ρ:=Ctl (Int × Int × J3) (J3 × A8)) (s0:=(A,B,c,([]:J3))) (body:=λ(U:Int × Int × Int × J3)=>if Dc (U.2.2.1>0)then Bd0 (zbP (⟨b,U.1,U.2.1⟩:A8)) λO=>bindC (if Dc (a=1)then some (.go (Nh O.1 2))else some (.go O.1)) (λ(M:Int)=>bindC (if Dc (a=2)then some (.go (J8 ((97:Int)+(Nh M 4))))else some (.go M)) (λ(W:Int)=>Bd0 (app 1 U.2.2.2 ([toU8 W])) λV=>some (.go (O.2.i,O.2.h,J8 (U.2.2.1 - 1),V))))else some (.done (.go (U.1,U.2.1,U.2.2.2))))
  (λk S=>(0<=S.1/\S.1<=b.length)/\S.2.2.1=c - (k:Int)/\S.2.2.2.length=k) c.toNat (λr=>∃p q s,r= .go (p,q,s)/\(s.length<=1000/\0<=p/\p<=b.length)) ⟨k2,by simp,rfl⟩ (by
    rintro k ⟨p,q,m,s⟩ J ⟨d,e,g⟩;simp only at d e g;subst e;left;rw[iP (by simp only[decide_eq_true_eq];omega)];obtain ⟨l,o,u,E,_,F⟩:=zgh b p q d f;rw[E];simp only[Lm];have key: ∃t:Int,(bindC (if Dc (a=1) then (some (Ctl.go (Nh l 2))) else (some (Ctl.go l)))
     (λ(M:Int)=>bindC (if Dc (a=2)then some (Ctl.go (J8 ((97:Int)+(Nh M 4))))else some (Ctl.go M)) (λ(W:Int)=>Bd0 (app 1 s ([toU8 W])) λV=>some (Ctl.go (ρ:=Ctl (Int × Int × J3) (J3 × A8)) (o,u,J8 (c - (k:Int) - 1),V)))))=some (.go (o,u,J8 (c - (k:Int) - 1),s++ [toU8 t])):=by
     cases Dc (a=1)<;>cases Dc (a=2)<;>simp only[Lo,iF,iT,zd]<;>rw[ze (by simp;omega) (by simp;omega)]<;>exact ⟨_,rfl⟩
    obtain ⟨t,G⟩:=key;rw[G];exact ⟨_,rfl,F,by simp only;rw[za];omega,by simp;omega⟩) (by
    rintro ⟨p,q,m,s⟩ ⟨d,e,g⟩;simp only at d e g;rw[iN (by simp only[decide_eq_true_eq];omega)];exact ⟨_,rfl,p,q,s,rfl,by omega,d⟩)
 rw[D];exact ⟨s,p,q,rfl,j.1,j.2⟩
def zz9 (b:J3) (i h:Int) (hi:0<=i/\i<=b.length) (a:b.length<=1048576): ∃s G g,zkD ⟨b,i,h⟩=some (s,⟨b,G,g⟩)/\s.length<=32/\(0<=G/\G<=b.length):=by
 unfold zkD;obtain ⟨j,l,m,o,_,q⟩:=zgh b i h hi a;simp only[o,Lm];obtain ⟨r,t,s,rfl,C⟩:=z7 (ρ:=Ctl J3 (J3 × A8)) (s0:=((0:Int),([]:J3))) (body:=λ(E:Int × J3)=>if Dc (E.1<32)then Bd0 (app 1 E.2 ([toU8 (J8 (J8 (j*E.1)+(Nh E.1 3)))])) λF=>some (.go (J8 (E.1+1),F))else some (.done (.go E.2))) (λk S=>S.1=(k:Int)/\S.2.length=k) 32 (λr=>∃s,r= .go s/\s.length=32) ⟨rfl,rfl⟩ (by
  rintro k ⟨p,s⟩ D ⟨c,u⟩;simp only at c u;subst c;left;simp only;rw[iP (by simp only[decide_eq_true_eq];omega),ze (by simp;omega) (by simp;omega),za (n:=(k:Int)+1)];exact ⟨_,rfl,by simp only;omega,by simp;omega⟩) (by
  simp_all)
 rw[t];simp only[zd];obtain ⟨v,d,e,w,k2⟩:=zcF b l m 15 q a;simp only[w,Lm];cases v with
 | false=>exact ⟨s,d,e,rfl,by omega,k2⟩
 | true=>obtain ⟨f,x,y,z,A,B⟩:=zZ b d e 32 k2 a;have:=A.2.1 (by omega);simp only[iT,z,Lm];rw[zT s 0 f.toNat 0 f rfl (by omega) (Oz _) (by omega)];exact ⟨_,x,y,rfl,by simp;omega,B⟩
theorem zxD (b:J3) (i h:Int) (s:J3) (hs:s.length<=1048576) (hi:0<=i/\i<=b.length) (a:b.length<=1048576): ∃t G v,ziO ⟨b,i,h⟩ s=some (t,⟨b,G,v⟩)/\t.length<=s.length+1000/\(0<=G/\G<=b.length):=by
 unfold ziO;by_cases E:s.length=0
 ·obtain ⟨t,f,g,j,w,k⟩:=zlQ b i h 3 (by omega) hi a;grind
 ·rw[dF (by omega: ¬(s.length:Int)=0)];obtain ⟨l,f,g,j,w,k⟩:=zZ b i h (s.length:Int) hi a;obtain ⟨c,m,o,x,F,k2⟩:=zZ b f g 4 k a;simp only[Lo,iF,j,x,Lm];obtain ⟨n,rfl⟩: ∃n:Nat,l=(n:Int):=⟨l.toNat,by omega⟩;have y:ssub s 0 (n:Int)=some (s.take n):=zfs s 0 n (by omega) (by omega);have z:ssub s (J8 ((n:Int)+1)) (s.length:Int)=some (s.drop (n+1)):=by rw[za];exact zji s (n+1) (by omega)
  have A:ssub s (n:Int) (s.length:Int)=some (s.drop n):=zji s n (by omega);simp only[y,z,A,zc6 s n (by omega),Lm];by_cases p:c=0
  ·rw[dT p];rw[zbZ (by simp;omega)];exact ⟨_,_,_,rfl,by simp;omega,k2⟩
  ·rw[dF p];simp only[Lo,iF];by_cases q:c=1
   ·rw[dT q];obtain ⟨B,C,D,d,_,e⟩:=zgh b m o k2 a;simp only[iT,d,Lm];rw[zbZ (by simp;omega)];simp only[Lm];rw[zbZ (by simp;omega)];exact ⟨_,_,_,rfl,by simp;omega,e⟩
   ·rw[dF q];by_cases u:c=2
    ·rw[dT u];exact ⟨_,_,_,rfl,by simp;omega,k2⟩
    ·rw[dF u];obtain ⟨B,C,D,d,_,e⟩:=zZ b m o 255 k2 a;simp only[Lo,iF,d,Lm];rw[zbZ (by simp;omega)];simp only[Lm];rw[zbZ (by simp;omega)];exact ⟨_,_,_,rfl,by simp;omega,e⟩
def zbx {body:τ->Option (Ctl τ (Ctl ρ R))} {s0:τ} {f:ρ->Option R} (G:Option R->Prop) (I:Nat->τ->Prop) (n:Nat) (Q:Ctl ρ R->Prop) (a:I 0 s0) (h: ∀k s,k<n->I k s->(∃s',body s=some (.go s')/\I (k+1) s')\/(∃r,body s=some (.done r)/\Q r)) (b: ∀s,I n s->∃r,body s=some (.done r)/\Q r) (c: ∀r,Q r->G (bindC (some r) f)):G (bindC (loopO body s0) f):=by obtain ⟨r,d,e⟩:=z7 I n Q a h b;simp_all
theorem zgi (b:J3) (i h:Int) (l:List J3) (hl:l≠[]) (hi:0<=i/\i<=b.length) (a:b.length<=1048576): ∃x A c,zcr ⟨b,i,h⟩ l=some (x,⟨b,A,c⟩)/\x∈l/\(0<=A/\A<=b.length):=by unfold zcr;have d:=Qk.2 hl;obtain ⟨x,f,j,e,g,k⟩:=zZ b i h (l.length:Int) hi a;simp only[e,Lm];rw[zlB g.1 (g.2.1 (by omega))];simp only[Lm];grind
theorem zAa (b:J3) (i h:Int) (hi:0<=i/\i<=b.length) (a:b.length<=1048576): ∃x A c,zkE ⟨b,i,h⟩=some (x,⟨b,A,c⟩)/\x.length<=3/\(0<=A/\A<=b.length):=by
 unfold zkE;obtain ⟨x,d,f,e,g,k⟩:=zgi b i h [[97],[98],[97,98],[97,98,99],[98,48],[99],[0],[122,122]] (by simp) hi a;have: ∀x∈([[97],[98],[97,98],[97,98,99],[98,48],[99],[0],[122,122]]:List J3),x.length<=3:=by decide
 grind
theorem zfI (s:Ad):sharesV s=true↔(0<=s.K/\s.K<=1000)/\s.t.length<=4/\(∀x∈s.t,(1<=x.r/\x.r<=99)/\(0<=x.Y/\x.Y<=1000))/\s.t.Pairwise (λa b=>a.r<b.r)/\allNeed s<=s.K:=by
 constructor
 ·intro c;have hl:=zo4 c;unfold sharesV at c;simp only[Ma,Mp,decide_eq_true_eq]at c;refine ⟨c.1,c.2.1,λx g=>?_,?_,c.2.2.2⟩
  ·obtain ⟨k,e,rfl⟩:=Lt g;have:=c.2.2.1 k (by simp_all);rw[zlS s.t k e]at this;simp_all
  ·rw[Ms];grind
 ·rintro ⟨h,i,j,f,l⟩;rw[Ms]at f;unfold sharesV;rw[dT h,dT i,dT l];simp only[Nm,Pv,Mp];intro k e;have d:k<s.t.length:=by simp_all
  obtain ⟨m,n⟩:=j _ (Nf d);rw[zlS s.t k d,dT m,dT n];by_cases o:0<k
  ·rw[dif_pos o];exact dT (f (k - 1) k (by omega) d (by omega))
  ·simp_all
theorem zua (s:Ad) (t q:Int) (b:sharesV s=true) (h:s.t.length<=1048576): ∃L M R:List A9,s.t=L++(M++R)/\(∀y∈L,y.r<t)/\(∀y∈R,t<y.r)/\(M= []\/∃m:A9,M= [m]/\m.r=t)/\
 zbr s t q=some (if sharesV ⟨s.K,L++(⟨t,q⟩::R)⟩=true then (⟨s.K,L++(⟨t,q⟩::R)⟩,true) else (s,false)):=by
 have f:=((zfI s).1 b).2.1;obtain ⟨j,c,g,k,l⟩:=zjU s t b h;have B: ∀y∈s.t.take j,y.r<t:=by intro y d;obtain ⟨i,hi,rfl⟩:=Lt d;grind
 have E: ∀D,(∀i (hi:i<s.t.length),D<=i->t<s.t[i].r)->∀y∈s.t.drop D,t<y.r:=by intro D A y d;obtain ⟨i,hi,rfl⟩:=Lt d;simp_all
 rcases l with ⟨o,n,a⟩ | ⟨n,a⟩
 ·have A: ∀i (hi:i<s.t.length),j+1<=i->t<s.t[i].r:=λi hi p=>k i hi (by omega);exact ⟨s.t.take j,[s.t[j]],s.t.drop (j+1),by simp,B,E _ A,.inr ⟨_,rfl,a⟩,zfp s t q j (j+1) b f c (.inr rfl) (by omega) g A (λ_ _=>a)⟩
 ·exact ⟨s.t.take j,[],s.t.drop j,by simp,B,E _ a,.inl rfl,zfp s t q j j b f c (.inl rfl) c g a (λe=>by omega)⟩
theorem zpU (p:A9->Bool): ∀l:List A9,((l.filter p).map λx=>needV x.Y).sum<=(l.map λx=>needV x.Y).sum
 | []=>by simp
 | x::l=>by have a:=zpU p l;have b:=zjq x.Y;grind
def strB (key:J3) (counter:Int) (nonce:J3) (i:Nat):UInt8:=(chaV key (counter+((i / 64:Nat):Int)) nonce).getD (i % 64) 0
def xorV (key:J3) (counter:Int) (nonce text:J3):J3:=text.mapIdx λi x=>x ^^^ strB key counter nonce i
def streamOk (key:J3) (counter:Int) (nonce:J3) (n:Nat):Bool:=chaOk key counter nonce&&Dc (n=0\/counter+(((n - 1) / 64:Nat):Int)<=4294967295)
def streamV (key:J3) (counter:Int) (nonce text:J3):J3:=bif streamOk key counter nonce text.length then xorV key counter nonce text else []
def zcd (key:J3) (counter:Int) (nonce text:J3):(xorV key counter nonce text).length=text.length:=by unfold xorV;rw[List.length_mapIdx]
def zpw (key:J3) (counter:Int) (nonce text:J3) (i:Nat) (h:i<text.length):(xorV key counter nonce text)[i]'(by rw[zcd];exact h)=text[i] ^^^ strB key counter nonce i:=by unfold xorV;simp
def zAJ (x y:UInt8):x ^^^ y ^^^ y=x:=by rw[UInt8.xor_assoc,UInt8.xor_self,UInt8.xor_zero]
def zyd (key:J3) (counter:Int) (nonce text:J3):xorV key counter nonce (xorV key counter nonce text)=text:=by
 apply Qy
 ·rw[zcd,zcd]
 ·intro i b a;rw[zpw _ _ _ _ i (by rw[zcd];trivial),zpw _ _ _ _ i a,zAJ]
theorem zuO (h:chaOk key counter nonce=true) (k:Nat) (a:counter+(k:Int)<=4294967295):chaOk key (counter+(k:Int)) nonce=true:=by obtain ⟨b,c,d,e⟩:=zhO h;unfold chaOk;grind
def zwF (h:chaOk key counter nonce=false):chaV key counter nonce= []:=by unfold chaV;rw[h];rfl
def zwE (h:chaOk key counter nonce=true):chaV key counter nonce≠[]:=by intro e;have:=zkR key counter nonce h;simp_all
theorem zxh (k j:Nat) (a:j<64) (h:chaOk key (counter+(k:Int)) nonce=true):strB key counter nonce (64*k+j)=(chaV key (counter+(k:Int)) nonce)[j]'(by rw[zkR _ _ _ h];trivial):=by unfold strB;grind
def zt1 (z:List α) (m:Nat) (h:m<z.length):z.take (m+1)=z.take m++ [z[m]]:=by simp
theorem zx5 (key:J3) (counter:Int) (nonce text:J3) (b:text.length<=1099511627776) (k:Nat) (d:64*k<text.length) (h:chaOk key (counter+(k:Int)) nonce=true):
 loopO (ρ:=Ctl J3 ρ) (λ(A:Int × J3)=>Bd0 (if Dc (A.1<(text.length:Int))then some (Dc (A.1<((64*k+64:Nat):Int)))else some false) (λ(F:Bool)=>if F=true then Bd0 (sidx text A.1) λB=>Bd0 (sidx (chaV key (counter+(k:Int)) nonce) (J8 (A.1 - ((64*k:Nat):Int)))) λD=>Bd0 (app 1 A.2 ([(B ^^^ D)])) λE=>some (.go (J8 (A.1+1),E))else some (.done (.go A.2)))) (((64*k:Nat):Int),(xorV key counter nonce text).take (64*k))=some (.go ((xorV key counter nonce text).take (64*(k+1)))):=by
 have f:=zcd key counter nonce text;refine zcS (λj S=>S=(((64*k+j:Nat):Int),(xorV key counter nonce text).take (64*k+j))) (min 64 (text.length - 64*k)) _ rfl ?_ ?_
 ·rintro j _ g rfl;left;have hi:64*k+j<text.length:=by omega
  rw[dT,dT];have a:((64*k+j:Nat):Int) - ((64*k:Nat):Int)=(j:Int):=by omega
  rw[a,za (n:=(j:Int))];rw[zc6 text _ hi];rw[zc6 _ j (by rw[zkR _ _ _ h];omega)];simp only[Lm];rw[ze (by grind) (by grind),za];refine ⟨_,rfl,?_⟩;rw[show 64*k+(j+1)=(64*k+j)+1 from rfl,zt1 _ _ (by omega),zpw _ _ _ _ _ hi,zxh k j (by omega) h];rfl
 ·rintro _ rfl;by_cases c:64*k+64<=text.length
  ·grind
  ·have e:64*k+min 64 (text.length - 64*k)=text.length:=by omega
   grind
theorem zj7 (key:J3) (counter:Int) (nonce text:J3) (c:text.length<=1099511627776):zeV key counter nonce text=some (streamV key counter nonce text):=by
 unfold zeV streamV streamOk;rw[zhN];simp only[Lm];cases a:chaOk key counter nonce with
 | false=>rw[zwF a];rfl
 | true=>
   rw[dF (zwE a)];obtain ⟨_,_,l,m⟩:=zhO a;obtain ⟨r,d,e⟩:=z7 (ρ:=Ctl J3 J3) (s0:=((0:Int),([]:J3))) (body:=λ(B:Int × J3)=>if Dc (B.1<(text.length:Int))then Bd0 (zc7 key (J8 (counter+(J8 (Ps B.1 64)))) nonce) λD=>if Dc (D=([]))then some (.done (.done ([])))else bindC (loopO (λ(A:Int × J3)=>Bd0 (if Dc (A.1<(text.length:Int))then some (Dc (A.1<J8 (B.1+64)))else some false) (λ(J:Bool)=>if J=true then Bd0 (sidx text A.1) λE=>Bd0 (sidx D (J8 (A.1 - B.1))) λF=>Bd0 (app 1 A.2 ([(E ^^^ F)])) λG=>some (.go (J8 (A.1+1),G))else some (.done (.go A.2)))) (B.1,B.2)) (λ(I:J3)=>some (.go (J8 (B.1+64),I)))else some (.done (.go B.2)))
    (λk S=>S=(((64*k:Nat):Int),(xorV key counter nonce text).take (64*k))/\(k=0\/counter+((k - 1:Nat):Int)<=4294967295)) ((text.length+63) / 64)
    (λr=>r=bif Dc (text.length=0\/counter+(((text.length - 1) / 64:Nat):Int)<=4294967295) then .go (xorV key counter nonce text) else .done []) ⟨rfl,.inl rfl⟩ (by
    rintro k _ o ⟨rfl,f⟩
    have g:64*k<text.length:=by omega
    have h:Ps ((64*k:Nat):Int) 64=(k:Int):=by simp
    rw[h,za (n:=(k:Int)),za (n:=counter+(k:Int)),za (n:=((64*k:Nat):Int)+64),dT,zhN]
    simp only[iT,Lm]
    by_cases i:counter+(k:Int)<=4294967295
    ·left;have b:=zuO a k i;rw[dF (zwE b)];have j:((64*k:Nat):Int)+64=((64*k+64:Nat):Int):=by omega
     rw[j,zx5 key counter nonce text c k g b];simp;omega
    ·right;have b:chaOk key (counter+(k:Int)) nonce=false:=by unfold chaOk;simp_all
     rw[zwF b];grind) (by
    rintro _ ⟨rfl,f⟩
    rw[dF,Lv (by rw[zcd];omega),dT]
    simp)
   rw[d,e];cases Dc (text.length=0\/counter+(((text.length - 1) / 64:Nat):Int)<=4294967295)<;>rfl
theorem zxx (key:J3) (counter:Int) (nonce text:J3) (i:text.length<=1099511627776) (k:Nat) (l:64*k<text.length) (h:chaOk key (counter+(k:Int)) nonce=true):
 loopO (ρ:=Ctl J3 ρ) (λ(A:Int × J3)=>Bd0 (if Dc (A.1<64)then some (Dc (J8 (((64*k:Nat):Int)+A.1)<(A.2.length:Int)))else some false) (λ(E:Bool)=>if E=true then Bd0 (idx A.2 (J8 (((64*k:Nat):Int)+A.1))) λB=>Bd0 (sidx (chaV key (counter+(k:Int)) nonce) A.1) λD=>some (.go (J8 (A.1+1),(A.2.set ((J8 (((64*k:Nat):Int)+A.1)).toNat) (B ^^^ D))))else some (.done (.go A.2)))) ((0:Int),(xorV key counter nonce text).take (64*k)++text.drop (64*k))=some (.go ((xorV key counter nonce text).take (64*(k+1))++text.drop (64*(k+1)))):=by
 have d:=zcd key counter nonce text;refine zcS (λj S=>S=((j:Int),(xorV key counter nonce text).take (64*k+j)++text.drop (64*k+j))) (min 64 (text.length - 64*k)) _ rfl ?_ ?_
 ·rintro j _ m rfl;left;have hi:64*k+j<text.length:=by omega
  have a:((64*k:Nat):Int)+(j:Int)=((64*k+j:Nat):Int):=by omega
  have hl:((xorV key counter nonce text).take (64*k+j)).length=64*k+j:=by grind
  have b:((xorV key counter nonce text).take (64*k+j)++text.drop (64*k+j)).length=text.length:=by rw[Lr,hl,My];omega
  rw[a,za (n:=((64*k+j:Nat):Int)),dT (by omega:(j:Int)<64),b,dT (by omega:((64*k+j:Nat):Int)<(text.length:Int))];rw[zb _ (64*k+j) (by rw[b];exact hi)];rw[zc6 _ j (by rw[zkR _ _ _ h];omega)];rw[za,Mg];refine ⟨_,rfl,?_⟩;have f:((xorV key counter nonce text).take (64*k+j)++text.drop (64*k+j))[64*k+j]'(by rw[b];exact hi)=text[64*k+j]:=by simp_all
  rw[f,show 64*k+(j+1)=(64*k+j)+1 from rfl,zt1 _ _ (by rw[d];exact hi),zpw _ _ _ _ _ hi,zxh k j (by omega) h,Om _ _ (by omega),hl,Rs,Ls hi,Mh];rfl
 ·rintro _ rfl;by_cases c:64*k+64<=text.length
  ·grind
  ·have e:64*k+min 64 (text.length - 64*k)=text.length:=by omega
   have g:(xorV key counter nonce text).take (64*k+min 64 (text.length - 64*k))++text.drop (64*k+min 64 (text.length - 64*k))=xorV key counter nonce text:=by rw[e,Lv (by omega),Ml (Mf _),Ns]
   rw[g,d,Lv (by omega),Ml (by omega),Ns];have a:((64*k:Nat):Int)+((min 64 (text.length - 64*k):Nat):Int)=(text.length:Int):=by omega
   rw[a,za,dF (by omega: ¬(text.length:Int)<(text.length:Int))];split<;>rfl
theorem zj2 (key:J3) (counter:Int) (nonce text:J3) (b:text.length<=1099511627776):zeG key counter nonce text=some (streamV key counter nonce text):=by
 unfold zeG streamV streamOk;rw[znW];cases a:chaOk key counter nonce with
 | false=>rfl
 | true=>
   obtain ⟨_,_,j,l⟩:=zhO a;have d:byteRoom text=some ():=by unfold byteRoom;grind
   have e:Ps ((text.length:Int)+63) 64=(((text.length+63) / 64:Nat):Int):=by rfl
   simp only[Ly,Lo,iF,d,Lm,Nm];rw[za (n:=(text.length:Int)+63),e,za (n:=(((text.length+63) / 64:Nat):Int)) (by omega) (by omega),za (n:=counter+(((text.length+63) / 64:Nat):Int)) (by omega) (by omega),za (n:=counter+(((text.length+63) / 64:Nat):Int) - 1) (by omega) (by omega)];have f:(if Dc ((((text.length+63) / 64:Nat):Int)>0)=true then (some (Dc (counter+(((text.length+63) / 64:Nat):Int) - 1>4294967295))) else (some false))=some (!Dc (text.length=0\/counter+(((text.length - 1) / 64:Nat):Int)<=4294967295)):=by
    by_cases c:text.length=0
    ·simp_all
    ·rw[dT];by_cases m:counter+(((text.length - 1) / 64:Nat):Int)<=4294967295
     ·simp_all;omega
     ·rw[dT,dF];rfl
   rw[f];cases g:Dc (text.length=0\/counter+(((text.length - 1) / 64:Nat):Int)<=4294967295) with
   | false=>rfl
   | true=>
     have o:=of_decide_eq_true g;rw[zcS (ρ:=Ctl J3 J3) (s0:=(counter,(0:Int),text)) (λk S=>S=(counter+(k:Int),((64*k:Nat):Int),(xorV key counter nonce text).take (64*k)++text.drop (64*k))) ((text.length+63) / 64) (.go (xorV key counter nonce text)) (by simp) ?_ ?_]
     ·rfl
     ·rintro k _ p rfl;left;have h:64*k<text.length:=by omega
      have i:=zuO a k (by omega);have hl:((xorV key counter nonce text).take (64*k)++text.drop (64*k)).length=text.length:=by rw[Lr,Nb,My,zcd];omega
      simp only;rw[hl,dT,zkX];simp only[iT,Lm];rw[zxx key counter nonce text b k h i];simp only[zd];rw[za (n:=counter+(k:Int)+1),za (n:=((64*k:Nat):Int)+64)];grind
     ·rintro _ rfl;simp only;rw[Lv (by rw[zcd];omega),Ml (by omega),Ns,zcd,dF];rfl
def zxN {k n:Int} (b:0<=k/\k<=255) (a:0<=n/\n<=562949953421311):(nonceV k n).length=12:=by unfold nonceV;rw[dT b,dT a];simp only[Px,cT,Lr,zjl n a];rfl
def zwy {k:J3} {n:Int} {z:J3} (h:streamV k n z t≠[]):(streamV k n z t).length=t.length/\streamV k n z (streamV k n z t)=t:=by
 have a:streamOk k n z t.length=true:=by
  cases b:streamOk k n z t.length with
  | true=>rfl
  | false=>unfold streamV at h;rw[b]at h;exact absurd rfl h
 have e:streamV k n z t=xorV k n z t:=by unfold streamV;simp_all
 rw[e];refine ⟨zcd _ _ _ _,?_⟩;unfold streamV;rw[zcd,a];exact zyd _ _ _ _
def zxF (b:J3) (i h:Int) (hi:0<=i/\i<=b.length) (e:b.length<=1048576): ∃l i' u,ziV ⟨b,i,h⟩=some (l,⟨b,i',u⟩)/\l.length<=8/\(0<=i'/\i'<=b.length):=by
 unfold ziV;obtain ⟨j,i1,h1,L,g1,M⟩:=zZ b i h 4 hi e;simp only[L,Lm];rw[za (n:=1+j)];refine zbx (τ:=Int × Int × Int × List Op) (ρ:=Int × Int × List Op) (R:=List Op × A8) (G:=λo=>∃l i' u,o=some (l,⟨b,i',u⟩)/\l.length<=8/\(0<=i'/\i'<=b.length)) (I:=λk S=>(0<=S.1/\S.1<=b.length)/\S.2.2.1=1+j - (k:Int)/\S.2.2.2.length=k) (1+j).toNat (Q:=λr=>∃p q a,r= .go (p,q,a)/\(0<=p/\p<=b.length)/\1<=a.length/\a.length<=4) ⟨M,by simp,by simp⟩ ?_ ?_ ?_
 ·rintro k ⟨p,q,c,d⟩ hk ⟨f,g,m⟩;simp only at f g m;subst g;left;obtain ⟨x3,N,O,P,g3,T⟩:=zAa b p q f e;obtain ⟨U,V,W,X,z⟩:=zcF b N O 3 T e;simp only[P,X,Lm];rw[iP (by simp only[decide_eq_true_eq];omega),za (n:=1+j - (k:Int) - 1)];cases U with
  | true=>simp only[iT,zd];rw[ze (by simp only[Mu];omega) (by simp only[Mu];omega)];exact ⟨_,rfl,z,by simp only;omega,by simp only[Lr,Mu];omega⟩
  | false=>obtain ⟨A,B,C,v,g5,s⟩:=zlQ b V W 5 (by omega) z e;simp only[Lo,iF,v,Lm,zd];rw[ze (by simp only[Mu];omega) (by simp only[Mu];omega)];exact ⟨_,rfl,s,by simp only;omega,by simp only[Lr,Mu];omega⟩
 ·rintro ⟨p,q,c,d⟩ ⟨f,g,m⟩;simp only at f g m;exact ⟨_,by simp only;rw[iN (by simp only[decide_eq_true_eq];omega)],p,q,d,rfl,f,by omega,by omega⟩
 rintro _ ⟨p,q,d,rfl,f,g,m⟩;obtain ⟨A,B,C,v,s⟩:=zcF b p q 10 f e;simp only[zd,v,Lm];cases A with
 | false=>simp only[Lo,iF,zd];exact ⟨_,_,_,rfl,by omega,s⟩
 | true=>
   obtain ⟨x6,Y,Z,e6,D,k6⟩:=zZ b B C (d.length:Int) s e;have a0:=D.2.1 (by omega);obtain ⟨w,E,F,e7,g7,t⟩:=zZ b Y Z 4 k6 e;have a1:=zlB (l:=d) D.1 a0;simp only[iT,e6,e7,Lm,a1];by_cases H:w=0
   ·rw[dT H];obtain ⟨x8,i8,h8,x,g8,y⟩:=zgi b E F [[],[97,97,97,97,97,97,97,97,97,97],[97,97,97,97,97,97,97,97,97,97,97]] (by simp) t e;simp only[iT,x,Lm,zd];exact ⟨_,_,_,rfl,by simp only[Pi];omega,y⟩
   ·rw[dF H];by_cases J:w=1
    ·rw[dT J];obtain ⟨x8,i8,h8,x,g8,y⟩:=zlQ b E F 1 (by omega) t e;simp only[iT,x,Lm];rw[zbZ (by simp only[Nu,List.length_nil];omega)];exact ⟨_,_,_,rfl,by simp only[Pi];omega,y⟩
    ·rw[dF J];by_cases K:w=2
     ·rw[dT K];rw[ze (by omega) (by omega)];exact ⟨_,_,_,rfl,by simp only[Lr];omega,t⟩
     ·rw[dF K];exact ⟨_,_,_,rfl,by simp,t⟩
def zx3 (a b:List KV) (h:a.length<=1048576):ziA a b=some (Dc (a=b)):=by unfold ziA;have:=zyB a b (λx y=>some (Dc (x.q=y.q)&&(Dc (x.Q=y.Q)&&true))) (λx y _ _=>by congr 1;obtain ⟨c,d⟩:=x;obtain ⟨e,y2⟩:=y;simp) (by omega);trivial
theorem zp9 (l:List Ac):entsV l=true↔(∀e∈l,entV e=true)/\l.Pairwise (λa b=>entLt a b=true):=by
 constructor
 ·intro d;refine ⟨λe n=>?_,?_⟩
  ·obtain ⟨k,c,rfl⟩:=Lt n;have:=zwK d k c;rw[zhP l k c,Ma]at this;simp_all
  ·rw[Ms];intro i j hi o p;unfold entLt;rcases zhQ d j o i p with h | ⟨f,g⟩
   ·simp_all
   ·simp_all
 ·rintro ⟨f,g⟩;rw[Ms]at g;unfold entsV;rw[Mp];intro k c;have m:k<l.length:=by simp_all
  rw[zhP l k m,f _ (Nf m),Nm];grind
def visG (seq:Int):Option J3->List Ac->List KV
 | _,[]=>[]
 | last,e::r=>bif Dc (e.c<=seq)&& !Dc (last=some e.q) then (bif e.T then visG seq (some e.q) r else ⟨e.q,e.Q⟩::visG seq (some e.q) r) else visG seq last r
def lastO (p:J3 × Bool):Option J3:=bif p.2 then some p.1 else none
theorem zzF {l:List Ac} (b:entsV l=true) (seq:Int): ∀(d k:Nat),k+d=l.length->visL l seq l.length=visL l seq k++visG seq (lastO (lastS l seq k)) (l.drop k)
 | 0,k,h=>by
   have:k=l.length:=by omega
   subst this;rw[Ot];simp[visG]
 | d+1,k,h=>by
   have a:k<l.length:=by omega
   rw[zzF b seq d (k+1) (by omega),zl5 l seq k a,znr l seq k a,Ls a,Mh];congr 1;rw[visG];by_cases hs:l[k].c<=seq
   ·have f:=zvF b a hs;rw[dT hs,Nm];have e:Dc (lastO (lastS l seq k)=some l[k].q)=((lastS l seq k).2&&Dc (l[k].q=(lastS l seq k).1)):=by unfold lastO;grind
    rw[e,<-f];cases visE l seq k with
    | false=>simp
    | true=>cases l[k].T<;>simp[lastO]
   ·have g:visE l seq k=false:=by rw[zg3 l seq k a,dF hs,Qf]
    grind
def zpf (a:entsV l=true) (seq:Int):visL l seq l.length=visG seq none l:=by rw[zzF a seq l.length 0 (by omega)];rfl
def stayG (snaps:List Int):Option Ac->Ac->Bool
 | none,_=>true
 | some d,e=>!Dc (d.q=e.q)||snaps.any (λs=>decide (e.c<=s)&&Dc (s<d.c))
def keepG (snaps:List Int):Option Ac->List Ac->List Ac
 | _,[]=>[]
 | p,e::r=>bif stayG snaps p e then e::keepG snaps (some e) r else keepG snaps (some e) r
def znL (snaps:List Int) (d e:Ac):stayG snaps (some d) e=(!Dc (d.q=e.q)||snaps.any (λs=>decide (e.c<=s)&&Dc (s<d.c))):=rfl
def prevG (l:List Ac):Nat->Option Ac
 | 0=>none
 | k+1=>l[k]?
def zrw (l:List Ac) (k:Nat):prevG l (k+1)=l[k]?:=rfl
def zBg (snaps:List Int) (l:List Ac) (k:Nat) (a:k<l.length):stayV snaps l k=stayG snaps (prevG l k) l[k]:=by
 cases k with
 | zero=>rfl
 | succ j=>rw[zkH snaps l j a];rw[zrw,Mm (by omega)];rfl
theorem zwT (snaps:List Int) (l:List Ac): ∀(d k:Nat),k+d=l.length->keepT snaps l k d=keepG snaps (prevG l k) (l.drop k)
 | 0,k,h=>by rw[Ml (by omega)];rfl
 | d+1,k,h=>by
   have a:k<l.length:=by omega
   have b:keepT snaps l k 1=if stayV snaps l k=true then [l[k]] else []:=by rw[znp snaps l k 0 a];rfl
   have c:prevG l (k+1)=some l[k]:=by rw[zrw,Mm a]
   rw[Nat.add_comm d 1,ztq,b,zwT snaps l d (k+1) (by omega),Ls a,keepG,zBg snaps l k a,c];grind
def zm6 (snaps:List Int) (h:Bool) (a:l.length<=400) (b:entsV l=true):compactR l snaps h=finE h (keepG snaps none l):=by unfold compactR;rw[iP ⟨a,b⟩,zwT snaps l l.length 0 (by omega)];rfl
def zgf (snaps:List Int): ∀(p:Option Ac) (l:List Ac),(keepG snaps p l).Sublist l
 | _,[]=>List.Sublist.slnil
 | p,e::r=>by
   rw[keepG];cases stayG snaps p e with
   | true=>exact (zgf snaps (some e) r).cons_cons e
   | false=>exact (zgf snaps (some e) r).cons e
def zkN: ∀l:List Ac,(tid l).2.Sublist l
 | []=>List.Sublist.slnil
 | e::t=>by
   rw[zdF];cases ((tid t).1&&sameK e t)|| !e.T with
   | true=>exact (zkN t).cons_cons e
   | false=>exact (zkN t).cons e
def zu0 (b:Bool) (l:List Ac):(finE b l).Sublist l:=by
 cases b with
 | true=>exact zkN l
 | false=>exact List.Sublist.refl l
theorem zjN {x:List Ac} (h:x.Sublist l) (a:entsV l=true):entsV x=true:=by
 rw[zp9]at a |-
 grind
theorem zvh (snaps:List Int) (seq:Int) (hs: ∀d e:Ac,entV d=true->entV e=true->d.q=e.q->e.c<=seq->seq<d.c->stayG snaps (some d) e=true):
 ∀(l:List Ac) (p:Option Ac) (last:Option J3),(∀e∈l,entV e=true)->(∀d,p=some d->entV d=true/\(d.c<=seq->last=some d.q))->visG seq last (keepG snaps p l)=visG seq last l
 | [],_,_,_,_=>rfl
 | e::r,p,last,a,f=>by
   have i:=a e (by simp);have g: ∀x∈r,entV x=true:=λx j=>a x (by simp_all);rw[keepG];have next: ∀A,(e.c<=seq->A=some e.q)->visG seq A (keepG snaps (some e) r)=visG seq A r:=λA h=>zvh snaps seq hs r (some e) A g (λd k=>by simp_all);cases b:stayG snaps p e with
   | true=>simp only[cT];rw[visG,visG];grind
   | false=>
     simp only[cF];rw[visG];have m:e.c<=seq->last=some e.q:=by
      intro h;cases p with
      | none=>cases b
      | some d=>
        obtain ⟨n,o⟩:=f d rfl;by_cases s:d.q=e.q
        ·grind
        ·rw[znL]at b;simp_all
     grind
def zr4 (seq:Int): ∀(l:List Ac) (a b:Option J3),(∀e∈l,a≠some e.q)->(∀e∈l,b≠some e.q)->visG seq a l=visG seq b l
 | [],_,_,_,_=>rfl
 | e::r,a,b,d,f=>by
   rw[visG,visG,dF (d e (by simp)),dF (f e (by simp))];cases Dc (e.c<=seq) with
   | true=>rfl
   | false=>exact zr4 seq r a b (λx g=>d x (by simp_all)) (λx g=>f x (by simp_all))
theorem zoL {a b:Ac} (h:entLt a b=true):sLt a.q b.q=true\/a.q=b.q:=by unfold entLt at h;grind
def zv1: ∀(e:Ac) (t:List Ac),(e::t).Pairwise (λa b=>entLt a b=true)->(tid (e::t)).1=false->∀x∈(tid (e::t)).2,e.q≠x.q
 | e,[],_,h,x,c=>by
   rw[zdF]at h c;cases d:((tid []).1&&sameK e [])|| !e.T with
   | true=>rw[d]at h;cases h
   | false=>rw[d]at c;simp[tid]at c
 | e,y::t,j,h,x,c=>by
   rw[zdF]at h c;cases d:((tid (y::t)).1&&sameK e (y::t))|| !e.T with
   | true=>rw[d]at h;cases h
   | false=>
     rw[d]at c;simp only[cF]at c;rw[Qi]at d;obtain ⟨k,g⟩:=Lw.1 j;by_cases f:e.q=y.q
     ·have:sameK e (y::t)=true:=dT f;rw[this,Pv]at d;rw[f];exact zv1 y t g d.1 x c
     ·intro l;have m:=zoL (k y (by simp));have n:sLt e.q y.q=true:=m.resolve_right f;have o:=(zkN (y::t)).mem c;rcases Nn.1 o with rfl | p
      ·trivial
      ·rcases zoL ((Lw.1 g).1 x p) with i | i
       ·have:=zb3 n i;rw[l,zI]at this;cases this
       ·simp_all
def zs5 (seq:Int): ∀(l:List Ac) (last:Option J3),l.Pairwise (λa b=>entLt a b=true)->(∀k,last=some k->∀e∈l,sLt k e.q=true\/k=e.q)->visG seq last (tid l).2=visG seq last l
 | [],_,_,_=>rfl
 | e::t,last,h,hl=>by
   obtain ⟨o,i⟩:=Lw.1 h;have p: ∀x∈t,sLt e.q x.q=true\/e.q=x.q:=λx d=>zoL (o x d);have A:=zs5 seq t (some e.q) i (λk j x d=>by simp_all);have B:=zs5 seq t last i (λk j x d=>hl k j x (by simp_all));have f:=zv1 e t h;rw[zdF]at f |-
   cases g:((tid t).1&&sameK e t)|| !e.T with
   | true=>simp only[cT];rw[visG,visG,A,B]
   | false=>
     rw[g]at f;simp only[cF]at f |-
     have f:=f trivial;rw[visG];cases s:Dc (e.c<=seq)&& !Dc (last=some e.q) with
     | false=>simp only[cF];exact B
     | true=>
       rw[Qi,Qq]at g;simp only[cT,g.2];rw[<-A];rw[Ma,On,decide_eq_false_iff_not]at s;refine zr4 seq _ _ _ ?_ ?_
       ·intro x d u;have v:=(zkN t).mem d;rcases hl x.q u e (by simp) with m | m
        ·rcases p x v with n | n
         ·have:=zb3 m n;rw[zI]at this;cases this
         ·simp_all
        ·simp_all
       ·simp_all
def zAT (seq:Int) (b:Bool) (l:List Ac) (c:l.Pairwise (λa b=>entLt a b=true)):visG seq none (finE b l)=visG seq none l:=by
 cases b with
 | true=>exact zs5 seq l none c (λk d=>by trivial)
 | false=>rfl
theorem zuR (snaps:List Int) (A:Bool) (h:l.length<=400) (a:entsV l=true):entsV (compactR l snaps A)=true/\seenV (compactR l snaps A) snaps=seenV l snaps:=by
 have b:=zm6 snaps A h a;have i:(compactR l snaps A).Sublist l:=by rw[b];exact (zu0 _ _).trans (zgf _ _ _)
 have f:=zjN i a;have j:=zjN (zgf snaps none l) a;refine ⟨f,?_⟩;have key: ∀seq:Int,(∀d e:Ac,entV d=true->entV e=true->d.q=e.q->e.c<=seq->seq<d.c->stayG snaps (some d) e=true)->visL (compactR l snaps A) seq (compactR l snaps A).length=visL l seq l.length:=by intro seq hs;rw[zpf f,zpf a,b,zAT seq A _ ((zp9 _).1 j).2];exact zvh snaps seq hs l none none ((zp9 l).1 a).1 (λd g=>by trivial)
 unfold seenV;congr 1
 ·refine List.map_congr_left λs hs=>key s ?_;intro d e _ _ m n k;rw[znL];grind
 ·rw[key 1000000 λd e g _ _ _ k=>by unfold entV at g;grind]
structure Ord3 {α κ:Type} (lt:α->α->Bool) (K:α->κ):Prop where
 tri: ∀a b,lt a b=true\/K a=K b\/lt b a=true
 irr: ∀a b,K a=K b->lt a b=false
 trans: ∀a b c,lt a b=true->lt b c=true->lt a c=true
def Ord3.asym {lt:α->α->Bool} (o:Ord3 lt K) {a b:α} (h:lt a b=true):lt b a=false:=by
 cases c:lt b a with
 | false=>rfl
 | true=>have:=o.irr a a rfl;rw[o.trans a b a h c]at this;cases this
def Ord3.le_trans {lt:α->α->Bool} (o:Ord3 lt K) {a b c:α} (f:lt b a=false) (g:lt c b=false):lt c a=false:=by
 cases d:lt c a with
 | false=>rfl
 | true=>
   rcases o.tri a b with h | h | h
   ·rw[o.trans c a b d h]at g;cases g
   ·rcases o.tri c b with e | e | e
    ·simp_all
    ·rw[o.irr c a (by simp_all)]at d;cases d
    ·have:=o.trans b c a e d;rw[this]at f;cases f
   ·simp_all
def Ord3.lt_le {lt:α->α->Bool} (o:Ord3 lt K) {a b c:α} (d:lt a b=true) (f:lt c b=false):lt a c=true:=by
 rcases o.tri b c with h | h | h
 ·exact o.trans a b c d h
 ·rcases o.tri a c with e | e | e
  ·trivial
  ·rw[o.irr a b (by simp_all)]at d;cases d
  ·have:=o.trans c a b e d;rw[this]at f;cases f
 ·simp_all
def Ord3.le_lt {lt:α->α->Bool} (o:Ord3 lt K) {a b c:α} (f:lt b a=false) (d:lt b c=true):lt a c=true:=by
 rcases o.tri a b with h | h | h
 ·exact o.trans a b c h d
 ·rcases o.tri a c with e | e | e
  ·trivial
  ·rw[o.irr b c (by simp_all)]at d;cases d
  ·have:=o.trans b c a d e;rw[this]at f;cases f
 ·simp_all
def SrtL (lt:α->α->Bool) (l:List α):Prop:=l.Pairwise λa b=>lt b a=false
def ClsL [DecidableEq κ] (K:α->κ) (r l:List α):Prop:=∀c,r.filter (λx=>decide (K x=c))=l.filter (λx=>decide (K x=c))
def ClsL.refl [DecidableEq κ] (K:α->κ) (l:List α):ClsL K l l:=λ_=>rfl
def ClsL.trans {α κ:Type} [DecidableEq κ] {K:α->κ} {a b c:List α} (d:ClsL K a b) (e:ClsL K b c):ClsL K a c:=λk=>(d k).trans (e k)
def ClsL.append [DecidableEq κ] {a b c d:List α} (e:ClsL K a b) (f:ClsL K c d):ClsL K (a++c) (b++d):=λk=>by rw[Mz,Mz,e k,f k]
def ClsL.perm [DecidableEq κ] [DecidableEq α] {r l:List α} (h:ClsL K r l):r.Perm l:=by rw[List.perm_iff_count];intro a;have b:=congrArg (List.count a) (h (K a));simp_all
def ClsL.length {α κ:Type} [DecidableEq κ] [DecidableEq α] {K:α->κ} {r l:List α} (h:ClsL K r l):r.length=l.length:=h.perm.length_eq
theorem ClsL.swap [DecidableEq κ] {lt:α->α->Bool} (o:Ord3 lt K) {u v:List α} (h: ∀x∈v,∀y∈u,lt x y=true):ClsL K (v++u) (u++v):=by
 intro c;by_cases a: ∃y∈u,K y=c
 ·obtain ⟨y,b,rfl⟩:=a;have:v.filter (λx=>decide (K x=K y))= []:=by rw[Qb];intro x d e;have:=o.irr x y (by simp_all);simp_all
  grind
 ·have:u.filter (λx=>decide (K x=c))= []:=by simp_all
  grind
def SrtL.append {lt:α->α->Bool} {a b:List α} (c:SrtL lt a) (d:SrtL lt b) (h: ∀x∈a,∀y∈b,lt y x=false):SrtL lt (a++b):=Nd.2 ⟨c,d,h⟩
def SrtL.left {lt:α->α->Bool} {a b:List α} (h:SrtL lt (a++b)):SrtL lt a:=(Nd.1 h).1
def SrtL.right {lt:α->α->Bool} {a b:List α} (h:SrtL lt (a++b)):SrtL lt b:=(Nd.1 h).2.1
def SrtL.cross {lt:α->α->Bool} {a b:List α} (h:SrtL lt (a++b)): ∀x∈a,∀y∈b,lt y x=false:=(Nd.1 h).2.2
def SrtL.last {lt:α->α->Bool} (o:Ord3 lt K) {a:List α} (h:SrtL lt a) (d:0<a.length): ∀x∈a,lt (a[a.length - 1]'(by omega)) x=false:=by
 intro x c;obtain ⟨i,hi,rfl⟩:=Lt c;rcases Mw i (a.length - 1) with b | b
 ·exact (Ms.1 h) i (a.length - 1) hi (by omega) b
 ·have:i=a.length - 1:=by omega
  subst this;exact o.irr _ _ rfl
def SrtL.first {lt:α->α->Bool} (o:Ord3 lt K) {a:List α} (h:SrtL lt a) (c:0<a.length): ∀x∈a,lt x (a[0]'c)=false:=by
 intro x d;obtain ⟨i,hi,rfl⟩:=Lt d;rcases Qr i with b | b
 ·subst b;exact o.irr _ _ rfl
 ·exact (Ms.1 h) 0 i (by omega) hi b
def mergeParts [DecidableEq κ] [DecidableEq α] {lt:α->α->Bool} (o:Ord3 lt K) {a c d b r1 r2:List α} (A:SrtL lt (a++c)) (B:SrtL lt (d++b)) (g: ∀x∈d,∀y∈c,lt x y=true) (t: ∀x∈a,∀y∈b,lt y x=false) (j:SrtL lt r1) (h:ClsL K r1 (a++d)) (k:SrtL lt r2) (i:ClsL K r2 (c++b)):
    SrtL lt (r1++r2)/\ClsL K (r1++r2) ((a++c)++(d++b)):=by
 refine ⟨j.append k ?_,?_⟩
 ·intro x l y m;have n:=h.perm.mem_iff.1 l;have p:=i.perm.mem_iff.1 m;rcases Nz.1 n with e | e<;>rcases Nz.1 p with f | f
  ·exact A.cross x e y f
  ·simp_all
  ·exact o.asym (g x e y f)
  ·exact B.cross x e y f
 ·refine (h.append i).trans ?_;have q:(a++d)++(c++b)=a++((d++c)++b):=by simp
  have s:(a++c)++(d++b)=a++((c++d)++b):=by simp
  rw[q,s];exact (ClsL.refl K a).append ((ClsL.swap o g).append (ClsL.refl K b))
def halve {body:Int × Int->Option (Ctl (Int × Int) (Ctl Int ρ))} (p:Nat->Bool) (a b:Nat) (o:a<=b) (n: ∀i j:Nat,a<=i->i<j->j<=b->body ((i:Int),(j:Int))=some (.go (if p ((i+j) / 2) then ((((i+j) / 2+1:Nat):Int),(j:Int)) else ((i:Int),(((i+j) / 2:Nat):Int))))) (q: ∀i:Nat,a<=i->i<=b->body ((i:Int),(i:Int))=some (.done (.go (i:Int)))):
    ∃c:Nat,a<=c/\c<=b/\(a<c->p (c - 1)=true)/\(c<b->p c=false)/\loopO body ((a:Int),(b:Int))=some (.go (c:Int)):=by
 have key: ∀d i j:Nat,j - i<=d->a<=i->i<=j->j<=b->(a<i->p (i - 1)=true)->(j<b->p j=false)->
  ∃c:Nat,a<=c/\c<=b/\(a<c->p (c - 1)=true)/\(c<b->p c=false)/\loopO body ((i:Int),(j:Int))=some (.go (c:Int)):=by
  intro d
  induction d with
  | zero=>
    intro i j s e t f k l;obtain rfl:i=j:=by omega
    exact ⟨i,e,f,k,l,by rw[zE,q i e f]⟩
  | succ d ih=>
    intro i j s e t f k l;rcases Mw i j with h | h
    ·cases m:p ((i+j) / 2) with
     | true=>obtain ⟨c,g⟩:=ih ((i+j) / 2+1) j (by omega) (by omega) (by omega) f (λ_=>by trivial) l;refine ⟨c,g.1,g.2.1,g.2.2.1,g.2.2.2.1,?_⟩;rw[zE,n i j e h f,m];simp_all
     | false=>obtain ⟨c,g⟩:=ih i ((i+j) / 2) (by omega) e (by omega) (by omega) k (λ_=>m);refine ⟨c,g.1,g.2.1,g.2.2.1,g.2.2.2.1,?_⟩;rw[zE,n i j e h f,m];simp_all
    ·obtain rfl:i=j:=by omega
     simp_all
 exact key (b - a) a b (Mf _) (Mf _) o (Mf _) (λh=>by omega) (λh=>by omega)
theorem zps (X Y Z:List α) (a b:α) (i j:Int) (hi:i=(X.length:Int)) (f:j=((X.length+1+Y.length:Nat):Int)):
 idx (X++a::(Y++b::Z)) i=some a/\idx (X++a::(Y++b::Z)) j=some b/\idx ((X++a::(Y++b::Z)).set i.toNat b) j=some b/\idx ((X++a::(Y++b::Z)).set j.toNat a) i=some a/\
 ((X++a::(Y++b::Z)).set i.toNat b).set j.toNat a=X++b::(Y++a::Z)/\((X++a::(Y++b::Z)).set j.toNat a).set i.toNat b=X++b::(Y++a::Z):=by
 subst hi f;have g: ∀(c:α) (T:List α),idx (X++c::T) (X.length:Int)=some c:=by unfold idx;simp
 have h: ∀(c d:α),idx (X++c::(Y++d::Z)) ((X.length+1+Y.length:Nat):Int)=some d:=by unfold idx;grind
 have k: ∀(c d e:α),(X++c::(Y++d::Z)).set (X.length+1+Y.length) e=X++c::(Y++e::Z):=by intro c d e;rw[Om _ _ (by omega),show X.length+1+Y.length - X.length=Y.length+1 by omega,List.set_cons_succ,Om _ _ (Mf _),Rs];rfl
 simp only[Mg];simp_all
def zwQ (X Z:List α) (a:α) (i:Int) (hi:i=(X.length:Int)):idx (X++a::Z) i=some a:=by subst hi;unfold idx;simp
def zt {body:τ->Option (Ctl τ (Ctl ρ R))} {s0:τ} {k:ρ->Option R} {A:R} (I:Nat->τ->Prop) (n:Nat) (Q:Ctl ρ R->Prop) (a:I 0 s0) (h: ∀k s,k<n->I k s->(∃s',body s=some (.go s')/\I (k+1) s')\/(∃r,body s=some (.done r)/\Q r)) (b: ∀s,I n s->∃r,body s=some (.done r)/\Q r) (c: ∀r,Q r->bindC (some r) k=some A):bindC (loopO body s0) k=some A:=by obtain ⟨r,d,e⟩:=z7 I n Q a h b;simp_all
def zQ (l:List α) (t:Nat) (h:t<l.length):l.take (t+1)=l.take t++ [l[t]]:=by simp
theorem zln (P A Q B S:List Ac) (a b n:Int) (d:a=(P.length:Int)) (e:b=((P.length+A.length+Q.length:Nat):Int)) (f:n=(A.length:Int)) (E:B.length=A.length) (hl:P.length+A.length+Q.length+B.length<=4611686018427387904):
 zr (P++(A++(Q++(B++S)))) a b n=some (P++(B++(Q++(A++S)))):=by
 unfold zr;rw[zo (λt=>((t:Int),P++(B.take t++(A.drop t++(Q++(A.take t++(B.drop t++S))))))) A.length (r:=.go (P++(B++(Q++(A++S))))) ?h0]
 case h0=>simp
 ·rfl
 ·intro t c;have D:t<B.length:=by omega
  have g:P++(B.take t++(A.drop t++(Q++(A.take t++(B.drop t++S)))))=(P++B.take t)++A[t]::((A.drop (t+1)++(Q++A.take t))++B[t]::(B.drop (t+1)++S)):=by rw[Ls c,Ls D];simp only[Mh,Ng,Mx]
  have h:P++(B.take (t+1)++(A.drop (t+1)++(Q++(A.take (t+1)++(B.drop (t+1)++S)))))=(P++B.take t)++B[t]::((A.drop (t+1)++(Q++A.take t))++A[t]::(B.drop (t+1)++S)):=by rw[zQ B t D,zQ A t c];simp only[Mh,Ng,Mx]
  have i:J8 ((P.length:Int)+(t:Int))=((P.length+t:Nat):Int):=by rw[za];omega
  have j:J8 (((P.length+A.length+Q.length:Nat):Int)+(t:Int))=((P.length+A.length+Q.length+t:Nat):Int):=by rw[za];omega
  have k:J8 ((t:Int)+1)=((t+1:Nat):Int):=by rw[za];omega
  obtain ⟨l,m,o,p,q,s⟩:=zps (P++B.take t) (A.drop (t+1)++(Q++A.take t)) (B.drop (t+1)++S) A[t] B[t] ((P.length+t:Nat):Int) ((P.length+A.length+Q.length+t:Nat):Int)
   (by grind) (by grind)
  simp_all
 ·grind
theorem zzj (P U V S:List Ac) (a m b:Int) (v:a=(P.length:Int)) (w:m=((P.length+U.length:Nat):Int)) (x:b=((P.length+U.length+V.length:Nat):Int)) (O:0<U.length) (W:0<V.length) (hl:P.length+U.length+V.length<=4611686018427387904):
 zS (P++(U++(V++S))) a m b=some (P++(V++(U++S))):=by
 subst v w x;unfold zS;have y:J8 (((P.length+U.length:Nat):Int) - (P.length:Int))=(U.length:Int):=by rw[za];omega
 have z:J8 (((P.length+U.length+V.length:Nat):Int) - ((P.length+U.length:Nat):Int))=(V.length:Int):=by rw[za];omega
 rw[y,z];refine zt (λk s=>∃(i j:Nat) (E F I G:List Ac),s=((i:Int),(j:Int),E++(F++(I++G)))/\F.length=i/\I.length=j/\0<i/\0<j/\E.length+i=P.length+U.length/\E.length+i+j<=P.length+U.length+V.length/\i+j+k<=U.length+V.length/\E++(I++(F++G))=P++(V++(U++S)))
  (U.length+V.length)
  (λr=>∃(i:Nat) (E F I G:List Ac),r= .go ((i:Int),E++(F++(I++G)))/\F.length=i/\I.length=i/\E.length+i=P.length+U.length/\E.length+i+i<=P.length+U.length+V.length/\E++(I++(F++G))=P++(V++(U++S)))
  ⟨U.length,V.length,P,U,V,S,rfl,rfl,rfl,O,W,rfl,Mf _,Mf _,rfl⟩ ?hs ?hf ?hk
 case hs=>
  rintro k _ hk ⟨i,j,E,F,I,G,rfl,g,l,p,q,d,u,C,o⟩
  rcases Ok i j with h | h | h
  ·left;obtain ⟨Q,B,rfl,M⟩: ∃Q B,I=Q++B/\B.length=i:=⟨I.take (j - i),I.drop (j - i),(Mj _ _).symm,by grind⟩;rw[Lr]at l;have f:J8 (((P.length+U.length:Nat):Int) - (i:Int))=(E.length:Int):=by rw[za];omega
   have D:J8 (J8 (((P.length+U.length:Nat):Int)+(j:Int)) - (i:Int))=((E.length+F.length+Q.length:Nat):Int):=by rw[za (n:=((P.length+U.length:Nat):Int)+(j:Int)),za];omega
   have t:J8 ((j:Int) - (i:Int))=((j - i:Nat):Int):=by rw[za];omega
   refine ⟨((i:Int),((j - i:Nat):Int),E++(B++(Q++(F++G)))),?_,i,j - i,E,B,Q,F++G,rfl,M,by omega,p,by omega,d,by omega,by omega,?_⟩
   ·have c:=zln E F Q B G _ _ _ f D (show (i:Int)=(F.length:Int) by omega) (by omega) (by omega);have e:E++(F++(Q++B++G))=E++(F++(Q++(B++G))):=by simp
    simp only[e,c,t,Lm];rw[iP (by grind),iN (by grind)];rfl
   ·rw[<-o];simp
  ·right;subst h;refine ⟨.go ((i:Int),E++(F++(I++G))),?_,i,E,F,I,G,rfl,g,l,d,u,o⟩;simp
  ·left;obtain ⟨A,Q,rfl,J⟩: ∃A Q,F=A++Q/\A.length=j:=⟨F.take j,F.drop j,(Mj _ _).symm,by grind⟩;rw[Lr]at g;have f:J8 (((P.length+U.length:Nat):Int) - (i:Int))=(E.length:Int):=by rw[za];omega
   have t:J8 ((i:Int) - (j:Int))=((i - j:Nat):Int):=by rw[za];omega
   refine ⟨(((i - j:Nat):Int),(j:Int),(E++I)++(Q++(A++G))),?_,i - j,j,E++I,Q,A,G,rfl,by omega,J,by omega,q,by grind,by grind,by omega,?_⟩
   ·have c:=zln E A Q I G _ ((P.length+U.length:Nat):Int) (j:Int) f (by omega) (by omega) (by omega) (by omega);have e:E++(A++Q++(I++G))=E++(A++(Q++(I++G))):=by simp
    simp only[e,c,t,Lm];rw[iP (by grind),iP];simp
   ·rw[<-o];simp
 case hf=>
  rintro _ ⟨i,j,E,F,I,G,rfl,g,l,p,q,d,u,C,o⟩
  omega
 case hk=>
  rintro _ ⟨i,E,F,I,G,rfl,g,l,p,q,d⟩
  simp only[zd]
  have f:J8 (((P.length+U.length:Nat):Int) - (i:Int))=(E.length:Int):=by rw[za];omega
  have c:=zln E F [] I G _ ((P.length+U.length:Nat):Int) (i:Int) f (by simp_all) (by omega) (by omega) (by grind)
  simp only[Mx]at c
  rw[c,<-d]
  rfl
def entOrd3:Ord3 entLt (λe:Ac=>(e.q,e.c)) where
 tri a b:=by
  cases h:entLt a b with
  | true=>exact .inl rfl
  | false=>
    by_cases g:a.q=b.q/\a.c=b.c
    ·simp_all
    ·exact .inr (.inr (zpQ g h))
 irr a b h:=by
  have d:a.q=b.q:=congrArg Prod.fst h
  have f:a.c=b.c:=congrArg Prod.snd h
  unfold entLt
  rw[d,f,zI]
  simp
 trans a b c d f:=zjk d f
abbrev keyE (e:Ac):J3 × Int:=(e.q,e.c)
def zwI (a b:Ac):((zx a b).bind λR=>some (Dc (R<0)))=some (entLt a b):=by obtain ⟨r,c,d,_⟩:=zff a b;simp_all
theorem zre (P M S:List Ac) (a b:Int) (n:a=(P.length:Int)) (o:b=((P.length+M.length:Nat):Int)) (hl:P.length+M.length+S.length<=4611686018427387904):
 ∃R,zq (P++(M++S)) a b=some (P++(R++S))/\SrtL entLt R/\ClsL keyE R M:=by
 subst n o;unfold zq;have w0:J8 ((P.length:Int)+1)=((P.length+1:Nat):Int):=by rw[za];omega
 refine zbx (τ:=Int × List Ac) (ρ:=List Ac) (R:=List Ac) (λx=>∃R,x=some (P++(R++S))/\SrtL entLt R/\ClsL keyE R M)
  (λk s=>∃R,s=(((P.length+(k+1):Nat):Int),P++(R++(M.drop (k+1)++S)))/\SrtL entLt R/\ClsL keyE R (M.take (k+1))) (M.length - 1)
  (λr=>∃R,r= .go (P++(R++S))/\SrtL entLt R/\ClsL keyE R M) ⟨M.take 1,?_,?_,ClsL.refl _ _⟩ ?_ ?_ ?_
 ·have e:M.take 1++(M.drop 1++S)=M++S:=by rw[<-Mh,Mj]
  simp_all
 ·cases M with
  | nil=>exact List.Pairwise.nil
  | cons x M0=>simp[SrtL]
 ·rintro k _ A ⟨R,rfl,hs,d⟩;left;have h:k+1<M.length:=by omega
  have hRl:R.length=k+1:=by rw[d.length,Nb];omega
  have B:M.drop (k+1)=M[k+1]::M.drop (k+2):=Ls h;have i:Dc (((P.length+(k+1):Nat):Int)<((P.length+M.length:Nat):Int))=true:=dT;simp only[i,iT];refine zbx (τ:=Int × List Ac) (ρ:=List Ac) (R:=Ctl (Int × List Ac) (Ctl (List Ac) (List Ac)))
   (λx=>∃s',x=some (.go s')/\∃Z,s'=(((P.length+(k+1+1):Nat):Int),P++(Z++(M.drop (k+1+1)++S)))/\SrtL entLt Z/\ClsL keyE Z (M.take (k+1+1)))
   (λt s=>∃V U,R=V++U/\V.length+t=k+1/\s=(((P.length+V.length:Nat):Int),P++(V++(M[k+1]::(U++(M.drop (k+2)++S)))))/\∀y∈U,entLt M[k+1] y=true) (k+1)
   (λr=>∃V U,R=V++U/\r= .go (P++(V++(M[k+1]::(U++(M.drop (k+2)++S)))))/\(∀y∈U,entLt M[k+1] y=true)/\∀y∈V,entLt M[k+1] y=false)
   ⟨R,[],by simp,by omega,by grind,by simp⟩ ?_ ?_ ?_
  ·rintro t _ j ⟨V,U,rfl,l,rfl,f⟩;have W:0<V.length:=by omega
   obtain ⟨O,y,rfl⟩: ∃O y,V=O++ [y]:=⟨V.dropLast,V.getLast (by grind),(Pn _).symm⟩;rw[Lr,Mu]at l W;have p:J8 (((P.length+(O++ [y]).length:Nat):Int) - 1)=((P.length+O.length:Nat):Int):=by rw[Lr,Mu,za];omega
   obtain ⟨C,D,E,F,G,H⟩:=zps (P++O) [] (U++(M.drop (k+2)++S)) y M[k+1] ((P.length+O.length:Nat):Int) ((P.length+(O++ [y]).length:Nat):Int) (by simp) (by grind);have i:Dc (((P.length+(O++ [y]).length:Nat):Int)>(P.length:Int))=true:=by grind
   cases g:entLt M[k+1] y with
   | true=>
     left;refine ⟨(((P.length+O.length:Nat):Int),P++(O++(M[k+1]::((y::U)++(M.drop (k+2)++S))))),?_,O,y::U,by simp,by omega,rfl,?_⟩
     ·have q:=zwI M[k+1] y;simp_all
     ·simp_all
   | false=>
     right;refine ⟨.go (P++(O++ [y]++(M[k+1]::(U++(M.drop (k+2)++S))))),?_,O++ [y],U,rfl,rfl,f,?_⟩
     ·have q:=zwI M[k+1] y;simp_all
     ·intro z I;have J:=SrtL.last entOrd3 hs.left (by simp);have:entLt y z=false:=by simp_all
      exact entOrd3.le_trans this g
  ·rintro _ ⟨V,U,rfl,l,rfl,f⟩;have W:V= []:=Mr (by omega);subst W;refine ⟨.go (P++([]++(M[k+1]::(U++(M.drop (k+2)++S))))),?_,[],U,rfl,rfl,f,by simp⟩;simp
  ·rintro _ ⟨V,U,rfl,rfl,g,L⟩;refine ⟨(((P.length+(k+2):Nat):Int),P++((V++M[k+1]::U)++(M.drop (k+2)++S))),?_,V++M[k+1]::U,rfl,?_,?_⟩
   ·have p:J8 (((P.length+(k+1):Nat):Int)+1)=((P.length+(k+2):Nat):Int):=by rw[za];omega
    simp_all
   ·refine hs.left.append ?_ ?_
    ·exact Lw.2 ⟨λy c=>entOrd3.asym (g y c),hs.right⟩
    ·intro x w y c;rcases Nn.1 c with rfl | c
     ·simp_all
     ·exact hs.cross x w y c
   ·have j:M.take (k+2)=M.take (k+1)++ [M[k+1]]:=zQ M (k+1) h;rw[show k+1+1=k+2 from rfl,j];have N:V++M[k+1]::U=V++([M[k+1]]++U):=rfl;refine ((ClsL.refl keyE V).append (ClsL.swap (K:=keyE) entOrd3 (u:=U) (v:=[M[k+1]]) ?_)).trans ?_
    ·simp_all
    ·rw[<-Mh];exact d.append (ClsL.refl _ _)
 ·rintro _ ⟨R,rfl,hs,d⟩;have m:M.length - 1+1>=M.length:=by omega
  rw[Lv m]at d;rw[Ml m];grind
 ·simp_all
theorem znd (X V S:List α) (k:Nat) (i:Int) (hi:i=(k:Int)) (a:X.length<=k) (b:k - X.length<V.length):idx (X++(V++S)) i=some V[k - X.length]:=by unfold idx;grind
theorem zhX {lt:α->α->Bool} {V:List α} (A:SrtL lt V) (q:α->Bool) (c: ∀x y,lt y x=false->q y=true->q x=true) (hi: ∀x,lt x x=false) (k:Nat) (d:k<=V.length):
 ((∀h:0<k,q (V[k - 1]'(by omega))=true)->∀x∈V.take k,q x=true)/\((∀h:k<V.length,q V[k]=false)->∀x∈V.drop k,q x=false):=by
 have e:=Ms.1 A;constructor
 ·intro h x a;obtain ⟨i,b,rfl⟩:=Lt a;grind
 ·intro h x a;obtain ⟨i,b,rfl⟩:=Lt a;grind
def zsg {body:Int × Int->Option (Ctl (Int × Int) (Ctl Int R))} {f:Int->Option R} (G:Option R->Prop) (p:Nat->Bool) (a b:Nat) (i j:Int) (hi:i=(a:Int)) (h:j=(b:Int)) (d:a<=b) (e: ∀i j:Nat,a<=i->i<j->j<=b->body ((i:Int),(j:Int))=some (.go (if p ((i+j) / 2) then ((((i+j) / 2+1:Nat):Int),(j:Int)) else ((i:Int),(((i+j) / 2:Nat):Int))))) (g: ∀i:Nat,a<=i->i<=b->body ((i:Int),(i:Int))=some (.done (.go (i:Int)))) (k: ∀c:Nat,a<=c->c<=b->(a<c->p (c - 1)=true)->(c<b->p c=false)->G (f (c:Int))):G (bindC (loopO body (i,j)) f):=by obtain ⟨c,l,m,n,o,q⟩:=halve p a b d e g;simp_all
def znc (i j:Nat) (h:i+j<=4611686018427387904):J8 (ishr .u64 (IntKind.u64.wrap (J8 ((i:Int)+(j:Int)))) 1)=(((i+j) / 2:Nat):Int):=by rw[zwO (by omega) (by omega)];omega
def zp6 (a b:Ac) (k:Bool->Option τ):((zx a b).bind λR=>k (Dc (R<0)))=k (entLt a b):=by obtain ⟨r,c,d,_⟩:=zff a b;simp_all
theorem zAy (f_:Nat) (P V S:List Ac) (u:Ac) (a m b:Int) (C:a=(P.length:Int)) (D:m=((P.length+1:Nat):Int)) (E:b=((P.length+1+V.length:Nat):Int)) (hl:P.length+1+V.length+S.length<=1048576) (hV:SrtL entLt V):
 ∃R,zf (f_+1) (P++(u::(V++S))) a m b=some (P++(R++S))/\SrtL entLt R/\ClsL keyE R ([u]++V):=by
 subst C D E;rw[zf];have w0:Dc (J8 (((P.length+1:Nat):Int) - (P.length:Int))=1)=true:=by rw[za];exact dT
 simp only[w0,iT];have eX:P++(u::(V++S))=(P++ [u])++(V++S):=by simp
 have lX:(P++ [u]).length=P.length+1:=by simp
 refine zsg (λx=>∃R,x=some (P++(R++S))/\SrtL entLt R/\ClsL keyE R ([u]++V)) (λh=>if g:h - (P.length+1)<V.length then entLt V[h - (P.length+1)] u else false) (P.length+1) (P.length+1+V.length) _ _ rfl rfl (by omega) ?_ ?_ ?_
 ·intro i j F G l;have H:Dc ((i:Int)<(j:Int))=true:=dT;have g:(i+j) / 2 - (P.length+1)<V.length:=by omega
  have n:idx (P++(u::(V++S))) (((i+j) / 2:Nat):Int)=some V[(i+j) / 2 - (P.length+1)]:=by rw[eX,znd (P++ [u]) V S ((i+j) / 2) _ rfl (by omega) (by omega)];simp
  have f:idx (P++(u::(V++S))) (P.length:Int)=some u:=zwQ _ _ _ _ rfl;have I:J8 ((((i+j) / 2:Nat):Int)+1)=(((i+j) / 2+1:Nat):Int):=by rw[za];omega
  simp only[H,iT,znc i j (by omega),n,f,Lm,I,dif_pos g];rw[zp6 _ _ (λq=>bindC (if q=true then _ else _) _)];cases entLt V[(i+j) / 2 - (P.length+1)] u<;>rfl
 ·simp
 ·intro c F G l J;obtain ⟨k,rfl⟩: ∃k,c=P.length+1+k:=⟨c - (P.length+1),by omega⟩;have K:k<=V.length:=by omega
  obtain ⟨o,p⟩:=zhX hV (λx=>entLt x u) (λx y h L=>entOrd3.le_lt h L) (λx=>entOrd3.irr x x rfl) k K;have w:=o (λM=>by
   have e:P.length+1+k - 1 - (P.length+1)=k - 1:=by omega
   grind)
  have z:=p (λM=>by simp_all);generalize hV1:V.take k=V1 at w;generalize hV2:V.drop k=V2 at z;have hVe:V=V1++V2:=by rw[<-hV1,<-hV2,Mj]
  have hV1l:V1.length=k:=by grind
  clear hV1 hV2 l J o p;subst hVe;have O:J8 (((P.length+1+k:Nat):Int) - 1)=((P.length+k:Nat):Int):=by rw[za];omega
  refine zbx (τ:=Int × List Ac) (ρ:=List Ac) (R:=List Ac) (λx=>∃R,x=some (P++(R++S))/\SrtL entLt R/\ClsL keyE R ([u]++(V1++V2)))
   (λt s=>s=(((P.length+t:Nat):Int),P++(V1.take t++(u::(V1.drop t++(V2++S)))))) k (λr=>r= .go (P++((V1++u::V2)++S))) ?_ ?_ ?_ ?_
  ·simp
  ·rintro t _ Q rfl;left;have A:t<V1.length:=by omega
   have n:P++(V1.take t++(u::(V1.drop t++(V2++S))))=(P++V1.take t)++u::([]++V1[t]::(V1.drop (t+1)++(V2++S))):=by rw[Ls A];simp only[Mh,Ng,Mx]
   have f:P++(V1.take (t+1)++(u::(V1.drop (t+1)++(V2++S))))=(P++V1.take t)++V1[t]::([]++u::(V1.drop (t+1)++(V2++S))):=by rw[zQ V1 t A];simp only[Mh,Ng,Mx]
   have T:J8 (((P.length+t:Nat):Int)+1)=((P.length+(t+1):Nat):Int):=by rw[za];omega
   obtain ⟨U,W,X,Y,Z,q6⟩:=zps (P++V1.take t) [] (V1.drop (t+1)++(V2++S)) u V1[t] ((P.length+t:Nat):Int) ((P.length+(t+1):Nat):Int)
    (by grind) (by grind)
   simp_all
  ·grind
  ·rintro _ rfl;refine ⟨V1++u::V2,rfl,?_,?_⟩
   ·refine hV.left.append (Lw.2 ⟨λy d=>z y d,hV.right⟩) ?_;intro x B y d;rcases Nn.1 d with rfl | d
    ·exact entOrd3.asym (w x B)
    ·exact hV.cross x B y d
   ·have f:V1++u::V2=(V1++ [u])++V2:=by simp
    have N: [u]++(V1++V2)=([u]++V1)++V2:=by simp
    rw[f,N];refine (ClsL.swap entOrd3 (u:=[u]) (v:=V1) ?_).append (ClsL.refl _ _);simp_all
theorem zzx (f_:Nat) (P U S:List Ac) (v:Ac) (a m b:Int) (B:a=(P.length:Int)) (C:m=((P.length+U.length:Nat):Int)) (D:b=((P.length+U.length+1:Nat):Int)) (hU1:1<U.length) (hl:P.length+1+U.length+S.length<=1048576) (hU:SrtL entLt U):
 ∃R,zf (f_+1) (P++(U++(v::S))) a m b=some (P++(R++S))/\SrtL entLt R/\ClsL keyE R (U++ [v]):=by
 subst B C D;rw[zf];have w0:Dc (J8 (((P.length+U.length:Nat):Int) - (P.length:Int))=1)=false:=by rw[za];exact dF
 have g:Dc (J8 (((P.length+U.length+1:Nat):Int) - ((P.length+U.length:Nat):Int))=1)=true:=by rw[za];exact dT
 simp only[w0,g,iT,Lo,iF];refine zsg (λx=>∃R,x=some (P++(R++S))/\SrtL entLt R/\ClsL keyE R (U++ [v])) (λh=>if l:h - P.length<U.length then !entLt v U[h - P.length] else false) P.length (P.length+U.length) _ _ rfl rfl (by omega) ?_ ?_ ?_
 ·intro i j E F n;have G:Dc ((i:Int)<(j:Int))=true:=dT;have l:(i+j) / 2 - P.length<U.length:=by omega
  have o:idx (P++(U++(v::S))) (((i+j) / 2:Nat):Int)=some U[(i+j) / 2 - P.length]:=znd P U (v::S) ((i+j) / 2) _ rfl (by omega) (by omega);have e:idx (P++(U++(v::S))) ((P.length+U.length:Nat):Int)=some v:=by rw[<-Mh];exact zwQ _ _ _ _ (by simp)
  have g:J8 ((((i+j) / 2:Nat):Int)+1)=(((i+j) / 2+1:Nat):Int):=by rw[za];omega
  simp only[G,iT,znc i j (by omega),o,e,Lm,g,dif_pos l];rw[zp6 _ _ (λq=>bindC (if !q then _ else _) _)];cases entLt v U[(i+j) / 2 - P.length]<;>rfl
 ·simp
 ·intro c E F n H;obtain ⟨k,rfl⟩: ∃k,c=P.length+k:=⟨c - P.length,by omega⟩;have I:k<=U.length:=by omega
  obtain ⟨p,w⟩:=zhX hU (λx=>!entLt v x) (λx y h z=>by
   simp only[On]at z |-
   exact entOrd3.le_trans h z) (λx=>entOrd3.irr x x rfl) k I
  have J:=p (λK=>by grind);have L:=w (λK=>by simp_all);generalize hU1:U.take k=U1 at J;generalize hU2:U.drop k=U2 at L;have hUe:U=U1++U2:=by rw[<-hU1,<-hU2,Mj]
  have hU1l:U1.length=k:=by grind
  clear hU1 hU2 n H p w;subst hUe;rw[Lr]at*;refine zbx (τ:=Int × List Ac) (ρ:=List Ac) (R:=List Ac) (λx=>∃R,x=some (P++(R++S))/\SrtL entLt R/\ClsL keyE R ((U1++U2)++ [v]))
   (λt s=>s=(((P.length+(U1.length+(U2.length - t)):Nat):Int),P++(U1++(U2.take (U2.length - t)++(v::(U2.drop (U2.length - t)++S)))))) U2.length (λr=>r= .go (P++((U1++v::U2)++S))) ?_ ?_ ?_ ?_
  ·simp
  ·rintro t _ O rfl;left;obtain ⟨d,Q⟩: ∃d,U2.length - t=d+1:=⟨U2.length - t - 1,by omega⟩;have T:U2.length - (t+1)=d:=by omega
   have A:d<U2.length:=by omega
   have o:P++(U1++(U2.take (d+1)++(v::(U2.drop (d+1)++S))))=(P++(U1++U2.take d))++U2[d]::([]++v::(U2.drop (d+1)++S)):=by rw[zQ U2 d A];simp only[Mh,Ng,Mx]
   have e:P++(U1++(U2.take d++(v::(U2.drop d++S))))=(P++(U1++U2.take d))++v::([]++U2[d]::(U2.drop (d+1)++S)):=by rw[Ls A];simp only[Mh,Ng,Mx]
   have V:J8 (((P.length+(U1.length+(d+1)):Nat):Int) - 1)=((P.length+(U1.length+d):Nat):Int):=by rw[za];omega
   obtain ⟨W,X,Y,Z,q5,q6⟩:=zps (P++(U1++U2.take d)) [] (U2.drop (d+1)++S) U2[d] v ((P.length+(U1.length+d):Nat):Int) ((P.length+(U1.length+(d+1)):Nat):Int)
    (by grind) (by grind)
   grind
  ·simp_all
  ·rintro _ rfl;refine ⟨U1++v::U2,rfl,?_,?_⟩
   ·refine hU.left.append (Lw.2 ⟨λy f=>entOrd3.asym (by simp_all),hU.right⟩) ?_;intro x M y f;rcases Nn.1 f with rfl | f
    ·simp_all
    ·exact hU.cross x M y f
   ·have e:U1++v::U2=U1++([v]++U2):=by simp
    have N:(U1++U2)++ [v]=U1++(U2++ [v]):=by simp
    rw[e,N];refine (ClsL.refl _ _).append (ClsL.swap entOrd3 (u:=U2) (v:=[v]) ?_);simp_all
def zqe (x y:Bool) (h:Option (List Ac)) (D A:List Ac) (k:List Ac->Option R) (b:x=true->y=true->h=some A) (a: ¬(x=true/\y=true)->D=A):
    ((if x=true then some y else some false).bind λT=>bindC (if T=true then (h.bind λR=>some (.go R)) else some (.go D)) k)=k A:=by
 cases x with
 | false=>rw[a (by simp)];rfl
 | true=>simp_all
theorem zwz: ∀(f_:Nat) (P U V S:List Ac) (a m b:Int) (A M B:Nat) (N:a=(A:Int)) (O:m=(M:Int)) (Q:b=(B:Int)) (hA:A=P.length) (hM:M=A+U.length) (hB:B=M+V.length) (hU0:0<U.length) (hV0:0<V.length)
 (s:U.length+V.length<=2 ^ f_) (hl:P.length+U.length+V.length+S.length<=1048576) (hU:SrtL entLt U) (hV:SrtL entLt V),
 ∃R,zf f_ (P++(U++(V++S))) a m b=some (P++(R++S))/\SrtL entLt R/\ClsL keyE R (U++V):=by
 intro f_;induction f_ with
 | zero=>omega
 | succ f_ ih=>
   intro P U V S a m b A M B N O Q hA hM hB hU0 hV0 s hl hU hV;rcases Mw 1 U.length with hU1 | hU1
   rcases Mw 1 V.length with hV1 | hV1
   ·
    rw[zf];subst N O Q;have w0:Dc (J8 ((M:Int) - (A:Int))=1)=false:=by rw[za];exact dF
    have E:Dc (J8 ((B:Int) - (M:Int))=1)=false:=by rw[za];exact dF
    obtain ⟨D,hD⟩: ∃D,D=(A+B) / 2:=⟨_,rfl⟩;have T:=znc A B (by omega);rw[<-hD]at T;have Y:J8 ((D:Int)+(M:Int))=((D+M:Nat):Int):=by rw[za];omega
    have Z:J8 (((D+M:Nat):Int) - 1)=((D+M - 1:Nat):Int):=by rw[za];omega
    simp only[w0,E,T,Y,Z,Lo,iF];obtain ⟨s0,g,hs,b1,b2,b3,b4,b5,b6,b7⟩: ∃s0 g:Nat,(if Dc ((M:Int)>(D:Int)) then (some (Ctl.go (ρ:=List Ac) (J8 (((D+M:Nat):Int) - (B:Int)),(D:Int)))) else (some (.go ((A:Int),(M:Int)))))=some (.go ((s0:Int),(g:Int)))/\
     A<=s0/\s0<=g/\g<=M/\g<=D/\D+M<=s0+B/\(g=D\/g=M)/\(s0=A\/s0+B=D+M):=by
     rcases Mw D M with h | h
     ·refine ⟨D+M - B,D,?_,by omega,by omega,by omega,by omega,by omega,by omega,by omega⟩;rw[iP (dT),za];congr 3;omega
     ·refine ⟨A,M,?_,by omega,by omega,by omega,by omega,by omega,by omega,by omega⟩;rw[iN (by simp;omega)]
    rw[hs,zd];clear hs;refine zsg (λx=>∃R,x=some (P++(R++S))/\SrtL entLt R/\ClsL keyE R (U++V)) (λc=>if f:c - A<U.length/\D - 1 - c<V.length then !entLt (V[D - 1 - c]'f.2) (U[c - A]'f.1) else false) s0 g _ _ rfl rfl b2 ?_ ?_ ?_
    ·intro i j t w k;have F:Dc ((i:Int)<(j:Int))=true:=dT;have f:(i+j) / 2 - A<U.length/\D - 1 - (i+j) / 2<V.length:=by omega
     have w5:J8 (((D+M - 1:Nat):Int) - (((i+j) / 2:Nat):Int))=((D+M - 1 - (i+j) / 2:Nat):Int):=by rw[za];omega
     have z:idx (P++(U++(V++S))) (((i+j) / 2:Nat):Int)=some (U[(i+j) / 2 - A]'f.1):=by rw[znd P U (V++S) ((i+j) / 2) _ rfl (by omega) (by omega)];congr 2;omega
     have C:idx (P++(U++(V++S))) ((D+M - 1 - (i+j) / 2:Nat):Int)=some (V[D - 1 - (i+j) / 2]'f.2):=by rw[<-Mh,znd (P++U) V S (D+M - 1 - (i+j) / 2) _ rfl (by rw[Lr];omega) (by rw[Lr];omega)];congr 2;rw[Lr];omega
     have E:J8 ((((i+j) / 2:Nat):Int)+1)=(((i+j) / 2+1:Nat):Int):=by rw[za];omega
     simp only[F,iT,znc i j (by omega),w5,z,C,Lm,E,dif_pos f];rw[zp6 _ _ (λq=>bindC (if !q then _ else _) _)];cases entLt (V[D - 1 - (i+j) / 2]'f.2) (U[(i+j) / 2 - A]'f.1)<;>rfl
    ·intro i t w;have F:Dc ((i:Int)<(i:Int))=false:=dF;simp only[F];rfl
    ·intro c t w k p;have G:c - A<=U.length:=by omega
     have H:D - c<=V.length:=by omega
     have x1: ∀x∈V.take (D - c),∀y∈U.drop (c - A),entLt x y=true:=by
      rcases Mw c g with l | l
      ·have f:c - A<U.length/\D - 1 - c<V.length:=by omega
       have p:=p l;rw[dif_pos f]at p;simp only[Qq]at p;have I:=(zhX hV (λx=>entLt x (U[c - A]'f.1)) (λx y h d=>entOrd3.le_lt h d) (λx=>entOrd3.irr x x rfl) (D - c) H).1 (λJ=>by
        have e:D - c - 1=D - 1 - c:=by omega
        simp only[e];exact p)
       intro x n y o;have t2:=(zhX hU (λy=>!entLt x y) (λK y2 h d=>by
        simp only[On]at d |-
        cases L:entLt x K with
        | false=>rfl
        | true=>rw[entOrd3.lt_le L h]at d;cases d) (λx=>entOrd3.irr x x rfl) (c - A) G).2 (λJ=>by rw[I x n];rfl) y o
       simpa using t2
      ·intro x n y o;rcases b6 with e | e
       ·have:D - c=0:=by omega
        rw[this]at n;simp at n
       ·grind
     have x2: ∀x∈U.take (c - A),∀y∈V.drop (D - c),entLt y x=false:=by
      rcases Mw s0 c with l | l
      ·have k:=k l;have f:c - 1 - A<U.length/\D - 1 - (c - 1)<V.length:=by refine Decidable.byContradiction λhn=>?_;rw[dif_neg hn]at k;cases k
       rw[dif_pos f]at k;simp only[On]at k;have I:=(zhX hV (λy=>entLt y (U[c - 1 - A]'f.1)) (λx y h d=>entOrd3.le_lt h d) (λx=>entOrd3.irr x x rfl) (D - c) H).2 (λJ=>by
        have e:D - c=D - 1 - (c - 1):=by omega
        simp only[e];exact k)
       intro x n y o;have t2:=(zhX hU (λx=>!entLt y x) (λK y2 h d=>by
        simp only[On]at d |-
        cases L:entLt y K with
        | false=>rfl
        | true=>rw[entOrd3.lt_le L h]at d;cases d) (λx=>entOrd3.irr x x rfl) (c - A) G).1 (λJ=>by
          have e:c - A - 1=c - 1 - A:=by omega
          simp only[e];rw[I y o];rfl) x n
       simpa using t2
      ·intro x n y o;rcases b7 with e | e
       ·have:c - A=0:=by omega
        rw[this]at n;simp at n
       ·rw[Ml (by omega)]at o;simp at o
     have hUe:U=U.take (c - A)++U.drop (c - A):=(Mj _ _).symm;have hVe:V=V.take (D - c)++V.drop (D - c):=(Mj _ _).symm;have l1:(U.take (c - A)).length=c - A:=by rw[Nb];omega
     have l2:(U.drop (c - A)).length=M - c:=by rw[My];omega
     have l3:(V.take (D - c)).length=D - c:=by rw[Nb];omega
     have l4:(V.drop (D - c)).length=B+c - (D+M):=by rw[My];omega
     generalize U.take (c - A)=U1 at*;generalize U.drop (c - A)=U2 at*;generalize V.take (D - c)=V1 at*;generalize V.drop (D - c)=V2 at*;subst hUe hVe;clear k p G H;have w6:J8 (((D+M:Nat):Int) - (c:Int))=((D+M - c:Nat):Int):=by rw[za];omega
     simp only[Lr]at hM hB hl s;obtain ⟨R1,s1,W,q1,q2⟩: ∃R1,SrtL entLt R1/\ClsL keyE R1 (U1++V1)/\
      (Dc ((A:Int)<(c:Int))=true->Dc ((c:Int)<(D:Int))=true->zf f_ (P++(U1++(V1++(U2++(V2++S))))) (A:Int) (c:Int) (D:Int)=some (P++(R1++(U2++(V2++S)))))/\
      (¬(Dc ((A:Int)<(c:Int))=true/\Dc ((c:Int)<(D:Int))=true)->P++(U1++(V1++(U2++(V2++S))))=P++(R1++(U2++(V2++S)))):=by
      by_cases l:A<c/\c<D
      ·obtain ⟨R1,z,C,X⟩:=ih P U1 V1 (U2++(V2++S)) (A:Int) (c:Int) (D:Int) A c D rfl rfl rfl hA (by omega) (by omega) (by omega) (by omega) (by rw[Pl]at s;omega) (by simp only[Lr];omega) hU.left hV.left;exact ⟨R1,C,X,λ_ _=>z,λh=>absurd ⟨dT,dT⟩ h⟩
      ·refine ⟨U1++V1,?_,ClsL.refl _ _,λh d=>absurd ⟨by have:=of_decide_eq_true h;omega,by have:=of_decide_eq_true d;omega⟩ l,λ_=>by simp⟩;have:U1= []\/V1= []:=by
        rcases Mw A c with h | h
        ·exact .inr (Mr (by omega))
        ·exact .inl (Mr (by omega))
       rcases this with e | e
       ·subst e;exact hV.left
       ·subst e;rw[Ns];exact hU.left
     have hR1:R1.length=D - A:=by rw[W.length,Lr];omega
     obtain ⟨R2,s2,k2,q3,q4⟩: ∃R2,SrtL entLt R2/\ClsL keyE R2 (U2++V2)/\
      (Dc ((D:Int)<((D+M - c:Nat):Int))=true->Dc (((D+M - c:Nat):Int)<(B:Int))=true->zf f_ (P++(R1++(U2++(V2++S)))) (D:Int) ((D+M - c:Nat):Int) (B:Int)=some (P++(R1++R2++S)))/\
      (¬(Dc ((D:Int)<((D+M - c:Nat):Int))=true/\Dc (((D+M - c:Nat):Int)<(B:Int))=true)->P++(R1++(U2++(V2++S)))=P++(R1++R2++S)):=by
      by_cases l:D<D+M - c/\D+M - c<B
      ·obtain ⟨R2,z,C,X⟩:=ih (P++R1) U2 V2 S (D:Int) ((D+M - c:Nat):Int) (B:Int) D (D+M - c) B rfl rfl rfl (by rw[Lr];omega) (by omega) (by omega) (by omega) (by omega) (by rw[Pl]at s;omega) (by simp only[Lr];omega) hU.right hV.right;grind
      ·refine ⟨U2++V2,?_,ClsL.refl _ _,λh d=>absurd ⟨by have:=of_decide_eq_true h;omega,by have:=of_decide_eq_true d;omega⟩ l,λ_=>by simp⟩;have:U2= []\/V2= []:=by
        rcases Mw D (D+M - c) with h | h
        ·exact .inr (Mr (by omega))
        ·exact .inl (Mr (by omega))
       rcases this with e | e
       ·subst e;exact hV.right
       ·subst e;rw[Ns];exact hU.right
     refine ⟨R1++R2,?_,mergeParts entOrd3 hU hV x1 x2 s1 W s2 k2⟩;simp only[w6];rw[zqe _ _ _ _ (P++(U1++(V1++(U2++(V2++S))))),zqe _ _ _ _ _ _ q1 q2,zqe _ _ _ _ _ _ q3 q4]
     ·intro h d;have h:=of_decide_eq_true h;have d:=of_decide_eq_true d;have:=zzj (P++U1) U2 V1 (V2++S) (c:Int) (M:Int) ((D+M - c:Nat):Int) (by rw[Lr];omega) (by rw[Lr];omega) (by rw[Lr];omega) (by omega) (by omega) (by rw[Lr];omega);simp only[Mh]at this |-
      exact this
     ·intro h;have:U2= []\/V1= []:=by
       rcases Mw c M with t | t
       ·refine .inr (Mr ?_);rcases Mw M (D+M - c) with w | w
        ·exact absurd ⟨dT,dT⟩ h
        ·omega
       ·exact .inl (Mr (by omega))
      rcases this with e | e
      ·subst e;simp
      ·subst e;simp
   ·obtain ⟨v,rfl⟩: ∃v,V= [v]:=by
     match V,hV0,hV1 with
     | [v],_,_=>exact ⟨v,rfl⟩
    exact zzx f_ P U S v a m b (by omega) (by omega) (by simp only[Mu]at hB;omega) hU1 (by simp only[Mu]at hl;omega) hU
   ·obtain ⟨u,rfl⟩: ∃u,U= [u]:=by
     match U,hU0,hU1 with
     | [u],_,_=>exact ⟨u,rfl⟩
    simp only[Mu]at hl hM;exact zAy f_ P V S u a m b (by omega) (by omega) (by omega) (by omega) hV
theorem zp7 (P Y A:List α) (i z:Nat) (h:i+z<=P.length):((P++Y).drop i).take z=((P++A).drop i).take z:=by grind
def zyi (W A S:List α) (i z:Nat) (h:W.length<=i) (a:A.length=W.length):((W++S).drop i).take z=((A++S).drop i).take z:=by rw[Ra,Ra,Ml h,Ml (l:=A) (by omega),a]
def cut3 (X:List α) (i z:Nat):X=X.take i++((X.drop i).take z++X.drop (i+z)):=by rw[show X.drop (i+z)=(X.drop i).drop z by simp,Mj,Mj]
def SrtL.nil {α:Type} {lt:α->α->Bool} :SrtL lt ([]:List α):=List.Pairwise.nil
def zn5 (P U V S:List Ac) (a m b:Int) (A M B:Nat) (c:a=(A:Int)) (d:m=(M:Int)) (e:b=(B:Int)) (E:A=P.length) (G:M=A+U.length) (F:B=M+V.length) (h:0<U.length) (D:0<V.length) (hl:P.length+U.length+V.length+S.length<=1048576) (I:SrtL entLt U) (J:SrtL entLt V):
    ∃R,zu (P++(U++(V++S))) a m b=some (P++(R++S))/\SrtL entLt R/\ClsL keyE R (U++V):=
 zwz 64 P U V S a m b A M B c d e E G F h D (Nt (show U.length+V.length<=1048576 by omega) (by decide)) hl I J
theorem zuH (A:List Ac) (hl:A.length<=1048576) {f:Int × List Ac->Option R} (G:Option R->Prop) (g: ∀(t:Nat) (X:List Ac),X.length=A.length->ClsL keyE X A->t*20<=A.length->A.length<t*20+20->(∀i,i<t->SrtL entLt ((X.drop (i*20)).take 20))->G (f (((t*20:Nat):Int),X))):
 G (bindC (loopO (λ(S1:Int × Int × List Ac)=>if Dc (S1.2.1<=(A.length:Int))then Bd0 (zq S1.2.2 S1.1 S1.2.1) λB=>some (.go (S1.2.1,J8 (S1.2.1+20),B))else some (.done (.go (S1.1,S1.2.2))))
 ((0:Int),(20:Int),A)) f):=by
 refine zbx (τ:=Int × Int × List Ac) (ρ:=Int × List Ac) (R:=R) G
  (λt s=>∃X:List Ac,s=(((t*20:Nat):Int),((t*20+20:Nat):Int),X)/\X.length=A.length/\ClsL keyE X A/\t*20<=A.length/\(∀i,i<t->SrtL entLt ((X.drop (i*20)).take 20)))
  (A.length+1) (λr=>∃(t:Nat) (X:List Ac),r= .go (((t*20:Nat):Int),X)/\X.length=A.length/\ClsL keyE X A/\t*20<=A.length/\A.length<t*20+20/\(∀i,i<t->SrtL entLt ((X.drop (i*20)).take 20)))
  ⟨A,rfl,rfl,ClsL.refl _ _,by omega,λi h=>by omega⟩ ?_ ?_ ?_
 ·rintro t _ j ⟨X,rfl,k,c,l,d⟩;rcases Mw A.length (t*20+20) with h | h
  ·grind
  ·left;have D:=cut3 X (t*20) 20;have J:(X.take (t*20)).length=t*20:=by grind
   have E:((X.drop (t*20)).take 20).length=20:=by grind
   have O:(X.drop (t*20+20)).length=A.length - (t*20+20):=by grind
   generalize X.take (t*20)=P at*;generalize (X.drop (t*20)).take 20=M at*;generalize X.drop (t*20+20)=S at*;subst D;obtain ⟨N,F,hs,a⟩:=zre P M S ((t*20:Nat):Int) ((t*20+20:Nat):Int) (by omega) (by omega) (by omega);have I:N.length=20:=by rw[a.length,E]
   have m:J8 (((t*20+20:Nat):Int)+20)=(((t+1)*20+20:Nat):Int):=by rw[za];omega
   have e:((t+1)*20:Nat)=t*20+20:=by omega
   refine ⟨(((t*20+20:Nat):Int),(((t+1)*20+20:Nat):Int),P++(N++S)),?_,P++(N++S),by rw[e],?_,?_,by omega,?_⟩
   ·grind
   ·simp_all
   ·exact ((ClsL.refl keyE P).append (a.append (ClsL.refl _ _))).trans c
   ·intro i hi;rcases Mw i t with b | b
    ·rw[zp7 P _ (M++S) _ _ (by omega)];exact d i b
    ·grind
 ·omega
 ·simp_all
theorem zwx (E:List Ac) (n z:Nat) (q:E.length=n) (v:0<z) (w:z<n) (hl:n<=262144) (u: ∀i,SrtL entLt ((E.drop (i*z)).take z)) {f:List Ac->Option R} (G:Option R->Prop) (l: ∀(X:List Ac),X.length=n->ClsL keyE X E->(∀i,SrtL entLt ((X.drop (i*(2*z))).take (2*z)))->G (f X)):
 G (bindC (loopO (λ(B:Int × Int × List Ac)=>if Dc (B.2.1<=(n:Int))then Bd0 (zu B.2.2 B.1 (J8 (B.1+(z:Int))) B.2.1) λW=>some (.go (B.2.1,J8 (B.2.1+(J8 ((2:Int)*(z:Int)))),W))else some (.done (.go (B.1,B.2.2))))
 ((0:Int),J8 ((2:Int)*(z:Int)),E))
 (λ(D:Int × List Ac)=>bindC (if Dc (J8 (D.1+(z:Int))<(n:Int))then Bd0 (zu D.2 D.1 (J8 (D.1+(z:Int))) (n:Int)) λZ=>some (.go Z)else some (.go D.2)) f)):=by
 have w0:J8 ((2:Int)*(z:Int))=((2*z:Nat):Int):=by rw[za];omega
 rw[w0];refine zbx (τ:=Int × Int × List Ac) (ρ:=Int × List Ac) (R:=R) G
  (λt s=>∃(c:Nat) (X:List Ac),c=t*(2*z)/\s=((c:Int),((c+2*z:Nat):Int),X)/\X.length=n/\ClsL keyE X E/\c<=n/\(∀i,i<t->SrtL entLt ((X.drop (i*(2*z))).take (2*z)))/\(∀i,c<=i*z->SrtL entLt ((X.drop (i*z)).take z)))
  (n+1) (λr=>∃(t c:Nat) (X:List Ac),c=t*(2*z)/\r= .go ((c:Int),X)/\X.length=n/\ClsL keyE X E/\c<=n/\n<c+2*z/\(∀i,i<t->SrtL entLt ((X.drop (i*(2*z))).take (2*z)))/\(∀i,c<=i*z->SrtL entLt ((X.drop (i*z)).take z)))
  ⟨0,E,by omega,by simp,q,ClsL.refl _ _,by omega,λi h=>by omega,λi _=>u i⟩ ?_ ?_ ?_
 ·rintro t _ x ⟨c,X,m,rfl,j,d,o,g,b⟩;rcases Mw n (c+2*z) with h | h
  ·grind
  ·left;have F:=cut3 X c z;have I:=cut3 (X.drop (c+z)) 0 z;rw[Qg,Mx,Oo,Oq]at I;rw[I]at F;have lP:(X.take c).length=c:=by grind
   have lU:((X.drop c).take z).length=z:=by simp;omega
   have lV:((X.drop (c+z)).take z).length=z:=by grind
   have lS:(X.drop (c+z+(0+z))).length=n - (c+2*z):=by grind
   have M:SrtL entLt ((X.drop c).take z):=by
    have:=b (2*t) (by grind)
    rwa [show 2*t*z=c by grind]at this
   have O:SrtL entLt ((X.drop (c+z)).take z):=by
    have:=b (2*t+1) (by grind)
    rwa [show (2*t+1)*z=c+z by grind]at this
   generalize X.take c=P at*;generalize (X.drop c).take z=U at*;generalize (X.drop (c+z)).take z=V at*;generalize X.drop (c+z+(0+z))=S at*;subst F;obtain ⟨N,J,hs,e⟩:=zn5 P U V S (c:Int) ((c+z:Nat):Int) ((c+2*z:Nat):Int) c (c+z) (c+2*z) rfl rfl rfl (by omega) (by omega) (by omega) (by omega) (by omega) (by omega) M O;have lN:N.length=2*z:=by rw[e.length,Lr,lU,lV];omega
   have y:J8 (((c+2*z:Nat):Int)+((2*z:Nat):Int))=((c+2*z+2*z:Nat):Int):=by rw[za];omega
   have k:J8 ((c:Int)+(z:Int))=((c+z:Nat):Int):=by rw[za];omega
   refine ⟨(((c+2*z:Nat):Int),((c+2*z+2*z:Nat):Int),P++(N++S)),?_,c+2*z,P++(N++S),by grind,rfl,?_,?_,h,?_,?_⟩
   ·rw[iP (dT (by grind))];simp_all
   ·grind
   ·refine ClsL.trans ?_ d;rw[<-Mh U V S];exact (ClsL.refl keyE P).append (e.append (ClsL.refl _ _))
   ·intro i hi;rcases Mw i t with a | a
    ·rw[zp7 P _ (U++(V++S)) _ _ (by have:=Pd (2*z) a;grind)];exact g i a
    ·grind
   ·intro i hi;have:=b i (by omega);rw[<-Mh,zyi (P++N) (P++(U++V)) S _ _ (by simp_all) (by grind)];simp_all
 ·rintro _ ⟨c,X,m,rfl,j,d,o,g,b⟩;have:(n+1)*1<=(n+1)*(2*z):=Oy _ (by omega);omega
 ·rintro _ ⟨t,c,X,m,rfl,j,d,o,A,g,b⟩;rw[zd];have k:J8 ((c:Int)+(z:Int))=((c+z:Nat):Int):=by rw[za];omega
  have M:SrtL entLt ((X.drop c).take z):=by have:=b (2*t) (by grind);grind
  have O:SrtL entLt ((X.drop (c+z)).take z):=by have:=b (2*t+1) (by grind);grind
  have p: ∀(P N:List Ac),P=X.take c->N.length=n - c->SrtL entLt N->∀i,SrtL entLt (((P++N).drop (i*(2*z))).take (2*z)):=by
   intro P N hP lN hs i;have lP:P.length=c:=by simp_all
   rcases Ok i t with a | a | a
   ·have:=g i a;rw[show X=X.take c++X.drop c from (Mj _ _).symm,<-hP]at this;rw[zp7 P N (X.drop c) _ _ (by have:=Pd (2*z) a;grind)];trivial
   ·subst a;rw[Pk (by omega),Ml (by omega),Mx,Lv (by omega)];trivial
   ·have:=Pd (2*z) a;rw[Nat.succ_mul]at this;rw[Ml (by grind),Ro];exact SrtL.nil
  rcases Mw (c+z) n with h | h
  ·rw[k,iP (dT)];have F:=cut3 X c z;have lP:(X.take c).length=c:=by grind
   have lU:((X.drop c).take z).length=z:=by grind
   have lV:(X.drop (c+z)).length=n - (c+z):=by grind
   have lV2:(X.drop (c+z)).take z=X.drop (c+z):=Lv (by omega);rw[lV2]at O;generalize hP:X.take c=P at*;generalize (X.drop c).take z=U at*;generalize X.drop (c+z)=V at*;obtain ⟨N,J,hs,e⟩:=zn5 P U V [] (c:Int) ((c+z:Nat):Int) (n:Int) c (c+z) n rfl rfl rfl (by omega) (by omega) (by omega) (by omega) (by omega) (by grind) M O;simp only[Ns]at J;have lN:N.length=n - c:=by rw[e.length,Lr,lU,lV];omega
   rw[<-F]at J;simp only[J,Lm,zd];refine l (P++N) (by simp_all) ?_ (p P N rfl lN hs);refine ClsL.trans ?_ d;rw[F];exact (ClsL.refl keyE P).append e
  ·rw[k,iN (by grind),zd];refine l X j d ?_;have:=p (X.take c) (X.drop c) rfl (by simp_all) (by rwa [Lv (by grind)]at M);simp_all
theorem zzw (D:List Ac) (hl:D.length<=262144): ∃R,zP D=some R/\SrtL entLt R/\ClsL keyE R D:=by
 unfold zP;suffices h: ∃R,zbl D (D.length:Int)=some R/\SrtL entLt R/\ClsL keyE R D by simp_all
 refine zuH D (by omega) (λx=>∃R,x=some R/\SrtL entLt R/\ClsL keyE R D) ?_;intro t X v l w y A;have G:X=X.take (t*20)++(X.drop (t*20)++ []):=by simp
 have O:(X.take (t*20)).length=t*20:=by grind
 have I:(X.drop (t*20)).length=D.length - t*20:=by grind
 generalize X.take (t*20)=P at*;generalize X.drop (t*20)=M at*;subst G;obtain ⟨N,F,hs,c⟩:=zre P M [] ((t*20:Nat):Int) (D.length:Int) (by omega) (by omega) (by grind);have J:N.length=D.length - t*20:=by rw[c.length];omega
 simp only[F,Lm];have d: ∀i,SrtL entLt (((P++(N++ [])).drop (i*20)).take 20):=by
  intro i;rcases Ok i t with e | e | e
  ·grind
  ·rw[Ns,Pk (by omega),Ml (by omega),Mx,Lv (by omega)];trivial
  ·rw[Ml (by grind),Ro];exact SrtL.nil
 have f:ClsL keyE (P++(N++ [])) D:=((ClsL.refl keyE P).append (c.append (ClsL.refl _ _))).trans l;have g:(P++(N++ [])).length=D.length:=by simp_all
 generalize P++(N++ [])=Y at d f g;refine zbx (τ:=Int × List Ac) (ρ:=List Ac) (R:=List Ac) (λx=>∃R,x=some R/\SrtL entLt R/\ClsL keyE R D)
  (λk s=>∃(z:Nat) (X:List Ac),20+k<=z/\z<=1048576/\s=((z:Int),X)/\X.length=D.length/\ClsL keyE X D/\(∀i,SrtL entLt ((X.drop (i*z)).take z))) D.length
  (λr=>∃X,r= .go X/\SrtL entLt X/\ClsL keyE X D) ⟨20,Y,by omega,by omega,rfl,g,f,d⟩ ?_ ?_ ?_
 ·rintro k _ B ⟨z,X,m,n,rfl,j,a,b⟩;rcases Mw z D.length with h | h
  ·left;rw[iP (dT)];refine zwx (R:=Ctl (Int × List Ac) (Ctl (List Ac) (List Ac))) X D.length z j (by omega) h hl b (λx=>∃s',x=some (.go s')/\∃(z:Nat) (X:List Ac),20+(k+1)<=z/\z<=1048576/\s'=((z:Int),X)/\X.length=D.length/\ClsL keyE X D/\(∀i,SrtL entLt ((X.drop (i*z)).take z))) ?_;intro E o p q;have u:J8 ((z:Int)*2)=((2*z:Nat):Int):=by rw[za];omega
   refine ⟨_,rfl,2*z,E,by omega,by omega,by rw[u],o,p.trans a,q⟩
  ·right;refine ⟨.go X,by grind,X,rfl,?_,a⟩;have:=b 0
   rwa [Rt,Oo,Lv (by omega)]at this
 ·rintro _ ⟨z,X,m,n,rfl,j,a,b⟩;refine ⟨.go X,by grind,X,rfl,?_,a⟩;have:=b 0
  rwa [Rt,Oo,Lv (by omega)]at this
 ·simp_all
theorem zBf [DecidableEq κ] [DecidableEq α] {lt:α->α->Bool} (o:Ord3 lt K): ∀(a b:List α),SrtL lt a->SrtL lt b->ClsL K a b->a=b:=by
 intro a;induction a with
 | nil=>intro b _ _ h;exact (Mr h.length.symm).symm
 | cons x a ih=>
   intro b f d h
   match b,d,h with
   | [],_,h=>exact absurd h.length (by simp)
   | y::b,d,h=>
     have i:K x=K y:=by
      have j:lt x y=false:=by
       rcases Nn.1 (h.perm.mem_iff.1 (Qt)) with e | e
       ·rw[e];exact o.irr y y rfl
       ·exact (Lw.1 d).1 x e
      have k:lt y x=false:=by
       rcases Nn.1 (h.perm.mem_iff.2 (Qt)) with e | e
       ·simp_all
       ·exact (Lw.1 f).1 y e
      rcases o.tri x y with t | t | t
      ·simp_all
      ·exact t
      ·simp_all
     have g:x=y:=by have:=h (K x);simp_all
     subst g;rw[ih b (Lw.1 f).2 (Lw.1 d).2];intro c;have:=h c;grind
def FstL [DecidableEq κ] (K:α->κ) (r l:List α):Prop:=∀c,r.filter (λx=>decide (K x=c))=(l.filter (λx=>decide (K x=c))).take 1
theorem FstL.mem [DecidableEq κ] {r l:List α} (h:FstL K r l) {x:α} (a:x∈r):x∈l:=by have:x∈r.filter (λy=>decide (K y=K x)):=Ri.2 ⟨a,by simp⟩;rw[h (K x)]at this;grind
def zvv (h:ordE l):SrtL entLt l:=List.Pairwise.imp (λh=>entOrd3.asym h) h
def FstL.uniq {r h l':List Ac} (a:ordE r) (b:ordE h) (d:FstL keyE r l) (e:FstL keyE h l') (f:ClsL keyE l l'):r=h:=
 zBf entOrd3 r h (zvv a) (zvv b) λc=>by rw[d c,e c,f c]
def zkS {a:Ac} (h: ∀x∈l,entLt a x=true\/entLt x a=true):l.filter (λx=>decide (keyE x=keyE a))= []:=by
 rw[Qb];intro x c b;have b:keyE x=keyE a:=by simp_all
 rcases h x c with e | e
 ·rw[entOrd3.irr a x b.symm]at e;cases e
 ·rw[entOrd3.irr x a b]at e;cases e
theorem zwH (h:ordE l) (c:J3 × Int):(l.filter (λx=>decide (keyE x=c))).take 1=l.filter (λx=>decide (keyE x=c)):=by
 have a:=h.filter (λx=>decide (keyE x=c))
 match d:l.filter (λx=>decide (keyE x=c)),a with
 | [],_=>rfl
 | [x],_=>rfl
 | x::y::t,a=>
   have b:=(Lw.1 a).1 y (by simp);have e:x∈l.filter (λx=>decide (keyE x=c)):=by simp_all
   have f:y∈l.filter (λx=>decide (keyE x=c)):=by simp_all
   have A:keyE x=c:=by grind
   have B:keyE y=c:=by grind
   rw[entOrd3.irr x y (A.trans B.symm)]at b;cases b
def skp (a:Ac):List Ac->List Ac
 | []=>[]
 | x::r=>if entLt a x=true then x::r else r
def mg:List Ac->List Ac->List Ac
 | [],e=>e
 | a::t,e=>e.takeWhile (λx=>entLt x a)++a::mg t (skp a (e.dropWhile (λx=>entLt x a)))
def zmB (a:Ac): ∀(e:List Ac),ordE e->∀x∈e.dropWhile (λx=>entLt x a),entLt x a=false
 | [],_,x,b=>by trivial
 | y::e,h,x,b=>by
   rw[List.dropWhile_cons]at b;cases c:entLt y a with
   | true=>rw[c,iP rfl]at b;exact zmB a e (Lw.1 h).2 x b
   | false=>
     rw[c]at b;rcases Nn.1 (show x∈y::e from b) with rfl | b
     ·trivial
     ·exact entOrd3.le_trans c (entOrd3.asym ((Lw.1 h).1 x b))
theorem zBB (a:Ac) (l:List Ac) (h:ordE l) (f: ∀x∈l,entLt x a=false):ordE (skp a l)/\(∀x∈skp a l,entLt a x=true)/\∀c,c≠keyE a->(skp a l).filter (λx=>decide (keyE x=c))=l.filter (λx=>decide (keyE x=c)):=by
 match l,h,f with
 | [],_,_=>exact ⟨List.Pairwise.nil,λx b=>by trivial,λc _=>rfl⟩
 | y::t,h,f=>
   have d:=Lw.1 h;have e:skp a (y::t)=if entLt a y=true then y::t else t:=rfl
   rw[e];cases g:entLt a y with
   | true=>
     refine ⟨h,λx b=>?_,λc _=>rfl⟩;rcases Nn.1 b with rfl | b
     ·trivial
     ·exact entOrd3.trans a y x g (d.1 x b)
   | false=>
     have i:keyE a=keyE y:=by
      rcases entOrd3.tri a y with t | t | t
      ·simp_all
      ·exact t
      ·simp_all
     refine ⟨d.2,λx b=>?_,λc j=>?_⟩
     ·exact entOrd3.le_lt (entOrd3.irr y a i.symm) (d.1 x b)
     ·grind
theorem zAd: ∀(l e:List Ac),ordE l->ordE e->ordE (mg l e)/\FstL keyE (mg l e) (l++e):=by
 intro l;induction l with
 | nil=>intro e _ f;exact ⟨f,λc=>(zwH f c).symm⟩
 | cons a t ih=>
   intro e hl f;unfold mg;have j:=Lw.1 hl;have D:e=e.takeWhile (λx=>entLt x a)++e.dropWhile (λx=>entLt x a):=(Pb).symm;have q:=zmB a e f;have h: ∀x∈e.takeWhile (λx=>entLt x a),entLt x a=true:=λx b=>by have:=Mp.1 (List.all_takeWhile (p:=λx=>entLt x a) (l:=e)) x b;trivial
   generalize e.takeWhile (λx=>entLt x a)=E1 at*;generalize e.dropWhile (λx=>entLt x a)=E2 at*;subst D;have g:=Nd.1 f;obtain ⟨s,w,u⟩:=zBB a E2 g.2.1 q;generalize skp a E2=E3 at*;obtain ⟨v,k⟩:=ih E3 j.2 s;have i: ∀x∈mg t E3,entLt a x=true:=λx b=>by
    rcases Nz.1 (k.mem b) with b | b
    ·simp_all
    ·simp_all
   refine ⟨Nd.2 ⟨g.1,Lw.2 ⟨i,v⟩,?_⟩,?_⟩
   ·intro x b y d;rcases Nn.1 d with rfl | d
    ·simp_all
    ·exact entOrd3.trans x a y (h x b) (i y d)
   ·intro c;by_cases m:keyE a=c
    ·subst m;rw[Mz,Qa (by simp),zkS (l:=E1) (a:=a) (λx b=>.inr (h x b)),zkS (l:=mg t E3) (a:=a) (λx b=>.inl (i x b)),Ng,Qa (by simp)];rfl
    ·have n:=k c;rw[Mz]at n;rw[Mz,Nq (by simp_all),n,Ng,Nq (by simp_all),Mz,Mz,u c (λe=>m e.symm)]
     match z:E1.filter (λx=>decide (keyE x=c)) with
     | []=>rw[Mx,Mx]
     | x::r=>
       have b:x∈E1.filter (λx=>decide (keyE x=c)):=by simp_all
       have o:=(Ri.1 b).1;have A:keyE x=c:=by grind
       have B:t.filter (λy=>decide (keyE y=keyE x))= []:=zkS λy d=>.inl (entOrd3.trans x a y (h x o) (j.1 y d));have t2:E2.filter (λy=>decide (keyE y=keyE x))= []:=zkS λy d=>.inl (g.2.2 x o y d);have C:=zwH g.1 (keyE x);grind
def ddA:Option Ac->List Ac->List Ac
 | _,[]=>[]
 | p,x::t=>if p.any (λy=>decide (keyE y=keyE x))=true then ddA (some x) t else x::ddA (some x) t
theorem zzV: ∀(l:List Ac) (y:Ac),SrtL entLt (y::l)->ordE (y::ddA (some y) l)/\∀c,(ddA (some y) l).filter (λx=>decide (keyE x=c))=if keyE y=c then [] else (l.filter (λx=>decide (keyE x=c))).take 1:=by
 intro l;induction l with
 | nil=>intro y _;exact ⟨by simp[ddA,ordE],λc=>by simp[ddA]⟩
 | cons x t ih=>
   intro y h;have b:=Lw.1 h;have k:=Lw.1 b.2;obtain ⟨d,f⟩:=ih x b.2;have j1:=Lw.1 d;by_cases g:keyE y=keyE x
   ·have e:ddA (some y) (x::t)=ddA (some x) t:=by show (if _ then _ else _)=_;simp_all
    rw[e];refine ⟨Lw.2 ⟨λz a=>entOrd3.le_lt (entOrd3.irr x y g.symm) (j1.1 z a),j1.2⟩,λc=>?_⟩;rw[f c,<-g];grind
   ·have e:ddA (some y) (x::t)=x::ddA (some x) t:=by show (if _ then _ else _)=_;simp_all
    rw[e];have i:entLt y x=true:=by
     rcases entOrd3.tri y x with q | q | q
     ·exact q
     ·trivial
     ·simp_all
    refine ⟨Lw.2 ⟨λz a=>?_,d⟩,λc=>?_⟩
    ·rcases Nn.1 a with rfl | a
     ·trivial
     ·exact entOrd3.trans y x z i (j1.1 z a)
    ·by_cases j:keyE x=c
     ·subst j;simp_all
     ·rw[Nq (by simp_all),Nq (by simp_all),f,iN j];by_cases m:keyE y=c
      ·subst m;rw[iP rfl,zkS (λz a=>.inl (entOrd3.lt_le i (k.1 z a)))];rfl
      ·simp_all
def zzU (l:List Ac) (h:SrtL entLt l):ordE (ddA none l)/\FstL keyE (ddA none l) l:=by
 match l,h with
 | [],_=>exact ⟨List.Pairwise.nil,λc=>rfl⟩
 | x::t,h=>
   obtain ⟨b,d⟩:=zzV t x h;have e:ddA none (x::t)=x::ddA (some x) t:=rfl;rw[e];refine ⟨b,λc=>?_⟩;by_cases a:keyE x=c
   ·subst a;simp_all
   ·rw[Nq (by simp_all),Nq (by simp_all),d,iN a]
def zi2: ∀(L:List (List Ac)) (A F:List Ac),(∀e∈L,ordE e)->ordE A->FstL keyE A F->ordE (L.foldl mg A)/\FstL keyE (L.foldl mg A) (F++L.flatten):=by
 intro L;induction L with
 | nil=>intro A F _ a b;simpa using ⟨a,b⟩
 | cons e L ih=>
   intro A F h a b;obtain ⟨d,f⟩:=zAd A e a (h e (by simp));have:=ih (mg A e) (F++e) (λe' g=>h e' (List.mem_cons_of_mem _ g)) d (λc=>by
    rw[f c,Mz,Mz,b c]
    match F.filter (λx=>decide (keyE x=c)) with
    | []=>rfl
    | x::r=>rfl)
   simp_all
def zru (l:List α) (b:Nat) (hi:Int) (a:hi=(b:Int)) (c:b<=l.length):piece l 0 hi=some (l.take b):=by rw[zT l 0 b 0 hi rfl a (by omega) c];simp
def zcX (l:List (List Ac)):l.flatten.length=totalV l:=by unfold totalV;simp
theorem zwd (n:Nat) (h:n<=1048576):zc2 (n:Int)=some []:=by
 unfold zc2;rw[iN (by simp)];have a:J8 (((0:Nat):Int) - ((([]:List Ac).length:Nat):Int))=0:=by rfl
 have b:J8 ((n:Int) - 0)=(n:Int):=by rw[za];omega
 simp only[a,b];rcases Qr n with c | c
 ·simp_all
 ·have z:zapp 48 (n:Int)=some n:=by unfold zapp;grind
  rw[iP (dT),z];rfl
theorem zyo (l:List (List Ac)) (h:l.length<=1048576) (i:totalV l<=1048576):zfM l=some l.flatten:=by
 have b: ∀k,k<=l.length->totalV (l.take k)<=totalV l:=by intro k _;have:=zcX l;have e:=zcX (l.take k);rw[<-Mj k l,Ql,Lr]at this;simp_all;omega
 have c: ∀k (a:k<l.length),(l.take (k+1)).flatten=(l.take k).flatten++l[k]:=by intro k a;rw[zQ l k a,Ql];simp
 have d: ∀k (a:k<l.length),totalV (l.take (k+1))=totalV (l.take k)+l[k].length:=by intro k a;rw[<-zcX,c k a,Lr,zcX]
 refine zbx (τ:=Int × Int) (ρ:=Int) (R:=List Ac) (λx=>x=some l.flatten) (λk s=>s=((totalV (l.take k):Int),(k:Int))) l.length (λr=>r= .go (totalV l:Int)) ?_ ?_ ?_ ?_
 ·rfl
 ·rintro k _ a rfl;left;have f:idx l (k:Int)=some l[k]:=zb l k a;have j:=d k a;have m:=b (k+1) (by omega);have n:J8 ((totalV (l.take k):Int)+(l[k].length:Int))=(totalV (l.take (k+1)):Int):=by rw[za];omega
  have g:J8 ((k:Int)+1)=((k+1:Nat):Int):=by rw[za];omega
  grind
 ·simp
 ·rintro _ rfl;rw[zd,zwd _ i];refine zbx (τ:=Int × List Ac) (ρ:=List Ac) (R:=List Ac) (λx=>x=some l.flatten) (λk s=>s=((k:Int),(l.take k).flatten)) l.length (λr=>r= .go l.flatten) ?_ ?_ ?_ ?_
  ·rfl
  ·rintro k _ a rfl;left;have f:idx l (k:Int)=some l[k]:=zb l k a;have j:=d k a;have m:=b (k+1) (by omega);have o:=zcX (l.take k);have g:J8 ((k:Int)+1)=((k+1:Nat):Int):=by rw[za];omega
   refine ⟨_,?_,rfl⟩;simp only[f,Lm,g];rw[iP (dT),ze (by omega) (by omega),c k a];rfl
  ·simp
  ·simp
def zpT (a b:Ac):zfv a b=some (Dc (keyE a=keyE b)):=by
 unfold zfv;by_cases c:a.q=b.q
 ·simp_all
 ·simp_all
def zyu (y x:Ac) (t:List Ac):ddA (some y) (x::t)=if keyE y=keyE x then ddA (some x) t else x::ddA (some x) t:=by show (if _ then _ else _)=_;simp
theorem zv9 (s:List Ac) (h:s.length<=1048576):z9 s=some (ddA none s):=by
 unfold z9;by_cases c:s.length<2
 ·rw[iP (dT)]
  match s,c with
  | [],_=>rfl
  | [x],_=>rfl
  | _::_::_,c=>simp at c;omega
 ·rw[iN (by grind)];refine zbx (τ:=Int) (ρ:=Unit) (R:=List Ac) (λx=>x=some (ddA none s)) (λt i=>i=((t+1:Nat):Int)/\∃h:t<s.length,ddA none s=s.take (t+1)++ddA (some s[t]) (s.drop (t+1))) (s.length - 1)
   (λr=>(r= .go ()/\ddA none s=s)\/r= .done (ddA none s)) ⟨rfl,by omega,?_⟩ ?_ ?_ ?_
  ·match s,c with
   | [],c=>simp at c
   | x::t,_=>rfl
  ·rintro t _ M ⟨rfl,v,a⟩;have d:t+1<s.length:=by omega
   have C:idx s ((t+1:Nat):Int)=some s[t+1]:=zb s (t+1) d;have D:J8 (((t+1:Nat):Int) - 1)=((t:Nat):Int):=by rw[za];omega
   have E:J8 (((t+1:Nat):Int)+1)=((t+1+1:Nat):Int):=by rw[za];omega
   have F:idx s ((t:Nat):Int)=some s[t]:=zb s t v;rw[Ls d,zyu]at a;have G:Dc (((t+1:Nat):Int)<(s.length:Int))=true:=dT;simp only[G,iT,C,D,F,Lm,zpT];by_cases n:keyE s[t+1]=keyE s[t]
   ·rw[iP (dT n)];rw[iP n.symm]at a;rw[zT s (t+1) s.length _ _ rfl rfl (by omega) (by omega)];right;refine zbx (τ:=Int × Int × List Ac) (ρ:=Int × List Ac) (R:=Ctl Int (Ctl Unit (List Ac))) (λx=>∃r,x=some (.done r)/\((r= .go ()/\ddA none s=s)\/r= .done (ddA none s)))
     (λu q=>∃(k:Nat) (s':List Ac),q=((k:Int),((u+1:Nat):Int),s')/\s'.length=s.length/\k<=t+1+u/\s'.drop (t+1+u)=s.drop (t+1+u)/\∃h:t+1+u<s.length,ddA none s=s'.take k++ddA (some s[t+1+u]) (s.drop (t+1+u+1))) (s.length - (t+2))
     (λr=>∃(k:Nat) (s':List Ac),r= .go ((k:Int),s')/\s'.length=s.length/\k<=s.length/\ddA none s=s'.take k)
     ⟨t+1,s,rfl,rfl,by omega,rfl,d,a⟩ ?_ ?_ ?_
    ·rintro u _ w ⟨k,s',rfl,g,y,f,z,b⟩;left;have m:t+1+u+1<s.length:=by omega
     have o:piece s' ((t+1:Nat):Int) (s.length:Int)=some (s'.drop (t+1)):=by rw[zT s' (t+1) s.length _ _ rfl rfl (by omega) (by omega),Lv (by simp_all)]
     have p:Dc (((u+1:Nat):Int)<(((s'.drop (t+1)).length:Nat):Int))=true:=dT (by grind);have A: ∀j (H:t+1+u+j<s.length),idx (s'.drop (t+1)) ((u+j:Nat):Int)=some s[t+1+u+j]:=by intro j H;rw[zb _ (u+j) (by grind),Pa];have:=congrArg (λl=>l[j]?) f;grind
     have I:J8 (((u+1:Nat):Int) - 1)=((u+0:Nat):Int):=by rw[za];omega
     have J:J8 (((u+1:Nat):Int)+1)=((u+1+1:Nat):Int):=by rw[za];omega
     simp only[o,Lm,p,iT,A 1 m,I,A 0 z,zpT,J];rw[Ls m,zyu]at b;by_cases B:keyE s[t+1+u+1]=keyE s[t+1+u]
     ·rw[iP B.symm]at b;rw[iN];refine ⟨_,rfl,k,s',rfl,g,by omega,?_,m,b⟩;have:=congrArg (List.drop 1) f;rw[Oq,Oq]at this;trivial
     ·rw[iN (λe=>B e.symm)]at b;rw[iP (by grind)];have K:idx s' (k:Int)=some s'[k]:=zb s' k (by omega);have L:J8 ((k:Int)+1)=((k+1:Nat):Int):=by rw[za];omega
      simp only[K,Lm,L,Mg];refine ⟨_,rfl,k+1,s'.set k s[t+1+u+1],rfl,by simp_all,by omega,?_,m,?_⟩
      ·rw[List.drop_set_of_lt (by omega)];have:=congrArg (List.drop 1) f;rw[Oq,Oq]at this;trivial
      ·rw[b,List.take_succ_eq_append_getElem (by grind),List.take_set_of_le (by omega)];grind
    ·rintro _ ⟨k,s',rfl,g,y,f,z,b⟩;have w:t+1+(s.length - (t+2))+1=s.length:=by omega
     rw[w,Ot]at b;have o:piece s' ((t+1:Nat):Int) (s.length:Int)=some (s'.drop (t+1)):=by rw[zT s' (t+1) s.length _ _ rfl rfl (by omega) (by omega),Lv (by simp_all)]
     have p:Dc (((s.length - (t+2)+1:Nat):Int)<(((s'.drop (t+1)).length:Nat):Int))=false:=dF (by grind);simp only[o,Lm,p];refine ⟨_,rfl,k,s',rfl,g,by omega,?_⟩;rw[b];exact Ns _
    ·rintro _ ⟨k,s',rfl,g,y,f⟩;rw[zd];rw[zT s' k s'.length _ _ rfl rfl (by omega) (by omega),zru s' k _ rfl (by omega)];simp_all
   ·left;rw[iN,E];rw[iN (λe=>n e.symm)]at a;refine ⟨_,rfl,rfl,d,?_⟩;rw[zQ s (t+1) d,Mh];trivial
  ·rintro _ ⟨rfl,v,a⟩;refine ⟨.go (),?_,.inl ⟨rfl,?_⟩⟩
   ·grind
   ·have e:s.length - 1+1=s.length:=by omega
    rw[e,Rb,Ot]at a;rw[a];exact Ns _
  ·rintro _ (⟨rfl,a⟩ | rfl)
   ·simp_all
   ·rfl
def ztu (l:List (List Ac)) (h:l.length<=1048576) (m:totalV l<=262144) (b: ∀e∈l,ordE e):zco l=some (l.foldl mg []):=by unfold zco;rw[zyo l h (by omega)];simp only[Lm];obtain ⟨R,d,f,a⟩:=zzw l.flatten (by rw[zcX];trivial);have A:R.length=l.flatten.length:=a.length;rw[zcX]at A;rw[d];simp only[Lm];rw[zv9 R (by omega)];simp only[Lm];obtain ⟨g,i⟩:=zzU R f;obtain ⟨j,k⟩:=zi2 l [] [] b List.Pairwise.nil (λc=>rfl);have:ddA none R=l.foldl mg []:=FstL.uniq g j i k a;rw[this];unfold zhb;rw[zru _ _ _ rfl (Mf _),Rb];rfl
theorem zBe (a:Ac) (l:List Ac):(skp a l).length<=l.length:=by
 match l with
 | []=>exact Mf _
 | x::r=>show (if entLt a x=true then x::r else r).length<=_;grind
theorem zy0: ∀(l e:List Ac),(mg l e).length<=l.length+e.length:=by
 intro l;induction l with
 | nil=>intro e;simp[mg]
 | cons a t ih=>
   intro e;have b:=zBe a (e.dropWhile (λx=>entLt x a));have c:(e.takeWhile (λx=>entLt x a)).length+(e.dropWhile (λx=>entLt x a)).length=e.length:=by rw[<-Lr,Pb]
   show (_++_::_).length<=_;grind
theorem zkW: ∀(L:List (List Ac)) (h:List Ac),(L.foldl mg h).length<=h.length+totalV L:=by
 intro L;induction L with
 | nil=>intro h;simp
 | cons e L ih=>
   intro h;have a:=zy0 h e;have b:totalV (e::L)=e.length+totalV L:=by rfl
   grind
def zt2 {l:List (List Ac)} {e:List Ac} (h:e∈l):e.length<=totalV l:=zjj Nv h
def zBx (e:List Ac):mg [] e=e:=rfl
def zA3 (a:Ac) (t e:List Ac):mg (a::t) e=e.takeWhile (λx=>entLt x a)++a::mg t (skp a (e.dropWhile (λx=>entLt x a))):=rfl
def mergeOk (l:List (List Ac)):Bool:=Dc (totalV l<=400)&&l.all entsV
def mergeR (l:List (List Ac)):List Ac:=bif mergeOk l then l.foldl mg [] else []
def zm2 (p:α->Bool) (x:α) (t:List α) (h:p x=false):(x::t).takeWhile p= []/\(x::t).dropWhile p=x::t:=by simp_all
def zm3 (p:α->Bool) (x:α) (t:List α) (h:p x=true):(x::t).takeWhile p=x::t.takeWhile p/\(x::t).dropWhile p=t.dropWhile p:=by simp_all
end Go.Proofs.YtbpngbeifojdeaaGreat
