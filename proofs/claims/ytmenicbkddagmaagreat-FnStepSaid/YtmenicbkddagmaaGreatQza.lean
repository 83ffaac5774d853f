/-
  The plain laws: what the pure functions come to, and the statements. Conditions: none.
-/
import Derived.Test.YtmenicbkddagmaaGreatSk
import Derived.Test.YtmenicbkddagmaaGreatQ8
set_option linter.unusedVariables false
set_option linter.unusedSimpArgs false
set_option linter.defProp false
open Decidable renaming decide->Dc
open Option renaming bind_some->An,bind_eq_some_iff->Dk,bind_assoc->Fl
open Bool renaming false_eq_true->Ba,not_true->Bf,and_eq_true->Bm,not_false->Bt,true_and->Cj,or_eq_true->Dq,and_true->El,false_or->Eo,false_and->Ey,and_self->Fc,not_eq_true->Fq,and_false->Gb,or_false->Gg
open BitVec renaming ofInt->Bh,ofInt_natCast->Dy,toNat_ofNat->Ej,toNat_and->Fs
open List renaming drop_eq_getElem_cons->Bl,getElem_of_mem->Bo,all_eq_true->Bw,getElem?_eq_getElem->By,getElem_mem->Cq,length_drop->Cr,take_of_length_le->Cy,take_succ_cons->Da,pairwise_iff_getElem->Db,length_append->Dd,length->De,length_cons->Df,length_take->Dg,range->Dh,take_add_one->Dj,take_append_drop->Dm,getElem_take->Dn,filter_eq_self->Dp,mem_append->Ds,append_assoc->Du,eq_nil_of_length_eq_zero->Ea,drop_zero->Ed,replicate->Ee,all_cons->Ek,getElem_drop->Em,any_cons->En,drop_length->Ep,getElem_map->Et,drop_of_length_le->Eu,pairwise_append->Ez,length_pos_iff->Ff,cons_append->Ft,any_append->Fw,length_set->Fz,take_zero->Ge,drop_left->Gf,mem_cons->Gi,any_nil->Gk
open Int renaming toNat_natCast->Bp,tmod->Cv,le_refl->Ew,tdiv->Fv
open Nat renaming le_refl->Bz,and_two_pow_sub_one_eq_mod->Cg,mod_eq_of_lt->Ct,pow_le_pow_right->Cu,le_trans->Cx,min_eq_left->Di,mod_lt->Dl,or_lt_two_pow->Do,zero_le->Dx,div_le_self->Eb,mul_le_mul_left->Ec,two_pow_add_eq_or_of_lt->Eg,xor_lt_two_pow->Eh,lt_of_le_of_lt->Ei,ble_eq_true_of_le->Ev,ble->Fa,add_sub_cancel->Fh,zero_add->Fi,pow_succ->Fj,lt_trichotomy->Fk,and_le_left->Fx,mul_comm->Gm
open Option.some renaming injEq->Fm
open Prod.mk renaming injEq->Gj
open UInt8 renaming toNat->Gn
noncomputable section
open Go.IntKind renaming i64->I6
namespace Go.Proofs.YtmenicbkddagmaaGreat
open Go Sl
variable {α ρ β:Type} {a n b k x:Nat} {l:List Ac} {e:Aa} {secret s rest t:List UInt8} {body:Int->Option (Ctl Int (Ctl Unit Bool))} {f:α->Option β}
theorem zP (n a b:Int):zA n a b=some (Dc (a<=n/\n<=b)):=by unfold zA;grind
theorem zba (n a b:Int):zt n a b=some (Dc (a<=n/\n<=b)):=by unfold zt;grind
theorem zwH (q:Int):zgz q=zfi q:=by
 unfold zgz zfi;rw[zP,zba];simp only[An];by_cases h:0<=q/\q<=1000
 ·simp only[h,decide_true,Bf,Ba,if_false,and_self];rw[za (n:=q+50) (by omega) (by omega),za (n:=q+50 - 1) (by omega) (by omega),za (n:=q+49) (by omega) (by omega),show q+50 - 1=q+49 by omega]
 ·grind
def zjS {l:List α} {i:Int} (a:0<=i) (b:i<l.length):idx l i=some (l[i.toNat]'(by omega)):=by unfold idx;rw[if_pos a,By]
def needV (q:Int):Int:=if 0<=q/\q<=1000 then 2+2*((q+49) / 50) else 0
def zh2 (q:Int):0<=needV q/\needV q<=42:=by unfold needV;split<;>omega
theorem zmP (q:Int):zfi q=some (needV q):=by
 unfold zfi needV;rw[zba];simp only[An];by_cases h:0<=q/\q<=1000
 ·have a:I6.wrap (q+49)=q+49:=za (by omega) (by omega);have b:Fv (q+49) 50=(q+49) / 50:=Int.tdiv_eq_ediv_of_nonneg (by omega);have c:I6.wrap ((q+49) / 50)=(q+49) / 50:=za (by omega) (by omega);have d:I6.wrap (2*((q+49) / 50))=2*((q+49) / 50):=za (by omega) (by omega);have e:I6.wrap (2+2*((q+49) / 50))=2+2*((q+49) / 50):=za (by omega) (by omega);simp_all
 ·grind
def zsb (q:Int):zgz q=some (needV q):=by rw[zwH,zmP]
def zny (n:Int):zbE n=some (Dc (1<=n/\n<=99)):=by unfold zbE;rw[zP];rfl
def zuI (l:List As) (h:l.length<=1048576):0<=(l.map λx=>needV x.S).sum/\(l.map λx=>needV x.S).sum<=42*l.length:=by
 clear h;induction l with
 | nil=>simp
 | cons x l ih=>have:=zh2 x.S;simp only[List.map_cons,List.sum_cons,Df];omega
def zkX (s:Ad) (h:s.r.length<=1048576):zh8 s=some ((s.r.map λx=>needV x.S).sum+if s.r.length>0 then 4 else 0):=by
 unfold zh8;rw[zsP (ρ:=Int) s.r (λx=>zfi x.S) (λx=>needV x.S) (λx _=>zmP _) (λx _=>by have:=zh2 x.S;omega) h 0 (by omega) (by omega)];have:=zuI s.r h;simp only[zd,Int.zero_add];by_cases a:(s.r.length:Int)>0
 ·rw[if_pos (by simp_all),za (by omega) (by omega),if_pos (by omega)];rfl
 ·simp_all
def zp7 (s:Ad) (h:s.r.length<=1048576):zh0 s=some (4+(s.r.map λx=>needV x.S).sum):=by unfold zh0;rw[zsP (ρ:=Int) s.r (λx=>zgz x.S) (λx=>needV x.S) (λx _=>zsb _) (λx _=>by have:=zh2 x.S;omega) h 4 (by omega) (by omega)];rfl
theorem zbz (s:Ad) (h:s.r.length<=1048576):zcL s=zbG s:=by
 unfold zbG zcL;simp only[zba,zP,zny,An,zkX s h,zp7 s h,ge_iff_le];by_cases a:0<=s.I/\s.I<=1000
 ·by_cases b:(s.r.length:Int)>4
  ·grind
  ·simp only[a,b,and_self,decide_true,decide_false,Bf,Ba,if_false,An];congr 1;funext _;by_cases c:s.r.length=0
   ·simp_all
   ·grind
 ·grind
theorem zik: ∀a b:List UInt8,(sLt b a||decide (b=a))= !sLt a b
 | [],[]=>rfl
 | [],b::y=>by rfl
 | a::x,[]=>by rfl
 | a::x,b::y=>by have ih:=zik x y;simp only[sLt]at ih;simp only[sLt,Op.bytesLess];grind
theorem zhH (pass:Nat->Bool) (n:Nat) (h: ∀k,k<n->body (k:Int)=some (if pass k=true then .go ((k:Int)+1) else .done (.done false))) (a:body (n:Int)=some (.done (.go ()))):
 loopO body 0=some (if (Dh n).all pass=true then .go () else .done false):=by
 have key: ∀d k,k+d=n->loopO body (k:Int)=some (if ((Dh n).drop k).all pass=true then .go () else .done false):=by
  intro d;induction d with
  | zero=>
    intro k b;obtain rfl:k=n:=by omega
    rw[zw,a,Eu (by simp)];rfl
  | succ d ih=>
    intro k b;have c:(Dh n).drop k=k::(Dh n).drop (k+1):=by rw[Bl (by grind)];simp
    rw[zw,h k (by omega),c,Ek];grind
 have:=key n 0 (by omega);trivial
theorem ztB (x y:Int):zdQ x y=some (if x<y then -1 else if x>y then 1 else 0):=by unfold zdQ zeR;grind
theorem ztC (x y:List UInt8):zdR x y=some (if sLt x y=true then -1 else if (!(sLt x y||decide (x=y)))=true then 1 else 0):=by unfold zdR zeS;grind
theorem zcZ: ∀{a b c:List UInt8},sLt a b=true->sLt b c=true->sLt a c=true
 | [],[],_,h,_=>by trivial
 | [],_::_,[],_,h=>by trivial
 | [],_::_,_::_,_,_=>rfl
 | _::_,[],_,h,_=>by trivial
 | _::_,_::_,[],_,h=>by trivial
 | x::a,y::b,z::c,d,e=>by
   simp only[sLt,Op.bytesLess,Dq,decide_eq_true_eq,Bm,beq_iff_eq]at d e |-
   rcases d with d | ⟨rfl,d⟩
   ·grind
   ·rcases e with e | ⟨rfl,e⟩
    ·simp_all
    ·exact .inr ⟨rfl,zcZ d e⟩
def zbW (a:List UInt8):sLt a a=false:=by have:=zik a a;simp_all
def entV (e:Ac):Bool:=Dc (1<=(e.j.length:Int)/\(e.j.length:Int)<=10)&&(Dc (0<=e.c/\e.c<=1000000)&&(Dc ((e.M.length:Int)<=16)&&(!e.P||decide (e.M= []))))
def entLt (a b:Ac):Bool:=sLt a.j b.j||(Dc (a.j=b.j)&&Dc (a.c>b.c))
def entP (l:List Ac) (k:Nat):Bool:=match l[k]? with
 | some e=>entV e&&(match k with | 0=>true | j+1=>match l[j]? with | some d=>entLt d e | none=>true)
 | none=>true
theorem zfo (l:List Ac) (k:Nat) (h:k<l.length):entP l k=(entV l[k]&&(if a:0<k then entLt (l[k - 1]'(by omega)) l[k] else true)):=by unfold entP;grind
def entsV (l:List Ac):Bool:=(Dh l.length).all (entP l)
theorem zrP (e:Ac):zi6 e=some (entV e):=by unfold zi6 zfm entV;simp only[zba,An];grind
theorem zv8 (e:Ac):ziX e=some (entV e):=by unfold ziX zfx zbh zfy entV;simp only[zP,An];grind
theorem zdG (a b:Ac):zdh a b=some (entLt a b):=by unfold zdh entLt;grind
def zr0 (x y:Int):zgO [x,y]=some (if x≠0 then x else y):=by
 unfold zgO;by_cases a:x=0
 ·by_cases b:y=0
  ·rw[zk (λk=>(k:Int)) 2 (r:=Ctl.go ()) ?h0]
   case h0=>rfl
   ·simp_all
   ·intro k c;have:k=0\/k=1:=by omega
    rcases this with rfl | rfl
    ·simp[idx,a];rfl
    ·simp[idx,b];rfl
   ·rfl
  ·rw[zw];simp only[idx,a];simp;rw[zw];have:I6.wrap 1=1:=by decide
   simp_all
 ·rw[zw];simp[idx,a]
theorem zpR (a b:Ac): ∃r,zn a b=some r/\Dc (r>=0)= !entLt a b:=by unfold zn entLt;rw[ztC,ztB];simp only[An,zr0];grind
def zl4 (pass:Nat->Bool) (n:Nat) (h: ∀k,k<n->body (k:Int)=some (if pass k=true then .go ((k:Int)+1) else .done (.done false))) (a:body (n:Int)=some (.done (.go ()))):
    bindC (loopO body 0) (λ(_:Unit)=>some true)=some ((Dh n).all pass):=by rw[zhH pass n h a];cases (Dh n).all pass<;>rfl
theorem zfN (l:List Ac) (h:l.length<=1048576):zc1 l=some (entsV l):=by
 unfold zc1 entsV;refine zl4 (entP l) l.length ?_ (by simp);intro k a;simp only[zb l k a,An,zrP];rw[if_pos (by simp_all),za (n:=(k:Int)+1) (by omega) (by omega),zfo l k a];cases d:entV l[k] with
 | false=>simp
 | true=>
   by_cases b:0<k
   ·have c:I6.wrap ((k:Int) - 1)=((k - 1:Nat):Int):=by rw[za (by omega) (by omega)];omega
    rw[dif_pos b,if_neg (by simp),if_pos (by simp_all)];simp only[c,zb l (k - 1) (by omega),An,zdG];grind
   ·simp_all
theorem zjY (l:List Ac) (h:l.length<=1048576):ze9 l=some (entsV l):=by
 unfold ze9 entsV;refine zl4 (entP l) l.length ?_ (by simp);intro k a;simp only[zb l k a,An,zv8];rw[if_pos (by simp_all),za (n:=(k:Int)+1) (by omega) (by omega),zfo l k a];cases g:entV l[k] with
 | false=>simp
 | true=>
   by_cases b:0<k
   ·have d:I6.wrap ((k:Int) - 1)=((k - 1:Nat):Int):=by rw[za (by omega) (by omega)];omega
    obtain ⟨c,e,f⟩:=zpR (l[k - 1]'(by omega)) l[k];rw[dif_pos b,if_neg (by simp),if_pos (by simp_all)];simp only[d,zb l (k - 1) (by omega),An,e,f];grind
   ·simp_all
theorem zgx (a:entsV l=true): ∀(j:Nat) (d:j<l.length) (i:Nat) (hi:i<j),sLt (l[i]'(by omega)).j l[j].j=true\/((l[i]'(by omega)).j=l[j].j/\(l[i]'(by omega)).c>l[j].c):=by
 intro j;induction j with
 | zero=>intro _ i hi;omega
 | succ j ih=>
   intro d i hi;have b:entLt (l[j]'(by omega)) l[j+1]=true:=by unfold entsV at a;rw[Bw]at a;have:=a (j+1) (by simp_all);rw[zfo l (j+1) d,dif_pos (by omega),Bm]at this;simp_all
   unfold entLt at b;simp only[Dq,Bm,decide_eq_true_eq]at b;by_cases e:i=j
   ·simp_all
   ·rcases ih (by omega) i (by omega) with f | ⟨f,h⟩
    ·rcases b with g | ⟨g,_⟩
     ·exact .inl (zcZ f g)
     ·simp_all
    ·grind
def visE (l:List Ac) (seq:Int) (k:Nat):Bool:=match l[k]? with
 | some e=>decide (e.c<=seq)&&(l.take k).all λd=>!(Dc (d.j=e.j)&&Dc (d.c<=seq))
 | none=>false
def zfR (l:List Ac) (seq:Int) (k:Nat) (h:k<l.length):visE l seq k=(Dc (l[k].c<=seq)&&(l.take k).all λd=>!(Dc (d.j=l[k].j)&&Dc (d.c<=seq))):=by unfold visE;rw[By h]
def visL (l:List Ac) (seq:Int):Nat->List KV
 | 0=>[]
 | k+1=>visL l seq k++(match l[k]? with | some e=>if visE l seq k=true/\e.P=false then [⟨e.j,e.M⟩] else [] | none=>[])
def zkj (l:List Ac) (seq:Int) (k:Nat) (h:k<l.length):visL l seq (k+1)=visL l seq k++if visE l seq k=true/\l[k].P=false then [⟨l[k].j,l[k].M⟩] else []:=by show visL l seq k++(match l[k]? with | some e=>_ | none=>_)=_;simp_all
theorem zov (l:List Ac) (seq:Int): ∀k,k<=l.length->(visL l seq k).length<=k:=by
 intro k;induction k with
 | zero=>intro _;simp[visL]
 | succ k ih=>intro h;have:=ih (by omega);rw[zkj l seq k (by omega),Dd];grind
theorem zix (l:List Ac) (key:List UInt8) (seq:Int) (h:l.length<=1048576):
 zdH l key seq=some (match l.find? (λd=>decide (d.j=key)&&Dc (d.c<=seq)) with | some d=>(d,true) | none=>(⟨[],0,false,[]⟩,false)):=by
 unfold zdH;rw[zca (λk s=>s=(k:Int)/\l.find? (λd=>decide (d.j=key)&&Dc (d.c<=seq))=(l.drop k).find? (λd=>decide (d.j=key)&&Dc (d.c<=seq))) l.length
  (match l.find? (λd=>decide (d.j=key)&&Dc (d.c<=seq)) with | some d=>Ctl.done (d,true) | none=>Ctl.go ()) ?h0 ?h1 ?h2]
 ·cases l.find? (λd=>decide (d.j=key)&&Dc (d.c<=seq))<;>rfl
 case h0=>exact ⟨rfl,rfl⟩
 ·rintro k s a ⟨rfl,b⟩;rw[b,Bl a];simp only[zb l k a,An];rw[if_pos (by simp_all),za (n:=(k:Int)+1) (by omega) (by omega)];grind
 ·grind
theorem zrm {seq:Int} (a:k<l.length) (b:visE l seq k=true):l.find? (λd=>decide (d.j=l[k].j)&&Dc (d.c<=seq))=some l[k]:=by
 rw[zfR l seq k a,Bm,Bw]at b;have hs:l=l.take k++l[k]::l.drop (k+1):=by simp
 grind
theorem zsX {seq:Int} (m:entsV l=true) (g:k<l.length) (n:visE l seq k=false):
 ∀d,l.find? (λd=>decide (d.j=l[k].j)&&Dc (d.c<=seq))=some d->¬d.c=l[k].c:=by
 intro d o p;have a:=List.find?_some o;simp only[Bm,decide_eq_true_eq]at a;rw[zfR l seq k g,decide_eq_true (by omega),Cj]at n;have q: ∃e∈l.take k,e.j=l[k].j/\e.c<=seq:=by simp_all
 obtain ⟨e,v,w⟩:=q;have s: ∃f,(l.take k).find? (λd=>decide (d.j=l[k].j)&&Dc (d.c<=seq))=some f:=by
  cases h:(l.take k).find? (λd=>decide (d.j=l[k].j)&&Dc (d.c<=seq)) with
  | some f=>exact ⟨f,rfl⟩
  | none=>grind
 obtain ⟨f,h⟩:=s;have t:f=d:=by have hs:l=l.take k++l.drop k:=(Dm k l).symm;grind
 subst t;obtain ⟨i,hi,rfl⟩:=Bo (List.mem_of_find?_eq_some h);have u:i<k:=by grind
 simp only[Dn]at p a;rcases zgx m k g i u with b | ⟨_,b⟩
 ·rw[a.1,zbW]at b;cases b
 ·omega
theorem zrQ (l:List Ac) (seq:Int) (e:entsV l=true) (h:l.length<=1048576):zi7 l seq=some (visL l seq l.length):=by
 unfold zi7;rw[zk (λk=>((k:Int),visL l seq k)) l.length (r:=Ctl.go (visL l seq l.length)) ?h0]
 case h0=>rfl
 ·rfl
 ·intro k a;have f:=zov l seq k (by omega);simp only[zb l k a,An,zix _ _ _ h,zkj l seq k a];rw[if_pos (by simp_all),za (n:=(k:Int)+1) (by omega) (by omega)];cases b:visE l seq k with
  | true=>
    rw[zrm a b];cases g:l[k].P with
    | true=>simp
    | false=>simp only[Bt,if_true,An,decide_true,and_self];rw[zg (by grind) (by grind)];rfl
  | false=>
    have i:=zsX e a b;cases m:l.find? (λd=>decide (d.j=l[k].j)&&Dc (d.c<=seq)) with
    | none=>simp
    | some d=>simp_all
 ·simp
def lastS (l:List Ac) (seq:Int):Nat->List UInt8 × Bool
 | 0=>([],false)
 | k+1=>match l[k]? with | some e=>if visE l seq k=true then (e.j,true) else lastS l seq k | none=>lastS l seq k
def zlk (l:List Ac) (seq:Int) (k:Nat) (h:k<l.length):lastS l seq (k+1)=if visE l seq k=true then (l[k].j,true) else lastS l seq k:=by show (match l[k]? with | some e=>_ | none=>_)=_;simp_all
theorem zup (l:List Ac) (seq:Int): ∀k,k<=l.length->(lastS l seq k).2=true/\(∃i,∃h:i<l.length,i<k/\visE l seq i=true/\l[i].j=(lastS l seq k).1/\∀j,i<j->j<k->visE l seq j=false)\/(lastS l seq k).2=false/\∀j,j<k->visE l seq j=false:=by
 intro k;induction k with
 | zero=>intro _;exact .inr ⟨rfl,λj a=>by omega⟩
 | succ k ih=>intro b;rw[zlk l seq k (by omega)];grind
theorem zpE (l:List Ac) (seq:Int): ∀(n j:Nat) (d:j<=n) (a:j<l.length),l[j].c<=seq->∃i,∃h:i<l.length,i<=j/\visE l seq i=true/\l[i].j=l[j].j:=by
 intro n;induction n with
 | zero=>
   intro j d a hs;obtain rfl:j=0:=by omega
   exact ⟨0,a,Bz _,by rw[zfR l seq 0 a];simp_all,rfl⟩
 | succ n ih=>
   intro j d a hs;cases b:visE l seq j with
   | true=>exact ⟨j,a,Bz _,b,rfl⟩
   | false=>rw[zfR l seq j a,decide_eq_true hs,Cj,<-Fq,Bw]at b;simp only[Classical.not_forall]at b;obtain ⟨e,f,g⟩:=b;obtain ⟨i,hi,rfl⟩:=Bo f;grind
theorem zsE {seq:Int} (h:entsV l=true) (m:k<l.length) (hs:l[k].c<=seq):visE l seq k= !((lastS l seq k).2&&Dc (l[k].j=(lastS l seq k).1)):=by
 rw[zfR l seq k m,decide_eq_true hs,Cj];rcases zup l seq k (by omega) with ⟨b,i,hi,n,t,u,D⟩ | ⟨b,n⟩
 ·rw[b,Cj];by_cases f:l[k].j=(lastS l seq k).1
  ·rw[decide_eq_true f];show _=false;rw[<-Fq,Bw];intro v;have w:l[i]∈l.take k:=by
    have:(l.take k)[i]'(by grind)=l[i]:=by simp
    grind
   have:=v _ w;rw[zfR l seq i hi,Bm]at t;simp_all
  ·rw[decide_eq_false f,Bt,Bw];intro d g;obtain ⟨j,x,rfl⟩:=Bo g;have y:j<k:=by grind
   simp only[Dn];cases a:(Dc ((l[j]'(by omega)).j=l[k].j)&&Dc ((l[j]'(by omega)).c<=seq)) with
   | false=>rfl
   | true=>
     exfalso;simp only[Bm,decide_eq_true_eq]at a;obtain ⟨q,z,A,B,o⟩:=zpE l seq j j (Bz _) (by omega) a.2;have E:q<=i:=by grind
     have C:l[q].j=l[k].j:=o.trans a.1;refine f ?_;rw[<-u];by_cases e:q=i
     ·simp_all
     ·rcases zgx h i hi q (by omega) with p | ⟨p,_⟩
      ·rcases zgx h k m i n with s | ⟨s,_⟩
       ·have:=zcZ p s;rw[C,zbW]at this;cases this
       ·simp_all
      ·simp_all
 ·rw[b,Ey,Bt,Bw];intro d g;obtain ⟨j,x,rfl⟩:=Bo g;have y:j<k:=by grind
  simp only[Dn];cases a:(Dc ((l[j]'(by omega)).j=l[k].j)&&Dc ((l[j]'(by omega)).c<=seq)) with
  | false=>rfl
  | true=>exfalso;simp only[Bm,decide_eq_true_eq]at a;obtain ⟨q,z,A,B,o⟩:=zpE l seq j j (Bz _) (by omega) a.2;grind
theorem zoT (l:List Ac) (seq:Int) (e:entsV l=true) (h:l.length<=1048576):zg9 l seq=some (visL l seq l.length):=by
 unfold zg9;rw[zk (λk=>((lastS l seq k).1,(lastS l seq k).2,(k:Int),visL l seq k)) l.length (r:=Ctl.go (visL l seq l.length)) ?h0]
 case h0=>rfl
 ·rfl
 ·intro k b;have g:=zov l seq k (by omega);simp only[zb l k b,An,zkj l seq k b,zlk l seq k b];rw[if_pos (by simp_all),za (n:=(k:Int)+1) (by omega) (by omega)];by_cases hs:l[k].c<=seq
  ·have a:=zsE e b hs;generalize lastS l seq k=ls at a |-
   obtain ⟨last,A⟩:=ls;simp only at a |-
   rw[decide_eq_false (by omega)];simp only[Ba,if_false];cases A with
   | false=>
     rw[Ey,Bt]at a;rw[a];cases f:l[k].P with
     | true=>simp
     | false=>simp only[Ba,if_false,if_true,An,Bt,and_self];rw[zg (by grind) (by grind)];rfl
   | true=>
     rw[Cj]at a;by_cases d:l[k].j=last
     ·simp_all
     ·rw[decide_eq_false d]at a;rw[a,decide_eq_false d];cases f:l[k].P with
      | true=>simp
      | false=>simp only[Ba,if_false,if_true,An,Bt,and_self];rw[zg (by grind) (by grind)];rfl
  ·have i:visE l seq k=false:=by rw[zfR l seq k b,decide_eq_false hs,Ey]
   simp_all
 ·simp
def rangeV (l:List Ac):Int × Int:=l.foldl (λs e=>(goMin s.1 e.c,goMax s.2 e.c)) (1000001,-1)
def znB (l:List Ac) (k:Nat) (h:k<l.length):rangeV (l.take (k+1))=(goMin (rangeV (l.take k)).1 l[k].c,goMax (rangeV (l.take k)).2 l[k].c):=by unfold rangeV;rw[show l.take (k+1)=l.take k++ [l[k]] by simp,List.foldl_append];rfl
def zjt (l:List Ac) (h:l.length<=1048576):zeF l=some (rangeV l):=by
 unfold zeF;rw[zk (λk=>((rangeV (l.take k)).1,(rangeV (l.take k)).2,(k:Int))) l.length (r:=Ctl.go (rangeV l)) ?h0]
 case h0=>rfl
 ·rfl
 ·intro k a;simp only[zb l k a,An,znB l k a];rw[if_pos (by simp_all),za (n:=(k:Int)+1) (by omega) (by omega)];rfl
 ·simp
def ziJ (l:List Ac) (h:l.length<=1048576):zc6 l=some (rangeV l):=by
 unfold zc6;rw[zk (λk=>((rangeV (l.take k)).1,(rangeV (l.take k)).2,(k:Int))) l.length (r:=Ctl.go (rangeV l)) ?h0]
 case h0=>rfl
 ·rfl
 ·intro k a;simp only[zb l k a,An,znB l k a];rw[if_pos (by simp_all),za (n:=(k:Int)+1) (by omega) (by omega)];unfold goMin goMax;by_cases b:l[k].c<(rangeV (l.take k)).1<;>by_cases d:l[k].c>(rangeV (l.take k)).2<;>simp[b,d]
 ·simp
def memV (l:List Ac):Bool:=Dc (l.length<=60)&&entsV l
theorem zrJ (l:List Ac) (h:l.length<=1048576):zi2 l=some (memV l):=by unfold zi2 memV;simp only[zfN l h,An];grind
theorem zru (l:List Ac) (h:l.length<=1048576):ziT l=some (memV l):=by unfold ziT memV;simp only[zjY l h,An];grind
def tabsV (seq:Int):Int->List (List Ac)->Bool
 | _,[]=>true
 | low,t::r=>(Dc (t≠[])&&(entsV t&&(Dc ((rangeV t).2<low)&&Dc ((rangeV t).2<=seq))))&&tabsV seq (rangeV t).1 r
def snapP (seq:Int) (l:List Int) (k:Nat):Bool:=match l[k]? with
 | some s=>decide (0<=s/\s<=seq)&&(match k with | 0=>true | j+1=>match l[j]? with | some d=>decide (d<s) | none=>true)
 | none=>true
theorem zjy (seq:Int) (l:List Int) (k:Nat) (h:k<l.length):snapP seq l k=(Dc (0<=l[k]/\l[k]<=seq)&&(if a:0<k then Dc (l[k - 1]'(by omega)<l[k]) else true)):=by unfold snapP;grind
def snapsV (seq:Int) (l:List Int):Bool:=(Dh l.length).all (snapP seq l)
def totalV (l:List (List Ac)):Nat:=(l.map De).sum
def engV (e:Aa):Bool:=(Dc (0<=e.c/\e.c<=1000000)&&(Dc (e.B.length<=4)&&(Dc (e.t.length<=6)&&(Dc (totalV e.t+e.x.length<=400)&&(memV e.x&&(Dc ((rangeV e.x).2<=e.c)&&tabsV e.c (rangeV e.x).1 e.t))))))&&snapsV e.c e.B
def zja (l:List (List Ac)) (k:Nat) (h:k<l.length):totalV (l.take (k+1))=totalV (l.take k)+l[k].length:=by unfold totalV;rw[show l.take (k+1)=l.take k++ [l[k]] by simp,List.map_append,List.sum_append];rfl
theorem zlB (l:List (List Ac)) (k:Nat):totalV (l.take k)<=totalV l:=by
 unfold totalV;conv=>rhs;rw[<-Dm k l]
 grind
def zg8 (l:List (List Ac)) (h:l.length<=1048576) (c:totalV l<=1048576):zd6 l=some (totalV l:Int):=by
 unfold zd6;rw[zk (λk=>((totalV (l.take k):Int),(k:Int))) l.length (r:=Ctl.go (totalV l:Int)) ?h0]
 case h0=>rfl
 ·rfl
 ·intro k a;have b:=zja l k a;have d:=zlB l (k+1);simp only[zb l k a,An,b];rw[if_pos (by simp_all),za (n:=(k:Int)+1) (by omega) (by omega),za (by omega) (by omega)];rfl
 ·simp
theorem zn3 (e:Aa) (h1:e.x.length<=1048576) (h2:e.t.length<=1048576) (d:totalV e.t<=1048576):
 zf5 e=some (Dc (e.t.length<=6)&&(Dc (totalV e.t+e.x.length<=400)&&(memV e.x&&(Dc ((rangeV e.x).2<=e.c)&&tabsV e.c (rangeV e.x).1 e.t)))):=by
 have g: ∀t∈e.t,t.length<=1048576:=λt h=>Cx (zfP De h) d;unfold zf5;rw[zg8 _ h2 d];simp only[zru _ h1,zjt _ h1,An];by_cases j:e.t.length<=6
 ·rw[decide_eq_true j,decide_eq_false (by omega),za (by omega) (by omega)];by_cases l:totalV e.t+e.x.length<=400
  ·rw[decide_eq_true l,decide_eq_false (by omega)];cases p:memV e.x with
   | false=>simp
   | true=>
     by_cases m:(rangeV e.x).2<=e.c
     ·rw[decide_eq_true m,decide_eq_false (by omega)];simp only[Ba,if_false,An,Bf,Cj];rw[zca (λk s=>s.2=(k:Int)/\tabsV e.c (rangeV e.x).1 e.t=tabsV e.c s.1 (e.t.drop k)) e.t.length (bif tabsV e.c (rangeV e.x).1 e.t then Ctl.go () else Ctl.done false) ?h0 ?h1 ?h2]
      case h0=>exact ⟨rfl,rfl⟩
      ·cases tabsV e.c (rangeV e.x).1 e.t<;>rfl
      ·rintro k ⟨A,i⟩ a ⟨rfl,b⟩;have o:e.t.drop k=e.t[k]::e.t.drop (k+1):=Bl a;have f:=g _ (Cq a);rw[b,o];simp only[tabsV,zb e.t k a,An,zjt _ f,zjY _ f];rw[if_pos (by grind),za (n:=(k:Int)+1) (by omega) (by omega)];by_cases q:e.t[k]= []
       ·simp_all
       ·have u: ¬((e.t[k].length:Nat):Int)=0:=by simp;omega
        grind
      ·rintro ⟨A,i⟩ ⟨rfl,b⟩;rw[b,Ep];simp[tabsV]
     ·grind
  ·grind
 ·grind
theorem zlH (e:Aa) (b:e.x.length<=1048576) (d:e.t.length<=1048576) (f:totalV e.t<=1048576) (m:e.B.length<=1048576):zgR e=some (engV e):=by
 unfold zgR zbh engV;simp only[zn3 e b d f,zP,An];by_cases g:0<=e.c/\e.c<=1000000
 ·rw[decide_eq_true g];by_cases h:e.B.length<=4
  ·rw[decide_eq_true h,decide_eq_false (by omega)];simp only[Bf,Ba,if_false,An,Cj];generalize (Dc (e.t.length<=6)&&(Dc (totalV e.t+e.x.length<=400)&&(memV e.x&&(Dc ((rangeV e.x).2<=e.c)&&tabsV e.c (rangeV e.x).1 e.t))))=q;cases q with
   | false=>rfl
   | true=>
     simp only[Bf,Ba,if_false,Cj];unfold snapsV;refine zl4 (snapP e.c e.B) e.B.length ?_ (by simp);intro k a;simp only[zb e.B k a,An];rw[if_pos (by simp_all),za (n:=(k:Int)+1) (by omega) (by omega),zjy e.c e.B k a];by_cases i:0<=e.B[k]/\e.B[k]<=e.c
     ·rw[decide_eq_true i];by_cases j:0<k
      ·have l:I6.wrap ((k:Int) - 1)=((k - 1:Nat):Int):=by rw[za (by omega) (by omega)];omega
       rw[dif_pos j,if_neg (by simp),if_pos (by simp_all)];simp only[l,zb e.B (k - 1) (by omega),An];grind
      ·simp_all
     ·grind
  ·grind
 ·grind
theorem zbY (e:Aa) (h:e.x.length<=1048576) (D:e.t.length<=1048576) (m:totalV e.t<=1048576) (E:e.B.length<=1048576):zbX e=some (engV e):=by
 have o: ∀t∈e.t,t.length<=1048576:=λt p=>Cx (zfP De p) m;unfold zbX engV;simp only[zrJ _ h,zba,ziJ _ h,An];cases F:memV e.x with
 | false=>simp
 | true=>
   by_cases q:e.t.length<=6
   ·rw[decide_eq_true q,decide_eq_false (by omega)];by_cases u:0<=e.c/\e.c<=1000000
    ·rw[decide_eq_true u];by_cases v:e.B.length<=4
     ·rw[decide_eq_true v,decide_eq_false (by omega)];by_cases w:(rangeV e.x).2<=e.c
      ·rw[decide_eq_true w,decide_eq_false (by omega)];simp only[Bf,Ba,if_false,An,Cj];have Z:=zca (ρ:=Ctl Int Bool) (s0:=((rangeV e.x).1,(e.x.length:Int),(0:Int))) (body:=λ(I:Int × Int × Int)=>if (Dc (I.2.2<(e.t.length:Int)))=true then ((idx e.t I.2.2).bind λJ=>
        (zc6 J).bind λM=>
        (if (Dc ((J.length:Int)=(0:Int)))=true then (some true)
 else ((zc1 J).bind λN=>
 if (!N)=true then (some true)
 else (if (Dc (M.2>=I.1))=true then (some true)
 else (some (Dc (M.2>e.c)))))).bind (λ(O:Bool)=>
 if O=true then (some (.done (.done false)))
 else (some (.go (M.1,I6.wrap (I.2.1+(J.length:Int)),I6.wrap (I.2.2+(1:Int)))))))
        else (some (.done (.go I.2.1))))
        (λk s=>s.2.2=(k:Int)/\s.2.1=(totalV (e.t.take k):Int)+e.x.length/\tabsV e.c (rangeV e.x).1 e.t=tabsV e.c s.1 (e.t.drop k)) e.t.length
        (bif tabsV e.c (rangeV e.x).1 e.t then Ctl.go ((totalV e.t:Int)+e.x.length) else Ctl.done false) ⟨rfl,by simp[totalV],rfl⟩ (by
          rintro k ⟨V,W,i⟩ a ⟨b,d,f⟩
          simp only at b d f
          subst b d
          have y:e.t.drop k=e.t[k]::e.t.drop (k+1):=Bl a
          have j:=o _ (Cq a)
          have G:=zja e.t k a
          have t2:=zlB e.t (k+1)
          rw[f,y]
          simp only[tabsV,zb e.t k a,An,ziJ _ j,zfN _ j]
          rw[if_pos (by grind),za (n:=(k:Int)+1) (by omega) (by omega),za (n:=(totalV (e.t.take k):Int)+e.x.length+((e.t[k].length:Nat):Int)) (by omega) (by omega)]
          by_cases g:e.t[k]= []
          ·simp_all
          ·have H: ¬((e.t[k].length:Nat):Int)=0:=by simp;omega
           grind) (by
          rintro ⟨V,W,i⟩ ⟨b,d,f⟩
          simp only at b d f
          subst b d
          rw[f,Ep]
          simp[tabsV])
       rw[Z]
       cases tabsV e.c (rangeV e.x).1 e.t with
       | false=>simp
       | true=>
         simp only[if_true,zd,El]
         rw[zhH (snapP e.c e.B) e.B.length ?hp ?hq]
         case hq=>simp
         case hp=>
          intro k a
          simp only[zb e.B k a,An]
          rw[if_pos (by simp_all),za (n:=(k:Int)+1) (by omega) (by omega),zjy e.c e.B k a]
          by_cases g:0<=e.B[k]/\e.B[k]<=e.c
          ·rw[decide_eq_true g]
           by_cases z:0<k
           ·have A:I6.wrap ((k:Int) - 1)=((k - 1:Nat):Int):=by rw[za (by omega) (by omega)];omega
            rw[dif_pos z,if_neg (by simp),if_pos (by simp_all)]
            simp only[A,zb e.B (k - 1) (by omega),An]
            by_cases l:e.B[k - 1]'(by omega)<e.B[k]
            ·simp[l,show ¬e.B[k]<=e.B[k - 1]'(by omega) by omega]
            ·simp[l,show e.B[k]<=e.B[k - 1]'(by omega) by omega]
           ·obtain rfl:k=0:=by omega
            simp
          ·rw[decide_eq_false g]
           simp
         have U:(Dh e.B.length).all (snapP e.c e.B)=snapsV e.c e.B:=rfl
         rw[U]
         have C:Dc ((totalV e.t:Int)+(e.x.length:Int)<=400)=Dc (totalV e.t+e.x.length<=400):=decide_eq_decide.2 (by omega)
         cases snapsV e.c e.B with
         | false=>simp
         | true=>simp only[if_true,cond_true,zd,C,Cj,El]
      ·grind
     ·grind
    ·grind
   ·grind
theorem zl8 (s:List Ac) (h:s.length<=1048576):zcA s=some s:=by unfold zcA;rw[zg (by grind) (by grind)];rfl
theorem zrZ (s:List Int) (h:s.length<=1048576):zdC s=some s:=by unfold zdC;rw[zg (by grind) (by grind)];rfl
theorem zg2 (e:Aa) (b:e.x.length<=1048576) (g:e.t.length<=1048576) (c: ∀t∈e.t,t.length<=1048576) (d:e.B.length<=1048576):zd2 e=some e:=by
 unfold zd2;simp only[zl8 _ b,zrZ _ d,An];rw[zk (λk=>((k:Int),e.t.take k)) e.t.length (r:=Ctl.go e.t) ?h0]
 case h0=>rfl
 ·rfl
 ·intro k a;have f:e.t.take (k+1)=e.t.take k++ [e.t[k]]:=by simp
  simp only[zb e.t k a,An,zl8 _ (c _ (Cq a))];rw[if_pos (by simp_all),za (n:=(k:Int)+1) (by omega) (by omega),zg (by grind) (by simp;omega),f];rfl
 ·simp
theorem zce (e:Aa) (d:e.x.length<=1048576) (g:e.t.length<=1048576) (f: ∀t∈e.t,t.length<=1048576) (h:e.B.length<=1048576):zbU e=some e:=by
 have a: ∀t:List Ac,t.length<=1048576->app 48 ([]:List Ac) t=some t:=λt b=>by rw[zg (by grind) (by grind)];rfl
 unfold zbU;rw[a _ d,zg (l:=([]:List Int)) (k:=e.B) (by grind) (by grind)];simp only[An];rw[zk (λk=>((k:Int),e.t.take k)) e.t.length (r:=Ctl.go e.t) ?h0]
 case h0=>rfl
 ·rfl
 ·intro k c;have b:e.t.take (k+1)=e.t.take k++ [e.t[k]]:=by simp
  simp only[zb e.t k c,An,a _ (f _ (Cq c))];rw[if_pos (by simp_all),za (n:=(k:Int)+1) (by omega) (by omega),zg (by grind) (by simp;omega),b];rfl
 ·simp
theorem zs4 (s:List Int) (v:Int) (h:s.length<=1048576):zcH s v=some (Dc (v∈s)):=by
 unfold zcH zbC;have key: ∃c,loopO (ρ:=Ctl Unit Int) (λ(A:Int)=>if (Dc (A<(s.length:Int)))=true then ((idx s A).bind λB=>
  if (Dc (v=B))=true then (some (.done (.done A))) else (some (.go (I6.wrap (A+(1:Int)))))) else (some (.done (.go ())))) (0:Int)=some c/\
  ((∃j:Int,c= .done j/\0<=j/\v∈s)\/(c= .go ()/\v∉s)):=by
  refine zX (λi t=>t=(i:Int)/\∀q (h:q<s.length),q<i->s[q]≠v) s.length _ ⟨rfl,λq h a=>by omega⟩ ?_ ?_
  ·rintro i t hi ⟨rfl,a⟩;simp only[zb s i hi,An];rw[if_pos (by simp_all),za (by omega) (by omega)];grind
  ·rintro t ⟨rfl,a⟩;refine ⟨.go (),by simp,.inr ⟨rfl,λb=>?_⟩⟩;obtain ⟨q,f,rfl⟩:=Bo b;grind
 obtain ⟨c,d,a⟩:=key;rw[d];rcases a with ⟨j,rfl,g,e⟩ | ⟨rfl,e⟩
 ·simp_all
 ·simp_all
theorem zfg {seq:Int} {l:List Int} (a:snapsV seq l=true) (k:Nat) (b:k<l.length):(0<=l[k]/\l[k]<=seq)/\(0<k->l[k - 1]'(by omega)<l[k]):=by unfold snapsV at a;rw[Bw]at a;have:=a k (by simp_all);rw[zjy seq l k b,Bm]at this;grind
theorem zph {seq:Int} {l:List Int} (a:snapsV seq l=true) (c:0<l.length):(seq∈l)↔l[l.length - 1]'(by omega)=seq:=by
 constructor
 ·intro b;obtain ⟨i,hi,d⟩:=Bo b;by_cases e:i=l.length - 1
  ·simp_all
  ·have f:=(zfg a (i+1) (by omega)).2 (by omega);have g:=(zfg a (i+1) (by omega)).1;grind
 ·grind
def snapR (e:Aa):Aa × Int × Bool:=
 if engV e=true then (if e.c∈e.B then (e,e.c,true) else if e.B.length=4 then (e,0,false) else ({e with B:=e.B++ [e.c]},e.c,true))
 else (⟨[],[],0,[]⟩,0,false)
def ziL (h:engV e=true):e.B.length<=4/\snapsV e.c e.B=true:=by unfold engV at h;simp_all
theorem zpl (e:Aa) (a:e.x.length<=1048576) (b:e.t.length<=1048576) (d:totalV e.t<=1048576) (f:e.B.length<=1048576):zhm e=some (snapR e):=by
 have g: ∀t∈e.t,t.length<=1048576:=λt h=>Cx (zfP De h) d;unfold zhm snapR;rw[zbY e a b d f];cases i:engV e with
 | false=>rfl
 | true=>
   obtain ⟨p,j⟩:=ziL i;simp only[An,Bf,Ba,if_false,if_true,zce e a b g f];have k:((if (Dc ((e.B.length:Int)>(0:Int)))=true then ((idx e.B (I6.wrap ((e.B.length:Int) - (1:Int)))).bind λA=>some (Dc (A=e.c))) else (some false)))=some (Dc (e.c∈e.B)):=by
    by_cases l:0<e.B.length
    ·have m:I6.wrap ((e.B.length:Int) - 1)=((e.B.length - 1:Nat):Int):=by rw[za (by omega) (by omega)];omega
     rw[if_pos (by simp_all),m,zb _ _ (by omega)];simp only[An];rw[decide_eq_decide.2 (zph j l)]
    ·simp_all
   rw[k];simp only[An];by_cases n:e.c∈e.B
   ·simp_all
   ·by_cases o:e.B.length=4
    ·simp_all
    ·have: ¬(e.B.length:Int)>=4:=by omega
     simp only[n,o,this,decide_false,Ba,if_false];rw[zg (by grind) (by grind)];rfl
def zQ (l:List α) (a b:Nat) (lo hi:Int) (c:lo=(a:Int)) (d:hi=(b:Int)) (e:a<=b) (f:b<=l.length):piece l lo hi=some ((l.drop a).take (b - a)):=by subst c d;unfold piece;simp_all
theorem ziM (l:List α) (p:α->Bool) (j:Nat) (b:j<l.length) (c:p l[j]=false) (d: ∀i (h:i<l.length),i≠j->p l[i]=true):l.filter p=l.take j++l.drop (j+1):=by
 have hs:l=l.take j++l[j]::l.drop (j+1):=by simp
 have e:(l.take j).filter p=l.take j:=by rw[Dp];intro x a;obtain ⟨i,hi,rfl⟩:=Bo a;grind
 have f:(l.drop (j+1)).filter p=l.drop (j+1):=by rw[Dp];intro x a;obtain ⟨i,hi,rfl⟩:=Bo a;grind
 grind
theorem zkl (p:α->Bool) (l:List α) (k:Nat) (h:k<l.length):(l.take (k+1)).filter p=(l.take k).filter p++if p l[k]=true then [l[k]] else []:=by rw[show l.take (k+1)=l.take k++ [l[k]] by simp,List.filter_append];grind
def zlb (p:α->Bool) (l:List α) (k:Nat):((l.take k).filter p).length<=k:=Cx (List.length_filter_le _ _) (by simp;omega)
theorem zua (l:List Int) (j:Nat) (b:j<l.length) (h:l.length<=1048576):zdl l (j:Int) (I6.wrap ((j:Int)+1))=some (l.take j++l.drop (j+1)):=by
 unfold zdl;have a:I6.wrap ((j:Int)+1)=((j+1:Nat):Int):=by rw[za (by omega) (by omega)];omega
 rw[a,zQ l j (j+1) _ _ rfl rfl (by omega) (by omega),zQ l 0 j 0 (j:Int) rfl rfl (by omega) (by omega),zQ l (j+1) l.length _ _ rfl rfl (by omega) (by omega)];simp only[An];rw[if_neg (by grind)];simp;exact Cy (by simp)
theorem ztc (s:List Int) (v:Int) (h:s.length<=1048576):(∃j,∃b:j<s.length,zbC s v=some (j:Int)/\s[j]=v)\/(zbC s v=some (-1)/\∀x∈s,¬x=v):=by
 unfold zbC;have key: ∃c,loopO (ρ:=Ctl Unit Int) (λ(A:Int)=>if (Dc (A<(s.length:Int)))=true then ((idx s A).bind λB=>
  if (Dc (v=B))=true then (some (.done (.done A))) else (some (.go (I6.wrap (A+(1:Int)))))) else (some (.done (.go ())))) (0:Int)=some c/\
  ((∃j,∃b:j<s.length,c= .done (j:Int)/\s[j]=v)\/(c= .go ()/\∀x∈s,¬x=v)):=by
  refine zX (λi t=>t=(i:Int)/\∀q (h:q<s.length),q<i->¬s[q]=v) s.length _ ⟨rfl,λq h a=>by omega⟩ ?_ ?_
  ·rintro i t hi ⟨rfl,a⟩;simp only[zb s i hi,An];rw[if_pos (by simp_all),za (by omega) (by omega)];grind
  ·rintro t ⟨rfl,a⟩;refine ⟨.go (),by simp,.inr ⟨rfl,λx e=>?_⟩⟩;obtain ⟨q,g,rfl⟩:=Bo e;simp_all
 obtain ⟨c,f,a⟩:=key;rw[f];rcases a with ⟨j,b,rfl,d⟩ | ⟨rfl,d⟩
 ·exact .inl ⟨j,b,rfl,d⟩
 ·simp_all
theorem zoh {seq:Int} {l:List Int} (b:snapsV seq l=true): ∀(j:Nat) (a:j<l.length) (i:Nat) (hi:i<j),l[i]'(by omega)<l[j]:=by
 intro j;induction j with
 | zero=>intro _ i hi;omega
 | succ j ih=>intro a i hi;have c:=(zfg b (j+1) a).2 (by omega);grind
def dropS (l:List Int) (x:Int):List Int:=l.filter λs=>!Dc (s=x)
def znP {seq:Int} {l:List Int} (a:snapsV seq l=true) (j:Nat) (b:j<l.length):dropS l l[j]=l.take j++l.drop (j+1):=by
 unfold dropS;refine ziM l _ j b (by simp) λi hi c=>?_;have: ¬l[i]=l[j]:=by
  rcases Nat.lt_or_ge i j with h | h
  ·have:=zoh a j b i h;omega
  ·have:=zoh a i hi j (by omega);omega
 simp_all
def engDropR (e:Aa) (x:Int):Aa × Bool:=if engV e=true then (if x∈e.B then ({e with B:=dropS e.B x},true) else (e,false)) else (⟨[],[],0,[]⟩,false)
theorem zpi (e:Aa) (x:Int) (a:e.x.length<=1048576) (b:e.t.length<=1048576) (d:totalV e.t<=1048576) (f:e.B.length<=1048576):zhl e x=some (engDropR e x):=by
 have h: ∀t∈e.t,t.length<=1048576:=λt i=>Cx (zfP De i) d;unfold zhl engDropR;rw[zbY e a b d f];cases l:engV e with
 | false=>rfl
 | true=>
   simp only[An,Bf,Ba,if_false,if_true,zce e a b h f];rw[zk (λk=>((k:Int),(e.B.take k).filter λs=>!Dc (s=x))) e.B.length (r:=Ctl.go (dropS e.B x)) ?h0]
   case h0=>rfl
   ·simp only[zd];by_cases m:x∈e.B
    ·obtain ⟨j,o,rfl⟩:=Bo m;have p:=znP (ziL l).2 j o;grind
    ·have p:dropS e.B x=e.B:=by unfold dropS;rw[Dp];grind
     simp_all
   ·intro k g;have hl:=zlb (λs:Int=>!Dc (s=x)) e.B k;simp only[zb e.B k g,An,zkl _ e.B k g];rw[if_pos (by simp_all),za (n:=(k:Int)+1) (by omega) (by omega)];by_cases c:e.B[k]=x
    ·simp[c]
    ·simp only[c,decide_false,Bt,if_true];rw[zg (by grind) (by grind)];rfl
   ·simp[dropS]
def shareP (l:List As) (k:Nat):Bool:=match l[k]? with
 | some x=>decide (1<=x.s/\x.s<=99)&&(Dc (0<=x.S/\x.S<=1000)&&(match k with | 0=>true | j+1=>match l[j]? with | some d=>decide (d.s<x.s) | none=>true))
 | none=>true
theorem zka (l:List As) (k:Nat) (h:k<l.length):shareP l k=(Dc (1<=l[k].s/\l[k].s<=99)&&(Dc (0<=l[k].S/\l[k].S<=1000)&&(if a:0<k then Dc ((l[k - 1]'(by omega)).s<l[k].s) else true))):=by unfold shareP;grind
def allNeed (s:Ad):Int:=(s.r.map λx=>needV x.S).sum+if s.r.length>0 then 4 else 0
def sharesV (s:Ad):Bool:=Dc (0<=s.I/\s.I<=1000)&&(Dc (s.r.length<=4)&&((Dh s.r.length).all (shareP s.r)&&Dc (allNeed s<=s.I)))
theorem zT (s:Ad) (h:s.r.length<=1048576):zbG s=some (sharesV s):=by
 unfold zbG sharesV;simp only[zba,An,zkX s h];by_cases e:0<=s.I/\s.I<=1000
 ·by_cases f:s.r.length<=4
  ·rw[decide_eq_true e,decide_eq_true f,decide_eq_false (by omega)];simp only[Bf,Ba,if_false,An,Cj];rw[zhH (shareP s.r) s.r.length ?hp ?hq]
   case hq=>simp
   case hp=>
    intro k b
    simp only[zb s.r k b,An]
    rw[if_pos (by simp_all),za (n:=(k:Int)+1) (by omega) (by omega),zka s.r k b]
    by_cases a:1<=s.r[k].s/\s.r[k].s<=99
    ·by_cases c:0<=s.r[k].S/\s.r[k].S<=1000
     ·rw[decide_eq_true a,decide_eq_true c];by_cases g:0<k
      ·have i:I6.wrap ((k:Int) - 1)=((k - 1:Nat):Int):=by rw[za (by omega) (by omega)];omega
       rw[dif_pos g,if_neg (by simp),if_neg (by simp),if_pos (by simp_all)];simp only[i,zb s.r (k - 1) (by omega),An];by_cases d:(s.r[k - 1]'(by omega)).s<s.r[k].s
       ·simp[d,show ¬s.r[k].s<=(s.r[k - 1]'(by omega)).s by omega]
       ·simp[d,show s.r[k].s<=(s.r[k - 1]'(by omega)).s by omega]
      ·obtain rfl:k=0:=by omega
       simp
     ·rw[decide_eq_true a,decide_eq_false c];simp
    ·rw[decide_eq_false a];simp
   cases (Dh s.r.length).all (shareP s.r) with
   | false=>rfl
   | true=>rfl
  ·grind
 ·grind
theorem zq9 {s:Ad} (a:sharesV s=true): ∀(j:Nat) (b:j<s.r.length) (i:Nat) (hi:i<j),(s.r[i]'(by omega)).s<s.r[j].s:=by
 intro j;induction j with
 | zero=>intro _ i hi;omega
 | succ j ih=>
   intro b i hi;have c:(s.r[j]'(by omega)).s<s.r[j+1].s:=by unfold sharesV at a;simp only[Bm,Bw]at a;have:=a.2.2.1 (j+1) (by simp_all);rw[zka s.r (j+1) b,dif_pos (by omega)]at this;simp_all
   grind
theorem zpP (s:List As) (h:s.length<=1048576):zdB s=some s:=by unfold zdB;rw[zg (by grind) (by grind)];rfl
def zf4 (s:Ad) (h:s.r.length<=1048576):zcF s=some s:=by unfold zcF;rw[zpP _ h];rfl
theorem ze0 (s:Ad) (h:s.r.length<=1048576):zef s=some s:=by unfold zef;rw[zg (by grind) (by grind)];rfl
theorem ziu (s:Ad) (t:Int) (f:sharesV s=true) (h:s.r.length<=1048576):
 ∃j,j<=s.r.length/\(∀i (hi:i<s.r.length),i<j->s.r[i].s<t)/\(∀i (hi:i<s.r.length),j<i->t<s.r[i].s)/\
  ((∃a:j<s.r.length,zd5 s t=some ((j:Int),true)/\s.r[j].s=t)\/(zd5 s t=some ((j:Int),false)/\∀i (hi:i<s.r.length),j<=i->t<s.r[i].s)):=by
 unfold zd5;have key: ∃c,loopO (ρ:=Ctl Int (Int × Bool)) (λ(A:Int)=>(if (Dc (A<(s.r.length:Int)))=true then ((idx s.r A).bind λB=>some (Dc (B.s<t))) else (some false)).bind (λ(D:Bool)=>
  if D=true then (some (.go (I6.wrap (A+(1:Int))))) else (some (.done (.go A))))) (0:Int)=some c/\
  ∃j,c= .go ((j:Nat):Int)/\j<=s.r.length/\(∀i (hi:i<s.r.length),i<j->s.r[i].s<t)/\∀a:j<s.r.length,t<=s.r[j].s:=by
  refine zX (λi q=>q=(i:Int)/\∀q (h:q<s.r.length),q<i->s.r[q].s<t) s.r.length _ ⟨rfl,λq h b=>by omega⟩ ?_ ?_
  ·rintro i q hi ⟨rfl,b⟩;simp only[zb s.r i hi,An];rw[if_pos (by simp_all),za (by omega) (by omega)];grind
  ·grind
 obtain ⟨c,g,j,rfl,k,b,l⟩:=key;rw[g];have m: ∀i (hi:i<s.r.length),j<i->t<s.r[i].s:=λi hi d=>by have:=l (by omega);have:=zq9 f i hi j d;omega
 refine ⟨j,k,b,m,?_⟩;by_cases a:j<s.r.length
 ·by_cases e:s.r[j].s=t
  ·refine .inl ⟨a,?_,e⟩;simp[zb s.r j a,a,e]
  ·refine .inr ⟨?_,λi hi d=>?_⟩
   ·simp[zb s.r j a,a,e]
   ·grind
 ·refine .inr ⟨?_,λi hi d=>by omega⟩;simp[a]
theorem zr4 (l:List As) (j:Nat) (b:j<l.length) (h:l.length<=1048576):zdk l (j:Int) (I6.wrap ((j:Int)+1))=some (l.take j++l.drop (j+1)):=by
 unfold zdk;have a:I6.wrap ((j:Int)+1)=((j+1:Nat):Int):=by rw[za (by omega) (by omega)];omega
 rw[a,zQ l j (j+1) _ _ rfl rfl (by omega) (by omega),zQ l 0 j 0 (j:Int) rfl rfl (by omega) (by omega),zQ l (j+1) l.length _ _ rfl rfl (by omega) (by omega)];simp only[An];rw[if_neg (by grind)];simp;exact Cy (by simp)
def dropT (l:List As) (t:Int):List As:=l.filter λx=>!Dc (x.s=t)
def shareDropR (s:Ad) (t:Int):Ad × Bool:=if sharesV s=true then (if (dropT s.r t).length=s.r.length then (s,false) else ({s with r:=dropT s.r t},true)) else (⟨0,[]⟩,false)
theorem znq (s:Ad) (t:Int) (h:s.r.length<=1048576):zfE s t=some (shareDropR s t):=by
 unfold zfE shareDropR;rw[zT s h];cases b:sharesV s with
 | false=>rfl
 | true=>
   simp only[An,Bf,Ba,if_false,if_true];rw[zk (λk=>((k:Int),(s.r.take k).filter λx=>!Dc (x.s=t))) s.r.length (r:=Ctl.go (dropT s.r t)) ?h0]
   case h0=>rfl
   ·simp only[zd,ze0 s h,An];grind
   ·intro k a;have d:=zlb (λx:As=>!Dc (x.s=t)) s.r k;simp only[zb s.r k a,An,zkl _ s.r k a];rw[if_pos (by simp_all),za (n:=(k:Int)+1) (by omega) (by omega)];by_cases c:s.r[k].s=t
    ·simp[c]
    ·simp only[c,decide_false,Bt,if_true];rw[zg (by grind) (by grind)];rfl
   ·simp[dropT]
theorem zng (s:Ad) (t:Int) (h:s.r.length<=1048576):zfu s t=some (shareDropR s t):=by
 unfold zfu shareDropR;rw[zbz s h,zT s h];cases c:sharesV s with
 | false=>rfl
 | true=>
   simp only[An,Bf,Ba,if_false,if_true,zf4 s h];obtain ⟨j,k,l,m,d⟩:=ziu s t c h;rcases d with ⟨b,a,e⟩ | ⟨a,e⟩
   ·rw[a];simp only[An,Bf,Ba,if_false,zr4 s.r j b h];have f:dropT s.r t=s.r.take j++s.r.drop (j+1):=by unfold dropT;refine ziM s.r _ j b (by simp_all) λi hi n=>?_;grind
    grind
   ·rw[a];have f:dropT s.r t=s.r:=by unfold dropT;rw[Dp];intro x g;obtain ⟨i,hi,rfl⟩:=Bo g;grind
    simp_all
def setF (l:List As) (t q:Int) (j D k:Nat):Bool × Int × List As:=bif Fa k j then (false,(k:Int),l.take k) else (true,(k:Int),l.take j++(⟨t,q⟩::(l.drop D).take (k - D)))
def zm6 (l:List As) (t q:Int) (j D k:Nat) (h:k<=j):setF l t q j D k=(false,(k:Int),l.take k):=by unfold setF;rw[Ev h];rfl
def zm5 (l:List As) (t q:Int) (j D k:Nat) (h:j<k):setF l t q j D k=(true,(k:Int),l.take j++(⟨t,q⟩::(l.drop D).take (k - D))):=by
 unfold setF;have:Fa k j=false:=by
  cases a:Fa k j
  ·rfl
  ·simp_all;omega
 simp_all
theorem zey (s:Ad) (t q:Int) (j D:Nat) (h:sharesV s=true) (w:s.r.length<=4) (x:j<=s.r.length) (A:D=j\/D=j+1) (E:D<=s.r.length) (e: ∀i (hi:i<s.r.length),i<j->s.r[i].s<t) (f: ∀i (hi:i<s.r.length),D<=i->t<s.r[i].s) (l:D=j+1->∀hi:j<s.r.length,s.r[j].s=t):
 zbF s t q=some (if sharesV ⟨s.I,s.r.take j++(⟨t,q⟩::s.r.drop D)⟩=true then (⟨s.I,s.r.take j++(⟨t,q⟩::s.r.drop D)⟩,true) else (s,false)):=by
 unfold zbF;rw[zT s (by omega),h];simp only[An,Bf,Ba,if_false];have m:(s.r.take j++(⟨t,q⟩::s.r.drop D):List As).length<=1048576:=by grind
 have g:zbG ⟨s.I,s.r.take j++(⟨t,q⟩::s.r.drop D)⟩=some (sharesV ⟨s.I,s.r.take j++(⟨t,q⟩::s.r.drop D)⟩):=zT _ m;by_cases y:j=s.r.length
 ·have B:D=j:=by omega
  rw[zk (λk=>(false,(k:Int),s.r.take k)) s.r.length (r:=Ctl.go (false,s.r)) ?h0]
  case h0=>rfl
  ·simp only[zd,Bt,if_true];rw[zg (by grind) (by grind)];simp only[An,zd];have hl:s.r++ [⟨t,q⟩]=s.r.take j++(⟨t,q⟩::s.r.drop D):=by simp_all
   rw[hl,g];simp only[An,ze0 s (by omega)];grind
  ·intro k a;have o:=e k a (by omega);have b:s.r.take (k+1)=s.r.take k++ [s.r[k]]:=by simp
   simp only[zb s.r k a,An,Bt,if_true];rw[if_pos (by simpa using a),za (n:=(k:Int)+1) (by omega) (by omega),decide_eq_false (by omega),decide_eq_false (by omega)];simp only[Ba,if_false,zd,Bt,if_true];rw[zg (by grind) (by grind),b];rfl
  ·simp
 ·have z:j<s.r.length:=by omega
  rw[zk (setF s.r t q j D) s.r.length (r:=Ctl.go (true,s.r.take j++(⟨t,q⟩::s.r.drop D))) ?h0]
  case h0=>rw[zm6 _ _ _ _ _ _ (Dx _)];simp
  ·simp only[zd,Bf,Ba,if_false,g,An,ze0 s (by omega)];grind
  ·intro k a;have d:=za (n:=(k:Int)+1) (by omega) (by omega);rcases Fk k j with c | c | c
   ·have o:=e k a c;have b:s.r.take (k+1)=s.r.take k++ [s.r[k]]:=by simp
    rw[zm6 _ _ _ _ _ _ (by omega),zm6 _ _ _ _ _ _ (by omega)];simp only[zb s.r k a,An,Bt,if_true,d];rw[if_pos (by simpa using a),decide_eq_false (by omega),decide_eq_false (by omega)];simp only[Ba,if_false,zd,Bt,if_true];rw[zg (by grind) (by grind),b];rfl
   ·subst c;rw[zm6 _ _ _ _ _ _ (Bz _),zm5 _ _ _ _ _ _ (by omega)];simp only[zb s.r k a,An,Bt,if_true,d];rw[if_pos (by simp_all)];rcases A with rfl | rfl
    ·have p:=f D a (Bz _);rw[decide_eq_true (by omega),decide_eq_false (by omega)];simp only[if_true];rw[zg (by grind) (by grind)];simp only[An,zd,Bt,if_true];rw[zg (by grind) (by grind)];have:(s.r.drop D).take (D+1 - D)= [s.r[D]]:=by rw[Bl a,show D+1 - D=1 by omega];rfl
     simp_all
    ·have u:=l rfl a;rw[decide_eq_true (by omega),decide_eq_true u];simp only[if_true];rw[zg (by grind) (by grind)];simp
   ·have p:=f k a (by omega);rw[zm5 _ _ _ _ _ _ (by omega),zm5 _ _ _ _ _ _ (by omega)];simp only[zb s.r k a,An,Bf,Ba,if_false,d];rw[if_pos (by simp_all),decide_eq_false (by omega)];simp only[zd,Bt,if_true];rw[zg (by grind) (by grind)];have v:k - D<(s.r.drop D).length:=by grind
    have b:(s.r.drop D).take (k+1 - D)=(s.r.drop D).take (k - D)++ [s.r[k]]:=by rw[show k+1 - D=(k - D)+1 by omega,Dj,By v,Em];grind
    simp_all
  ·rw[zm5 _ _ _ _ _ _ (by omega)];grind
theorem zsi (l:List As) (x:As) (j:Nat) (a:j<=l.length) (h:l.length<=1048576):zdm l (j:Int) [x]=some (l.take j++(x::l.drop j)):=by unfold zdm ins;grind
theorem zlD (s:Ad) (t q:Int) (h:s.r.length<=1048576): ∃r,zbF s t q=some r/\zch s t q=some r/\r.1.r.length<=1048576:=by
 by_cases a:sharesV s=true
 ·have l:s.r.length<=4:=by unfold sharesV at a;simp_all
  obtain ⟨j,c,m,u,v⟩:=ziu s t a h;have n: ∀D,(D=j\/D=j+1)->D<=s.r.length->∀b:Bool,((if b=true then (⟨s.I,s.r.take j++(⟨t,q⟩::s.r.drop D)⟩,true) else (s,false):Ad × Bool)).1.r.length<=1048576:=by grind
  rcases v with ⟨o,f,g⟩ | ⟨f,g⟩
  ·have k:=zey s t q j (j+1) a l c (.inr rfl) (by omega) m (λi hi x=>u i hi (by omega)) (λ_ _=>g);refine ⟨_,k,?_,n (j+1) (.inr rfl) (by omega) _⟩;unfold zch;rw[zbz s h,zT s h,a];simp only[An,Bf,Ba,if_false,if_true,zf4 s h,f,zb s.r j o,Bp,zd];have w:s.r.set j ⟨t,q⟩=s.r.take j++(⟨t,q⟩::s.r.drop (j+1)):=by rw[List.set_eq_take_append_cons_drop,if_pos o]
   have d:(s.r.take j++(⟨t,q⟩::s.r.drop (j+1)):List As).length<=1048576:=by grind
   rw[w,zbz _ d,zT _ d];grind
  ·have k:=zey s t q j j a l c (.inl rfl) c m g (λe=>by omega);refine ⟨_,k,?_,n j (.inl rfl) c _⟩;unfold zch;rw[zbz s h,zT s h,a];simp only[An,Bf,Ba,if_false,zf4 s h,f,zsi s.r _ j c h,zd];have d:(s.r.take j++(⟨t,q⟩::s.r.drop j):List As).length<=1048576:=by simp_all
   rw[zbz _ d,zT _ d];grind
 ·have p:sharesV s=false:=by simp_all
  refine ⟨(⟨0,[]⟩,false),?_,?_,by simp⟩
  ·unfold zbF;rw[zT s h,p];rfl
  ·unfold zch;rw[zbz s h,zT s h,p];rfl
def zq5 {a b:List UInt8} (h:sLt a b=true):sLt b a=false:=by have:=zik a b;simp_all
def zsA {a b:List UInt8} (c:sLt a b=false) (d:sLt b a=false):a=b:=by have:=zik a b;simp_all
theorem zvV (l:List α) (p:α->Bool) (h: ∀k (a:k<l.length),body (k:Int)=some (if p l[k]=true then .done (.done true) else .go ((k:Int)+1))) (c:body (l.length:Int)=some (.done (.go ()))):
 bindC (loopO body 0) (λ(_:Unit)=>some false)=some (l.any p):=by
 rw[zca (λk s=>s=(k:Int)/\l.any p=(l.drop k).any p) l.length (if l.any p=true then Ctl.done true else Ctl.go ()) ?h0 ?h1 ?h2]
 ·cases l.any p<;>rfl
 case h0=>exact ⟨rfl,rfl⟩
 ·rintro k s a ⟨rfl,b⟩;rw[h k a,b,Bl a,En];grind
 ·simp_all
def stayV (snaps:List Int) (l:List Ac):Nat->Bool
 | 0=>true
 | j+1=>match l[j]?,l[j+1]? with
   | some d,some e=>!Dc (d.j=e.j)||snaps.any (λs=>decide (e.c<=s)&&Dc (s<d.c))
   | _,_=>false
def zi8 (snaps:List Int) (l:List Ac) (j:Nat) (h:j+1<l.length):stayV snaps l (j+1)=(!Dc ((l[j]'(by omega)).j=l[j+1].j)||snaps.any (λs=>decide (l[j+1].c<=s)&&Dc (s<(l[j]'(by omega)).c))):=by show (match l[j]?,l[j+1]? with | some d,some e=>_ | _,_=>false)=_;rw[By h,By (by omega)]
theorem zvj (l:List Ac) (snaps:List Int) (k:Nat) (a:k<l.length) (h:l.length<=1048576) (hs:snaps.length<=1048576):zhZ l (k:Int) snaps=some (stayV snaps l k):=by
 unfold zhZ;cases k with
 | zero=>rfl
 | succ j=>
   have b:I6.wrap (((j+1:Nat):Int) - 1)=(j:Int):=by rw[za (by omega) (by omega)];omega
   rw[if_neg (by grind),b,zb l j (by omega),zb l (j+1) a,zi8 snaps l j a];simp only[An];by_cases c:(l[j]'(by omega)).j=l[j+1].j
   ·rw[decide_eq_true c];simp only[Bf,Ba,if_false,Eo];refine zvV snaps _ ?_ (by simp);intro m d;simp only[zb snaps m d,An];rw[if_pos (by simp_all),za (n:=(m:Int)+1) (by omega) (by omega)];grind
   ·simp_all
def keepT (snaps:List Int) (l:List Ac) (a:Nat):Nat->List Ac
 | 0=>[]
 | n+1=>keepT snaps l a n++(if stayV snaps l (a+n)=true then l[a+n]?.toList else [])
def zlj (snaps:List Int) (l:List Ac) (a n:Nat) (h:a+n<l.length):keepT snaps l a (n+1)=keepT snaps l a n++(if stayV snaps l (a+n)=true then [l[a+n]] else []):=by show keepT snaps l a n++(if stayV snaps l (a+n)=true then l[a+n]?.toList else [])=_;simp_all
theorem zgB (snaps:List Int) (l:List Ac) (a:Nat): ∀n,(keepT snaps l a n).length<=n:=by
 intro n;induction n with
 | zero=>simp[keepT]
 | succ n ih=>show (keepT snaps l a n++(if stayV snaps l (a+n)=true then l[a+n]?.toList else [])).length<=n+1;grind
theorem zqR (snaps:List Int) (l:List Ac) (a n:Nat): ∀m,keepT snaps l a (n+m)=keepT snaps l a n++keepT snaps l (a+n) m:=by
 intro m;induction m with
 | zero=>simp[keepT]
 | succ m ih=>show keepT snaps l a (n+m)++(if stayV snaps l (a+(n+m))=true then l[a+(n+m)]?.toList else [])=keepT snaps l a n++(keepT snaps l (a+n) m++(if stayV snaps l (a+n+m)=true then l[a+n+m]?.toList else []));grind
theorem zj4 (snaps:List Int) (l:List Ac) (a:Nat): ∀n,∀x∈keepT snaps l a n,∃i,i<n/\∃h:a+i<l.length,x=l[a+i]:=by
 intro n;induction n with
 | zero=>intro x b;simp[keepT]at b
 | succ n ih=>intro x b;have c:x∈keepT snaps l a n++(if stayV snaps l (a+n)=true then l[a+n]?.toList else []):=b;grind
def sameK (e:Ac):List Ac->Bool
 | y::_=>decide (e.j=y.j)
 | []=>false
def tid:List Ac->Bool × List Ac
 | []=>(false,[])
 | e::t=>bif (((tid t).1&&sameK e t)|| !e.P) then (true,e::(tid t).2) else (false,(tid t).2)
def zgv (e:Ac) (t:List Ac):tid (e::t)=bif (((tid t).1&&sameK e t)|| !e.P) then (true,e::(tid t).2) else (false,(tid t).2):=rfl
theorem zqz: ∀l:List Ac,(tid l).2.length<=l.length:=by
 intro l;induction l with
 | nil=>simp[tid]
 | cons e t ih=>rw[zgv];grind
theorem zuN: ∀(A B:List Ac),(∀x∈A,∀y∈B,x.j≠y.j)->(tid (A++B)).2=(tid A).2++(tid B).2/\(A≠[]->(tid (A++B)).1=(tid A).1):=by
 intro A;induction A with
 | nil=>intro B _;exact ⟨by rfl,λh=>absurd rfl h⟩
 | cons e t ih=>
   intro B a;obtain ⟨b,c⟩:=ih B λx d y f=>a x (.tail _ d) y f;have g:((tid (t++B)).1&&sameK e (t++B))=((tid t).1&&sameK e t):=by
    cases t with
    | nil=>
      cases B with
      | nil=>rfl
      | cons y B=>have:sameK e ([]++y::B)=false:=decide_eq_false (a e (.head _) y (.head _));rw[this,Gb,show sameK e []=false from rfl,Gb]
    | cons z t=>rw[c (by simp)];rfl
   show (tid (e::(t++B))).2=(tid (e::t)).2++(tid B).2/\(_->(tid (e::(t++B))).1=(tid (e::t)).1);rw[zgv,zgv,g,b];grind
def zw7 (e:Ac) (b:e.P=true): ∀A:List Ac,(∀x∈A,x.j=e.j)->tid (A++ [e])=tid A:=by
 intro A;induction A with
 | nil=>intro _;simp[tid,sameK,b]
 | cons x t ih=>
   intro c;have a:=ih λy d=>c y (.tail _ d);show tid (x::(t++ [e]))=tid (x::t);have f:((tid (t++ [e])).1&&sameK x (t++ [e]))=((tid t).1&&sameK x t):=by
    rw[a];cases t with
    | nil=>rfl
    | cons z t=>rfl
   rw[zgv,f,a];rfl
def zwC (e:Ac) (b:e.P=false): ∀A:List Ac,(∀x∈A,x.j=e.j)->tid (A++ [e])=(true,A++ [e]):=by
 intro A;induction A with
 | nil=>intro _;simp[tid,sameK,b]
 | cons x t ih=>
   intro a;have c:=ih λy d=>a y (.tail _ d);show tid (x::(t++ [e]))=_;have f:sameK x (t++ [e])=true:=by
    cases t with
    | nil=>exact decide_eq_true (a x (.head _))
    | cons z t=>exact decide_eq_true ((a x (.head _)).trans (a z (.tail _ (.head _))).symm)
   rw[zgv,f,c];rfl
def finE (h:Bool) (A:List Ac):List Ac:=bif h then (tid A).2 else A
def zr8 (b:Bool) (A:List Ac):(finE b A).length<=A.length:=by
 cases b
 ·exact Bz _
 ·exact zqz A
def zs7 (b:Bool) (A B:List Ac) (h: ∀x∈A,∀y∈B,x.j≠y.j):finE b (A++B)=finE b A++finE b B:=by
 cases b
 ·rfl
 ·exact (zuN A B h).1
theorem zvP (D:Bool): ∀(n:Nat) (A:List Ac),A.length=n->n<=1048576->(∀x∈A,∀y∈A,x.j=y.j)->
 loopO (ρ:=Ctl (List Ac) (List Ac)) (λ(E:List Ac)=>(if D=true then (if (Dc ((E.length:Int)>(0:Int)))=true then ((idx E (I6.wrap ((E.length:Int) - (1:Int)))).bind λG=>
 some G.P)
 else (some false))
 else (some false)).bind (λ(M:Bool)=>
 if M=true then ((piece E (0:Int) (I6.wrap ((E.length:Int) - (1:Int)))).bind λI=>
 (app 48 ([]:List Ac) I).bind λJ=>
 some (.go J))
 else (some (.done (.go E))))) A=some (.go (finE D A)):=by
 intro n;induction n with
 | zero=>intro A N _ _;obtain rfl:A= []:=Ea N;rw[zw];cases D<;>rfl
 | succ n ih=>
   intro A N k b;obtain ⟨B,e,rfl⟩: ∃B e,A=B++ [e]:=⟨A.dropLast,A.getLast (by grind),(List.dropLast_concat_getLast _).symm⟩;have O:B.length=n:=by simp_all
   rw[zw];have f:I6.wrap ((((B++ [e]).length:Nat):Int) - 1)=(B.length:Int):=by rw[za (by omega) (by omega)];simp
   have c: ∀x∈B,x.j=e.j:=λx a=>b x (Ds.2 (.inl a)) e (by simp);cases D with
   | false=>rfl
   | true=>
     rw[f,zb (B++ [e]) B.length (by simp)];have g:Dc ((((B++ [e]).length:Nat):Int)>0)=true:=decide_eq_true (by simp);simp only[if_true,g,An,List.getElem_concat_length];cases d:e.P with
     | false=>simp only[Ba,if_false];show some (Ctl.go (B++ [e]))=some (Ctl.go (tid (B++ [e])).2);rw[zwC e d B c]
     | true=>
       simp only[if_true];rw[zQ _ 0 B.length (0:Int) _ rfl rfl (by omega) (by simp)];have h:((B++ [e]).drop 0).take (B.length - 0)=B:=by simp
       rw[h];simp only[An];rw[zg (by grind) (by grind)];simp only[An,List.nil_append];have F:=ih B O (by omega) λx a y i=>b x (Ds.2 (.inl a)) y (Ds.2 (.inl i));simp only[if_true]at F;rw[F];show some (Ctl.go (tid B).2)=some (Ctl.go (tid (B++ [e])).2);rw[zw7 e d B c]
theorem zuE (l:List Ac) (h:l.length<=1048576):zcW l=some l.reverse:=by
 unfold zcW;rw[zca (λm s=>s.1=(m:Int)/\s.2.1=(l.length:Int) - 1 - m/\∃hl:s.2.2.length=l.length,∀k (d:k<l.length),s.2.2[k]'(by omega)=if k<m\/l.length<=k+m then l[l.length - 1 - k]'(by omega) else l[k]) (l.length / 2) (Ctl.go l.reverse) ?h0 ?h1 ?h2]
 ·rfl
 case h0=>
  refine ⟨rfl,?_,rfl,λk d=>?_⟩
  ·show I6.wrap ((l.length:Int) - 1)=(l.length:Int) - 1 - ((0:Nat):Int);rw[za (by omega) (by omega)];omega
  ·rw[if_neg (by omega)]
 ·rintro m ⟨i,j,s⟩ f ⟨h1,h2,hl,a⟩;simp only at h1 h2 hl a;subst h1;have e:j=((l.length - 1 - m:Nat):Int):=by omega
  subst e;clear h2;left;have b:m<s.length:=by omega
  have c:l.length - 1 - m<s.length:=by omega
  refine ⟨((m:Int)+1,((l.length - 1 - m:Nat):Int) - 1,(s.set m (s[l.length - 1 - m]'c)).set (l.length - 1 - m) (s[m]'b)),?_,by simp,?_,by simp_all,?_⟩
  ·simp only[zb s _ c,zb s _ b,An,Bp];rw[if_pos (by grind),zb _ _ (by grind)];simp only[An,zd];rw[za (by omega) (by omega),za (by omega) (by omega)]
  ·grind
  ·grind
 ·rintro ⟨i,j,s⟩ ⟨h1,h2,hl,a⟩;simp only at h1 h2 hl a;subst h1 h2;simp only;rw[if_neg (by grind)];congr 3;refine List.ext_getElem (by simp_all) λk g n=>?_;grind
theorem znk (l:List Ac) (snaps:List Int) (A:Bool) (h:l.length<=1048576) (hs:snaps.length<=1048576):zb2 l snaps A=some (finE A (keepT snaps l 0 l.length)):=by
 unfold zb2;rw[zk (λk=>((k:Int),keepT snaps l 0 k)) l.length (r:=Ctl.go (keepT snaps l 0 l.length)) ?h0]
 case h0=>rfl
 ·simp only[zd];cases A with
  | false=>rfl
  | true=>
    simp only[Bf,Ba,if_false];have B:(keepT snaps l 0 l.length).length<=1048576:=Cx (zgB snaps l 0 _) h;generalize keepT snaps l 0 l.length=K at B;rw[zk (λm=>((tid (K.drop (K.length - m))).1,(K.length:Int) - 1 - m,(tid (K.drop (K.length - m))).2.reverse)) K.length (r:=Ctl.go (tid K).2.reverse) ?g0]
    case g0=>
     rw[Nat.sub_zero,Ep,za (by omega) (by omega)]
     simp[tid]
    ·simp only[zd];rw[zuE _ (by rw[List.length_reverse];exact Cx (zqz K) B),List.reverse_reverse];rfl
    ·intro m p;have hi:(K.length:Int) - 1 - m=((K.length - 1 - m:Nat):Int):=by omega
     have d:(K.length:Int) - 1 - ((m+1:Nat):Int)=((K.length - 1 - m:Nat):Int) - 1:=by omega
     have b:K.length - 1 - m<K.length:=by omega
     have e:K.drop (K.length - (m+1))=K[K.length - 1 - m]::K.drop (K.length - m):=by rw[show K.length - (m+1)=K.length - 1 - m by omega,Bl b,show K.length - 1 - m+1=K.length - m by omega]
     have a:=zqz (K.drop (K.length - m));rw[Cr]at a;rw[e,zgv,hi,d];have f:(if Dc (((K.length - 1 - m:Nat):Int)=I6.wrap ((K.length:Int) - (1:Int)))=true then (some true)
 else ((idx K ((K.length - 1 - m:Nat):Int)).bind λD=>
 (idx K (I6.wrap (((K.length - 1 - m:Nat):Int)+(1:Int)))).bind λE=>
 some (!(Dc (D.j=E.j)))))=some (!sameK K[K.length - 1 - m] (K.drop (K.length - m))):=by
      by_cases h0:m=0
      ·subst h0
       rw[if_pos (by rw[za (by omega) (by omega)];simp_all),show K.drop (K.length - 0)= [] by simp]
       rfl
      ·rw[if_neg (by rw[za (by omega) (by omega)];grind),zb K _ b,za (by omega) (by omega)]
       rw[show ((K.length - 1 - m:Nat):Int)+1=((K.length - m:Nat):Int) by omega,zb K (K.length - m) (by omega),Bl (by omega:K.length - m<K.length)]
       rfl
     simp only[f]
     rw[if_pos (by simp),za (n:=((K.length - 1 - m:Nat):Int) - 1) (by omega) (by omega)]
     simp only[zb K _ b,An]
     generalize sameK K[K.length - 1 - m] (K.drop (K.length - m))=q
     generalize tid (K.drop (K.length - m))=tt at a |-
     obtain ⟨F,o⟩:=tt
     simp only at a |-
     have g:app 48 o.reverse [K[K.length - 1 - m]]=some (o.reverse++ [K[K.length - 1 - m]]):=zg (by grind) (by grind)
     cases q<;>cases F<;>cases i:K[K.length - 1 - m].P<;>simp[g,i]
    ·rw[Nat.sub_self,Ed]
     simp
     omega
 ·intro k c;have a:=zgB snaps l 0 k;simp only[zb l k c,An,zvj l snaps k c h hs,zlj snaps l 0 k (by omega),Fi];rw[if_pos (by simp_all),za (n:=(k:Int)+1) (by omega) (by omega)];cases stayV snaps l k with
  | true=>simp only[if_true];rw[zg (by grind) (by grind)];rfl
  | false=>simp
 ·simp
def ztD (a:entsV l=true) (k:Nat) (b:k<l.length):entP l k=true:=by unfold entsV at a;simp_all
theorem zu9 (c:entsV l=true) (a n:Nat):entsV ((l.drop a).take n)=true:=by
 unfold entsV;rw[Bw];intro k f;have d:k<((l.drop a).take n).length:=by simp_all
 have b:a+k<l.length:=by grind
 have e:=ztD c (a+k) b;rw[zfo l (a+k) b,Bm]at e;rw[zfo _ k d];grind
def cutV (l:List Ac) (a:Nat):Prop:=∀i (hi:i<l.length) j (b:j<l.length),i<a->a<=j->l[i].j≠l[j].j
theorem zvm (l:List Ac) (snaps:List Int) (U:Bool) (a n:Nat) (t:entsV l=true) (h:l.length<=1048576) (hs:snaps.length<=1048576) (u:a+n<=l.length) (B:cutV l a) (v: ∀i (hi:i<l.length) j (C:j<l.length),a<=i->i<a+n->a<=j->j<a+n->l[i].j=l[j].j):zh7 ((l.drop a).take n) snaps U=some (finE U (keepT snaps l a n)):=by
 have D:((l.drop a).take n).length=n:=by grind
 have w:=zu9 t a n;have E: ∀i,i<n->((l.drop a).take n)[i]? =l[a+i]?:=λi hi=>by simp_all
 generalize (l.drop a).take n=g at D w E;have o: ∀i (hi:i<n),g[i]'(by omega)=l[a+i]'(by omega):=λi hi=>by grind
 unfold zh7;rw[zk (λk=>((k:Int),keepT snaps l a k)) g.length (r:=Ctl.go (keepT snaps l a n)) ?h0]
 case h0=>rfl
 ·simp only[zd];rw[zvP U (keepT snaps l a n).length _ rfl (Cx (zgB snaps l a n) (by omega)) ?_]
  ·rfl
  ·intro x F y G;obtain ⟨i,hi,p,rfl⟩:=zj4 snaps l a n x F;obtain ⟨j,C,M,rfl⟩:=zj4 snaps l a n y G;grind
 ·intro k f;have z:k<n:=by omega
  have N:=zgB snaps l a k;have H:loopO (ρ:=Ctl Bool (Ctl (Int × List Ac) (Ctl (List Ac) (List Ac)))) (λ(Z:Bool × Int)=>if (Dc (Z.2<(snaps.length:Int)))=true then ((idx g (k:Int)).bind λV=>
 (idx snaps Z.2).bind λE14=>
 (zdH g V.j E14).bind λW=>
 (if Z.1=true then (some true)
 else (if W.2=true then (some (Dc (W.1.c=V.c)))
 else (some false))).bind (λ(T25:Bool)=>
 some (.go (T25,I6.wrap (Z.2+(1:Int))))))
 else (some (.done (.go Z.1)))) (Dc ((k:Int)=(0:Int)),(0:Int))=some (.go (stayV snaps l (a+k))):=by
   rw[zk (λm=>(Dc (k=0)||(snaps.take m).any (λs=>visE g s k),(m:Int))) snaps.length (r:=Ctl.go (Dc (k=0)||snaps.any (λs=>visE g s k))) ?i0]
   case i0=>
    rw[show Dc ((k:Int)=0)=Dc (k=0) from decide_eq_decide.2 (by omega)]
    simp
   ·congr 2
    cases k with
    | zero=>
      simp only[decide_true,Bool.true_or,Nat.add_zero]
      cases a with
      | zero=>rfl
      | succ b=>
        have:=B b (by omega) (b+1) (by omega) (by omega) (Bz _)
        rw[zi8 snaps l b (by omega),decide_eq_false this]
        rfl
    | succ j=>
      rw[show a+(j+1)=(a+j)+1 by omega,zi8 snaps l (a+j) (by omega)]
      have I:(l[a+j]'(by omega)).j=(l[a+j+1]'(by omega)).j:=v _ _ _ _ (by omega) (by omega) (by omega) (by omega)
      rw[decide_eq_true I]
      simp only[Nat.add_one_ne_zero,decide_false,Eo,Bf]
      congr 1
      funext s
      rw[zfR g s (j+1) f]
      have J:=o (j+1) z
      have O:=o j (by omega)
      rw[J,show l[a+(j+1)]'(by omega)=l[a+j+1]'(by omega) from rfl]
      congr 1
      rw[Bool.eq_iff_iff,Bw,decide_eq_true_eq]
      constructor
      ·intro P
       have q:g[j]'(by omega)∈g.take (j+1):=by
        have:(g.take (j+1))[j]'(by grind)=g[j]'(by omega):=by simp
        grind
       grind
      ·intro Q d K
       obtain ⟨i,hi,rfl⟩:=Bo K
       have R:i<j+1:=by grind
       simp only[Dn]
       rw[o i (by omega)]
       have S:(l[a+j]'(by omega)).c<=(l[a+i]'(by omega)).c:=by
        by_cases e:i=j
        ·simp_all
        ·rcases zgx t (a+j) (by omega) (a+i) (by omega) with p | ⟨_,p⟩
         ·rw[v (a+i) (by omega) (a+j) (by omega) (by omega) (by omega) (by omega) (by omega),zbW]at p
          trivial
         ·omega
       grind
   ·intro m q
    simp only[zb g k f,zb snaps m q,An,zix g _ _ (by omega)]
    rw[if_pos (by simp_all),za (n:=(m:Int)+1) (by omega) (by omega),Dj,By q,Fw,<-Bool.or_assoc]
    simp only[Option.toList_some,En,Gk,Gg]
    generalize (Dc (k=0)||(snaps.take m).any (λs=>visE g s k))=st
    cases A:visE g snaps[m] k with
    | true=>
      rw[zrm f A]
      cases st<;>simp
    | false=>
      have u:=zsX w f A
      cases L:g.find? (λd=>decide (d.j=g[k].j)&&Dc (d.c<=snaps[m])) with
      | none=>cases st<;>simp
      | some d=>
        have:=u d L
        cases st<;>simp[this]
   ·simp
  rw[if_pos (by simp_all)]
  simp only[H,zd,zlj snaps l a k (by omega)]
  rw[za (n:=(k:Int)+1) (by omega) (by omega)]
  cases stayV snaps l (a+k) with
  | true=>
    simp only[if_true,zb g k f,An,o k z]
    rw[zg (by grind) (by grind)]
    rfl
  | false=>simp
 ·simp_all
def zuk (l:List Ac) (a:Nat) (d:a<l.length) (h:l.length<=1048576): ∃e:Nat,zhv l (a:Int)=some (e:Int)/\a<e/\e<=l.length/\(∀i (hi:i<l.length),a<=i->i<e->l[i].j=l[a].j)/\(∀hi:e<l.length,l[e].j≠l[a].j):=by
 unfold zhv;have key: ∃c,loopO (ρ:=Ctl Int Int) (λ(B:Int)=>(if (Dc (B<(l.length:Int)))=true then ((idx l B).bind λE=>
 (idx l (a:Int)).bind λD=>
 some (Dc (E.j=D.j)))
 else (some false)).bind (λ(F:Bool)=>
 if F=true then (some (.go (I6.wrap (B+(1:Int)))))
 else (some (.done (.go B))))) (a:Int)=some c/\∃e:Nat,c= .go (e:Int)/\a<e/\e<=l.length/\(∀i (hi:i<l.length),a<=i->i<e->l[i].j=l[a].j)/\(∀hi:e<l.length,l[e].j≠l[a].j):=by
  refine zX (λk s=>s=((a+k:Nat):Int)/\∀i (hi:i<l.length),a<=i->i<a+k->l[i].j=l[a].j) (l.length - a) _ ⟨rfl,λi hi b f=>by omega⟩ ?_ ?_
  ·rintro k s o ⟨rfl,A⟩;have g:a+k<l.length:=by omega
   simp only[zb l (a+k) g,zb l a d,An];rw[if_pos (by simp;omega),za (by omega) (by omega)];by_cases c:l[a+k].j=l[a].j
   ·left;refine ⟨((a+k:Nat):Int)+1,by simp[c],by omega,λi hi b f=>?_⟩;by_cases e:i=a+k
    ·subst e;exact c
    ·exact A i hi b (by omega)
   ·right;refine ⟨.go ((a+k:Nat):Int),by simp[c],a+k,rfl,?_,by omega,A,λ_=>c⟩;have:k≠0:=by rintro rfl;exact c rfl
    omega
  ·rintro s ⟨rfl,A⟩;have m:a+(l.length - a)=l.length:=by omega
   rw[m]at A |-
   exact ⟨.go (l.length:Int),by simp,l.length,rfl,d,Bz _,A,λhi=>absurd hi (by omega)⟩
 obtain ⟨c,n,e,rfl,b⟩:=key;exact ⟨e,by rw[n];rfl,b⟩
def zu1 (c:entsV l=true) {e:Nat} (g:cutV l a) (k:a<e) (s:a<l.length) (m: ∀i (hi:i<l.length),a<=i->i<e->l[i].j=l[a].j) (n: ∀hi:e<l.length,l[e].j≠l[a].j):cutV l e:=by
 intro i hi j d o t b;by_cases p:i<a
 ·exact g i hi j d p (by omega) b
 ·rw[m i hi (by omega) o]at b;have f:e<l.length:=by omega
  have u:=n f;have q:sLt l[a].j l[e].j=true:=by
   rcases zgx c e f a k with h | ⟨h,_⟩
   ·exact h
   ·simp_all
  by_cases v:j=e
  ·simp_all
  ·rcases zgx c j d e (by omega) with h | ⟨h,_⟩
   ·have:=zcZ q h;rw[<-b,zbW]at this;trivial
   ·simp_all
def compactR (l:List Ac) (snaps:List Int) (h:Bool):List Ac:=if l.length<=400/\entsV l=true then finE h (keepT snaps l 0 l.length) else []
theorem zl3 (l:List Ac) (snaps:List Int) (F:Bool) (h:l.length<=1048576) (hs:snaps.length<=1048576):zev l snaps F=some (compactR l snaps F):=by
 unfold zev compactR;rw[zfN l h];by_cases hl:l.length<=400
 ·rw[if_neg (by grind)];cases f:entsV l with
  | false=>simp
  | true=>
    simp only[An,Bf,Ba,if_false];rw[if_pos ⟨hl,trivial⟩];rw[zca (λk s=>∃a:Nat,s=((a:Int),finE F (keepT snaps l 0 a))/\a<=l.length/\k<=a/\cutV l a) l.length (Ctl.go (finE F (keepT snaps l 0 l.length))) ?h0 ?h1 ?h2]
    ·rfl
    case h0=>
     refine ⟨0,?_,Dx _,Bz _,λi hi j b h1 h2=>by omega⟩
     cases F<;>rfl
    ·rintro k s z ⟨a,rfl,A,B,c⟩;by_cases g:a<l.length
     ·left;obtain ⟨e,n,h1,h2,d,o⟩:=zuk l a g h;have p:keepT snaps l 0 e=keepT snaps l 0 a++keepT snaps l a (e - a):=by have:=zqR snaps l 0 a (e - a);grind
      have q:finE F (keepT snaps l 0 e)=finE F (keepT snaps l 0 a)++finE F (keepT snaps l a (e - a)):=by rw[p];refine zs7 F _ _ λx t y u=>?_;obtain ⟨i,hi,m,rfl⟩:=zj4 snaps l 0 a x t;obtain ⟨j,b,v,rfl⟩:=zj4 snaps l a (e - a) y u;exact c _ _ _ _ (by omega) (by omega)
      refine ⟨((e:Int),finE F (keepT snaps l 0 e)),?_,e,rfl,h2,by omega,zu1 f c h1 g d o⟩;have C:=Cx (zr8 F (keepT snaps l 0 a)) (zgB snaps l 0 a);have D:=Cx (zr8 F (keepT snaps l a (e - a))) (zgB snaps l a (e - a));simp only[n,An];rw[if_pos (by simp_all),zQ l a e _ _ rfl rfl (by omega) h2];simp only[An];rw[zvm l snaps F a (e - a) f h hs (by omega) c (λi hi j b m v w E=>(d i hi m (by omega)).trans (d j b w (by omega)).symm)];simp only[An];rw[zg (by omega) (by omega),q];rfl
     ·grind
    ·grind
 ·grind
def flushS (e:Aa):Bool × Aa:=bif Dc (e.x.length=0\/6<=e.t.length) then (false,e) else (true,⟨[],e.x::e.t,e.c,e.B⟩)
def zeo (h:e.x.length=0\/6<=e.t.length):flushS e=(false,e):=by unfold flushS;rw[decide_eq_true h];rfl
def zgQ (h: ¬(e.x.length=0\/6<=e.t.length)):flushS e=(true,⟨[],e.x::e.t,e.c,e.B⟩):=by unfold flushS;rw[decide_eq_false h];rfl
def flushR (e:Aa):Aa × Bool:=bif engV e then ((flushS e).2,(flushS e).1) else (⟨[],[],0,[]⟩,false)
theorem zlI (e:Aa) (f:e.t.length<=1048576):zfq e=some (flushS e):=by
 unfold zfq zbv ins;by_cases c:e.x.length=0
 ·have b:(e.x.length:Int)=0:=by omega
  rw[zeo (Or.inl c),if_pos (decide_eq_true b)];rfl
 ·have b: ¬(e.x.length:Int)=0:=by omega
  rw[if_neg (by simp_all)];by_cases d:6<=e.t.length
  ·have a:(e.t.length:Int)>=6:=by omega
   rw[zeo (Or.inr d),decide_eq_true a];rfl
  ·have a: ¬(e.t.length:Int)>=6:=by omega
   rw[zgQ (by omega),decide_eq_false a];grind
theorem zoi (e:Aa) (b:e.x.length<=1048576) (c:e.t.length<=1048576) (d:totalV e.t<=1048576) (f:e.B.length<=1048576):zf9 e=some (flushR e):=by
 have h: ∀t∈e.t,t.length<=1048576:=λt i=>Cx (zfP De i) d;unfold zf9 flushR;rw[zbY e b c d f];cases l:engV e with
 | false=>rfl
 | true=>
   simp only[An,Bf,Ba,if_false,if_true,zce e b c h f,cond_true];by_cases j:e.x.length=0
   ·have g:(e.x.length:Int)=0:=by omega
    rw[if_pos (decide_eq_true g),zeo (Or.inl j)];rfl
   ·have g: ¬(e.x.length:Int)=0:=by omega
    rw[if_neg (by simp_all)];by_cases k:6<=e.t.length
    ·have a:(e.t.length:Int)>=6:=by omega
     rw[zeo (Or.inr k),decide_eq_true a];rfl
    ·have a: ¬(e.t.length:Int)>=6:=by omega
     rw[zgQ (by omega),decide_eq_false a];simp only[An,Ba,if_false];rw[zg (by grind) (by grind)];rfl
theorem ztI {a:Int} (c:0<=a) (d:a<=4611686018427387904):I6.wrap (ishr .u64 (IntKind.u64.wrap (I6.wrap a)) (1:Int))=a / 2:=by
 have b:IntKind.u64.wrap a=a:=by simp[IntKind.wrap,IntKind.bits,IntKind.signed];omega
 have hs:ishr .u64 a (1:Int)=a / 2:=by unfold ishr;show a.fdiv (2 ^ 1)=a / 2;grind
 rw[za (n:=a) (by omega) (by omega),b,hs,za (by omega) (by omega)]
theorem bisect (x:List α) (F:α->Option Int) (c:α->Int) (n: ∀e∈x,F e=some (c e)) (v:x.length<=1048576):
 ∃j,j<=x.length/\loopO (ρ:=Ctl Int ρ) (λ(A:Int × Int)=>if (Dc (A.1<A.2))=true then ((idx x (I6.wrap (ishr .u64 (IntKind.u64.wrap (I6.wrap (A.1+A.2))) (1:Int)))).bind λD=>
 (F D).bind λE=>
 bindC (if (Dc (E<(0:Int)))=true then (some (.go (I6.wrap (I6.wrap (ishr .u64 (IntKind.u64.wrap (I6.wrap (A.1+A.2))) (1:Int))+(1:Int)),A.2)))
 else (some (.go (A.1,I6.wrap (ishr .u64 (IntKind.u64.wrap (I6.wrap (A.1+A.2))) (1:Int))))))
 (λ(B:Int × Int)=>some (.go (B.1,B.2))))
 else (some (.done (.go A.1)))) ((0:Int),(x.length:Int))=some (.go (j:Int))/\(∀i (hi:i<x.length),i+1=j->c x[i]<0)/\(∀l:j<x.length,0<=c x[j]):=by
 obtain ⟨r,o,j,rfl,d,f,p⟩:=zX (ρ:=Ctl Int ρ) (s0:=((0:Int),(x.length:Int))) (body:=λ(A:Int × Int)=>if (Dc (A.1<A.2))=true then ((idx x (I6.wrap (ishr .u64 (IntKind.u64.wrap (I6.wrap (A.1+A.2))) (1:Int)))).bind λD=>
 (F D).bind λE=>
 bindC (if (Dc (E<(0:Int)))=true then (some (.go (I6.wrap (I6.wrap (ishr .u64 (IntKind.u64.wrap (I6.wrap (A.1+A.2))) (1:Int))+(1:Int)),A.2)))
 else (some (.go (A.1,I6.wrap (ishr .u64 (IntKind.u64.wrap (I6.wrap (A.1+A.2))) (1:Int))))))
 (λ(B:Int × Int)=>some (.go (B.1,B.2))))
 else (some (.done (.go A.1))))
  (λk s=>∃a b:Nat,s=((a:Int),(b:Int))/\a<=b/\b<=x.length/\b - a+k<=x.length/\(∀i (hi:i<x.length),i+1=a->c x[i]<0)/\(∀l:b<x.length,0<=c x[b])) x.length
  (λr=>∃j:Nat,r= .go (j:Int)/\j<=x.length/\(∀i (hi:i<x.length),i+1=j->c x[i]<0)/\(∀l:j<x.length,0<=c x[j]))
  ⟨0,x.length,rfl,Dx _,Bz _,by omega,λi hi h=>by omega,λh=>by omega⟩ (by
    rintro k s w ⟨a,b,rfl,y,q,z,d,f⟩;by_cases t:a<b
    ·left;have u:((a:Int)+(b:Int)) / 2=(((a+b) / 2:Nat):Int):=by omega
     have m:(a+b) / 2<x.length:=by omega
     simp only[ztI (a:=(a:Int)+(b:Int)) (by omega) (by omega),u,zb x _ m,An,n _ (Cq m)];rw[if_pos (by simpa using t)];by_cases g:c x[(a+b) / 2]<0
     ·rw[if_pos (by simpa using g),za (by omega) (by omega)];refine ⟨_,rfl,(a+b) / 2+1,b,rfl,by omega,q,by omega,λi hi h=>?_,f⟩;obtain rfl:i=(a+b) / 2:=by omega
      exact g
     ·rw[if_neg (by simpa using g)];exact ⟨_,rfl,a,(a+b) / 2,rfl,by omega,by omega,by omega,d,λ_=>by omega⟩
    ·grind) (by
    grind)
 exact ⟨j,d,o,f,p⟩
theorem zhX {a b c:Ac} (d:entLt a b=true) (e:entLt b c=true):entLt a c=true:=by
 unfold entLt at d e |-
 simp only[Dq,Bm,decide_eq_true_eq]at d e |-
 rcases d with d | ⟨d,f⟩
 ·rcases e with e | ⟨e,_⟩
  ·exact .inl (zcZ d e)
  ·simp_all
 ·grind
theorem znw {a b:Ac} (h: ¬(a.j=b.j/\a.c=b.c)) (d:entLt a b=false):entLt b a=true:=by
 unfold entLt at d |-
 simp only[Bool.or_eq_false_iff,Bool.and_eq_false_iff,decide_eq_false_iff_not]at d;simp only[Dq,Bm,decide_eq_true_eq];have e:=zik a.j b.j;grind
theorem zen (a b:Ac): ∃r,zn a b=some r/\Dc (r<0)=entLt a b/\(r=0↔(a.j=b.j/\a.c=b.c)):=by
 unfold zn entLt;rw[ztC,ztB];simp only[An,zr0];refine ⟨_,rfl,?_⟩;by_cases c:sLt a.j b.j=true
 ·have d: ¬a.j=b.j:=λe=>by rw[e,zbW]at c;cases c
  simp_all
 ·grind
def insE (l:List Ac) (e:Ac) (j:Nat):List Ac:=l.take j++(e::l.drop j)
theorem zsh {e x:Ac} {j:Nat} :x∈insE l e j↔x=e\/x∈l:=by
 unfold insE;rw[Ds,Gi];conv=>rhs;rw[<-Dm j l,Ds]
 grind
def zsg (l:List Ac) (e:Ac) (j:Nat) (h:j<=l.length):(insE l e j).length=l.length+1:=by unfold insE;simp;omega
def ordE (l:List Ac):Prop:=l.Pairwise λa b=>entLt a b=true
theorem zwm {e:Ac} {j:Nat} (hl:ordE l) (c: ∀i (hi:i<l.length),i<j->entLt l[i] e=true) (d: ∀i (hi:i<l.length),j<=i->entLt e l[i]=true):ordE (insE l e j):=by
 unfold ordE insE at*;have b:=hl;rw[<-Dm j l,Ez]at b;have m1: ∀x∈l.take j,entLt x e=true:=by intro x a;obtain ⟨i,hi,rfl⟩:=Bo a;grind
 have m2: ∀x∈l.drop j,entLt e x=true:=by intro x a;obtain ⟨i,hi,rfl⟩:=Bo a;simp_all
 rw[Ez,List.pairwise_cons];simp_all
theorem zbf (l:List Ac):entsV l=true↔(∀x∈l,entV x=true)/\ordE l:=by
 constructor
 ·intro h;refine ⟨λx d=>?_,?_⟩
  ·obtain ⟨k,a,rfl⟩:=Bo d;unfold entsV at h;rw[Bw]at h;have:=h k (by simp_all);rw[zfo l k a,Bm]at this;simp_all
  ·unfold ordE;rw[Db];intro i j hi e f;unfold entLt;simp only[Dq,Bm,decide_eq_true_eq];exact zgx h j e i f
 ·rintro ⟨g,b⟩;unfold ordE at b;rw[Db]at b;unfold entsV;rw[Bw];intro k a;have c:k<l.length:=by simp_all
  rw[zfo l k c,g _ (Cq c)];grind
def putF (l:List Ac) (f:Ac) (j k:Nat):Bool × Int × List Ac:=bif Fa k j then (false,(k:Int),l.take k) else (true,(k:Int),l.take j++(f::(l.drop j).take (k - j)))
def zkL (l:List Ac) (f:Ac) (j k:Nat) (h:k<=j):putF l f j k=(false,(k:Int),l.take k):=by unfold putF;rw[Ev h];rfl
def zm4 (l:List Ac) (f:Ac) (j k:Nat) (h:j<k):putF l f j k=(true,(k:Int),l.take j++(f::(l.drop j).take (k - j))):=by
 unfold putF;have:Fa k j=false:=by
  cases a:Fa k j
  ·rfl
  ·simp_all;omega
 simp_all
theorem zrR (l:List Ac) (f:Ac) (j:Nat) (hl:l.length<=1048576) (o:j<=l.length) (e: ∀i (hi:i<l.length),i<j->entLt f l[i]=false) (g: ∀hi:j<l.length,entLt f l[j]=true):
 zdI l f=some (insE l f j):=by
 unfold zdI;rw[zk (putF l f j) l.length (r:=Ctl.go ((putF l f j l.length).1,(putF l f j l.length).2.2)) ?h0]
 case h0=>rw[zkL _ _ _ _ (Dx _)];rfl
 ·by_cases h:j=l.length
  ·subst h;rw[zkL _ _ _ _ (Bz _)];simp only[zd,Bt,if_true];rw[zg (by grind) (by grind)];simp[insE]
  ·rw[zm4 _ _ _ _ (by omega)];simp only[zd,Bf,Ba,if_false];unfold insE;rw[Cy (l:=l.drop j) (by simp)]
 ·intro k a;have c:=za (n:=(k:Int)+1) (by omega) (by omega);rcases Fk k j with b | b | b
  ·have d:l.take (k+1)=l.take k++ [l[k]]:=by simp
   rw[zkL _ _ _ _ (by omega),zkL _ _ _ _ (by omega)];simp only[zb l k a,An,Bt,if_true,c,zdG,e k a b,Ba,if_false,zd];rw[if_pos (by simp_all),zg (by grind) (by simp;omega),d];rfl
  ·subst b;rw[zkL _ _ _ _ (Bz _),zm4 _ _ _ _ (by omega)];simp only[zb l k a,An,Bt,if_true,c,zdG,g a];rw[if_pos (by simp_all),zg (by grind) (by simp;omega)];simp only[An,zd];rw[zg (by grind) (by grind)];have:(l.drop k).take (k+1 - k)= [l[k]]:=by rw[Bl a,show k+1 - k=1 by omega];rfl
   simp_all
  ·rw[zm4 _ _ _ _ (by omega),zm4 _ _ _ _ (by omega)];simp only[zb l k a,An,Bf,Ba,if_false,c,zd];rw[if_pos (by simp_all),zg (by grind) (by simp;omega)];have m:k - j<(l.drop j).length:=by grind
   have d:(l.drop j).take (k+1 - j)=(l.drop j).take (k - j)++ [l[k]]:=by rw[show k+1 - j=(k - j)+1 by omega,Dj,By m,Em];grind
   simp_all
 ·have hi:(putF l f j l.length).2.1=(l.length:Int):=by unfold putF;grind
  simp_all
theorem zuh (l:List Ac) (x:Ac) (j:Nat) (a:j<=l.length) (h:l.length<=1048576):zdo l (j:Int) [x]=some (insE l x j):=by unfold zdo ins insE;grind
theorem zoe (l:List Ac) (e:Ac) (hl:ordE l) (h:l.length<=1048576) (t: ∀x∈l,¬(x.j=e.j/\x.c=e.c)):
 ∃j,j<=l.length/\zhL l e=some (insE l e j,true)/\zdI l e=some (insE l e j)/\ordE (insE l e j):=by
 have u: ∀x∈l,zn x e=some ((zn x e).getD 0):=by intro x _;obtain ⟨r,v,_⟩:=zen x e;simp_all
 have w: ∀x:Ac,(((zn x e).getD 0<0)↔entLt x e=true)/\((zn x e).getD 0=0↔(x.j=e.j/\x.c=e.c)):=by intro x;obtain ⟨r,v,k,m⟩:=zen x e;grind
 obtain ⟨j,f,n,k,m⟩:=bisect (ρ:=Int × Bool) l (λx=>zn x e) (λx=>(zn x e).getD 0) u h;have o: ∀a b (D:a<l.length) (n:b<l.length),a<b->entLt l[a] l[b]=true:=by unfold ordE at hl;rw[Db]at hl;trivial
 have p: ∀i (hi:i<l.length),i<j->entLt l[i] e=true:=by
  intro i hi g;have q:=((w _).1.1 (k (j - 1) (by omega) (by omega)));by_cases y:i=j - 1
  ·grind
  ·exact zhX (o i (j - 1) hi (by omega) (by omega)) q
 have s: ∀i (hi:i<l.length),j<=i->entLt e l[i]=true:=by
  intro i hi g;have d:j<l.length:=by omega
  have q:=m d;have z:entLt e l[j]=true:=by refine znw (t _ (Cq d)) ?_;grind
  by_cases y:j=i
  ·grind
  ·exact zhX z (o j i d hi (by omega))
 have asym: ∀a b:Ac,entLt a b=true->entLt b a=false:=by
  intro a b A;cases B:entLt b a with
  | false=>rfl
  | true=>have:=zhX A B;unfold entLt at this;rw[zbW]at this;grind
 refine ⟨j,f,?_,zrR l e j h f (λi hi g=>asym _ _ (p i hi g)) (λhi=>s j hi (Bz _)),zwm hl p s⟩;unfold zhL z6;rw[n];simp only[zd];have C:(if (Dc ((j:Int)<(l.length:Int)))=true then ((idx l (j:Int)).bind λE=>(zn E e).bind λF=>some (Dc (F=(0:Int)))) else (some false))=some false:=by
  by_cases d:j<l.length
  ·rw[if_pos (by grind),zb l j d];grind
  ·grind
 rw[C];simp only[An,Ba,if_false,zuh l e j f h]
def opV (o:Op):Bool:=Dc (1<=(o.j.length:Int)/\(o.j.length:Int)<=10)&&(Dc ((o.M.length:Int)<=16)&&(!o.P||decide (o.M= [])))
theorem zmR (o:Op):zfm o=some (opV o):=by unfold zfm opV;simp only[zba,An];grind
theorem zsf (o:Op):((zfx o.j).bind λh=>if (!h)=true then (some true) else ((zfy o.P o.M).bind λA=>some (!A)))=some (!opV o):=by unfold zfx zfy opV;simp only[zP,An];grind
def batchV (l:List Op):Bool:=Dc (1<=l.length/\l.length<=6)&&l.all opV
def batchI (l:List Op):Dc (1<=(l.length:Int)/\(l.length:Int)<=6)=Dc (1<=l.length/\l.length<=6):=decide_eq_decide.2 (by omega)
theorem zdE (l:List Op) (h:l.length<=1048576):zdg l=some (batchV l):=by
 unfold zdg batchV;simp only[zba,An,batchI];by_cases a:1<=l.length/\l.length<=6
 ·rw[decide_eq_true a];simp only[Bf,Ba,if_false,Cj];rw[zca (λk s=>s=(k:Int)/\l.all opV=(l.drop k).all opV) l.length (if l.all opV=true then Ctl.go () else Ctl.done false) ?h0 ?h1 ?h2]
  ·cases l.all opV<;>rfl
  case h0=>exact ⟨rfl,rfl⟩
  ·rintro k s b ⟨rfl,c⟩;simp only[zb l k b,An,zmR];rw[if_pos (by simp_all),za (n:=(k:Int)+1) (by omega) (by omega),c,Bl b,Ek];grind
  ·simp
 ·rw[decide_eq_false a];rfl
theorem zeT (l:List Op) (h:l.length<=1048576):zc8 l=some (batchV l):=by
 unfold zc8 batchV;rw[zca (λk s=>s=(k:Int)/\l.all opV=(l.drop k).all opV) l.length (if l.all opV=true then Ctl.go () else Ctl.done false) ?h0 ?h1 ?h2]
 ·cases l.all opV with
  | false=>simp
  | true=>simp only[if_true,zd,zP,An,batchI,El]
 case h0=>exact ⟨rfl,rfl⟩
 ·rintro k s a ⟨rfl,b⟩;simp only[zb l k a,An,zsf];rw[if_pos (by simp_all),za (n:=(k:Int)+1) (by omega) (by omega),b,Bl a,Ek];grind
 ·simp
def laterV (l:List Op) (k:Nat) (key:List UInt8):Bool:=(l.drop (k+1)).any λx=>decide (x.j=key)
theorem zlF (s:List Op) (c:Op) (h:s.length<=1048576):zF s c=some (s.any λx=>decide (x.j=c.j)):=by
 unfold zF;have key: ∃r:Int,zS s c=some r/\Dc (r>=0)=s.any λx=>decide (x.j=c.j):=by
  unfold zS zfU;obtain ⟨r,b,d⟩:=zX (ρ:=Ctl Unit Int) (s0:=(0:Int)) (body:=λ(A:Int)=>if (Dc (A<(s.length:Int)))=true then ((idx s A).bind λB=>
   (some (Dc (B.j=c.j))).bind λD=>
   if D=true then (some (.done (.done A)))
   else (some (.go (I6.wrap (A+(1:Int))))))
   else (some (.done (.go ()))))
   (λk t=>t=(k:Int)/\(s.any λx=>decide (x.j=c.j))=(s.drop k).any λx=>decide (x.j=c.j)) s.length
   (λr=>(∃i:Nat,r= .done (i:Int)/\(s.any λx=>decide (x.j=c.j))=true)\/(r= .go ()/\(s.any λx=>decide (x.j=c.j))=false))
   ⟨rfl,rfl⟩ (by
     rintro k t a ⟨rfl,e⟩;rw[Bl a,En]at e;simp only[zb s k a,An];rw[if_pos (by simp_all),za (n:=(k:Int)+1) (by omega) (by omega)];cases g:Dc (s[k].j=c.j) with
     | true=>grind
     | false=>simp_all) (by
     simp)
  rw[b];rcases d with ⟨i,rfl,f⟩ | ⟨rfl,f⟩
  ·simp_all
  ·simp_all
 grind
theorem zvp (l:List Op) (k:Nat) (a:k<l.length) (h:l.length<=1048576):
 loopO (ρ:=Ctl Bool ρ) (λ(A:Bool × Int)=>if (Dc (A.2<(l.length:Int)))=true then ((if A.1=true then ((idx l A.2).bind λB=>
 (idx l (k:Int)).bind λD=>
 some (!(Dc (B.j=D.j))))
 else (some false)).bind (λ(E:Bool)=>
 some (.go (E,I6.wrap (A.2+(1:Int))))))
 else (some (.done (.go A.1))))
 (true,I6.wrap ((k:Int)+(1:Int)))=some (.go (!laterV l k l[k].j)):=by
 rw[zk (λd=>(!(((l.drop (k+1)).take d).any λx=>decide (x.j=l[k].j)),((k+1+d:Nat):Int))) (l.length - (k+1)) (r:=Ctl.go (!laterV l k l[k].j)) ?h0]
 case h0=>rw[za (by omega) (by omega)];simp
 ·intro d f;have b:k+1+d<l.length:=by omega
  have c:d<(l.drop (k+1)).length:=by simp_all
  have e:(l.drop (k+1)).take (d+1)=(l.drop (k+1)).take d++ [l[k+1+d]]:=by rw[Dj,By c,Em];rfl
  simp only[zb l _ b,zb l k a,An,e,Fw,En,Gk,Gg];rw[if_pos (by grind),za (by omega) (by omega)];grind
 ·rw[show k+1+(l.length - (k+1))=l.length by omega,Cy (by simp)];simp[laterV]
def entO (o:Op) (seq:Int):Ac:=⟨o.j,seq,o.P,o.M⟩
def memB (l:List Op) (seq:Int) (m:List Ac):Nat->List Ac
 | 0=>m
 | k+1=>match l[k]? with
   | some o=>bif laterV l k o.j then memB l seq m k else (zdI (memB l seq m k) (entO o seq)).getD []
   | none=>memB l seq m k
def zhe (l:List Op) (seq:Int) (m:List Ac) (k:Nat) (a:k<l.length) (h:laterV l k l[k].j=true):memB l seq m (k+1)=memB l seq m k:=by show (match l[k]? with | some o=>_ | none=>_)=_;simp_all
def zn8 (l:List Op) (seq:Int) (m:List Ac) (k:Nat) (a:k<l.length) (h:laterV l k l[k].j=false):memB l seq m (k+1)=(zdI (memB l seq m k) (entO l[k] seq)).getD []:=by show (match l[k]? with | some o=>_ | none=>_)=_;simp_all
def invB (l:List Op) (seq:Int) (m:List Ac) (k:Nat) (x:Ac):Prop:=x∈m\/∃i,∃hi:i<l.length,i<k/\laterV l i l[i].j=false/\x=entO l[i] seq
theorem zn7 (l:List Op) (seq:Int) (m M:List Ac) (k:Nat) (n:k<l.length) (hs: ∀x∈m,x.c<seq) (A: ∀x∈M,invB l seq m k x): ∀x∈M,¬(x.j=(entO l[k] seq).j/\x.c=(entO l[k] seq).c):=by
 rintro x b ⟨d,e⟩;rcases A x b with h | ⟨i,hi,o,a,rfl⟩
 ·have:=hs x h;have f:x.c=seq:=e;omega
 ·unfold laterV at a;rw[List.any_eq_false]at a;have g:l[k]∈l.drop (i+1):=by
   have:(l.drop (i+1))[k - (i+1)]'(by grind)=l[k]:=by grind
   grind
  refine a _ g ?_;have f:l[i].j=l[k].j:=d;simp_all
def zgD (l:List Op) (seq:Int) (m:List Ac) (n:ordE m) (hs: ∀x∈m,x.c<seq) (hl:m.length+l.length<=1048576): ∀k,k<=l.length->ordE (memB l seq m k)/\(memB l seq m k).length<=m.length+k/\(∀x∈memB l seq m k,invB l seq m k x)/\(∀x∈m,x∈memB l seq m k):=by
 intro k;induction k with
 | zero=>intro _;exact ⟨n,Bz _,λx a=>.inl a,λx a=>a⟩
 | succ k ih=>
   intro t;obtain ⟨f,u,d,g⟩:=ih (by omega);have b:k<l.length:=by omega
   cases e:laterV l k l[k].j with
   | true=>
     rw[zhe l seq m k b e];refine ⟨f,by omega,λx a=>?_,g⟩;rcases d x a with h | ⟨i,hi,o,h⟩
     ·exact .inl h
     ·exact .inr ⟨i,hi,by omega,h⟩
   | false=>
     obtain ⟨j,p,_,q,s⟩:=zoe (memB l seq m k) (entO l[k] seq) f (by omega) (zn7 l seq m _ k b hs d);rw[zn8 l seq m k b e,q];refine ⟨s,?_,λx a=>?_,λx a=>?_⟩
     ·rw[Option.getD_some,zsg _ _ _ p];omega
     ·rcases zsh.1 a with rfl | a
      ·exact .inr ⟨k,b,by omega,e,rfl⟩
      ·rcases d x a with h | ⟨i,hi,o,h⟩
       ·exact .inl h
       ·exact .inr ⟨i,hi,by omega,h⟩
     ·exact zsh.2 (.inr (g x a))
def zmC (l:List Op) (seq:Int) (m:List Ac) (b:ordE m) (hs: ∀x∈m,x.c<seq) (hl:m.length+l.length<=1048576) (k:Nat) (a:k<l.length) (d:laterV l k l[k].j=false):
    zhL (memB l seq m k) (entO l[k] seq)=some (memB l seq m (k+1),true)/\zdI (memB l seq m k) (entO l[k] seq)=some (memB l seq m (k+1)):=by obtain ⟨e,i,f,_⟩:=zgD l seq m b hs hl k (by omega);obtain ⟨j,n,g,h,_⟩:=zoe (memB l seq m k) (entO l[k] seq) e (by omega) (zn7 l seq m _ k a hs f);rw[zn8 l seq m k a d,g,h];trivial
theorem zit (m:Int): ∀(l:List Ac) (s:Int × Int),(m<=(l.foldl (λs e=>(goMin s.1 e.c,goMax s.2 e.c)) s).1↔m<=s.1/\∀x∈l,m<=x.c)/\((l.foldl (λs e=>(goMin s.1 e.c,goMax s.2 e.c)) s).2<=m↔s.2<=m/\∀x∈l,x.c<=m)
 | [],s=>by simp
 | e::l,s=>by
   obtain ⟨a,b⟩:=zit m l (goMin s.1 e.c,goMax s.2 e.c);simp only[List.foldl_cons];rw[a,b];have d:m<=goMin s.1 e.c↔m<=s.1/\m<=e.c:=by unfold goMin;omega
   have f:goMax s.2 e.c<=m↔s.2<=m/\e.c<=m:=by unfold goMax;omega
   grind
def zek (l:List Ac) (m:Int):m<=(rangeV l).1↔m<=1000001/\∀x∈l,m<=x.c:=(zit m l _).1
def zig (l:List Ac) (m:Int):(rangeV l).2<=m↔-1<=m/\∀x∈l,x.c<=m:=(zit m l _).2
theorem zwA {seq D A B:Int} (a:A<=B\/seq<B) (b:seq<=D): ∀t:List (List Ac),tabsV seq A t=true->tabsV D B t=true:=by
 have go: ∀(t:List (List Ac)) (A:Int),tabsV seq A t=true->tabsV D A t=true:=by
  intro t;induction t with
  | nil=>intro _ _;rfl
  | cons x t ih=>
    intro A h;simp only[tabsV,Bm,decide_eq_true_eq]at h |-
    grind
 intro t h;cases t with
 | nil=>rfl
 | cons x t=>
   simp only[tabsV,Bm,decide_eq_true_eq]at h |-
   grind
theorem zvH {seq A:Int} {l:List Int} (d:seq<=A) (h:snapsV seq l=true):snapsV A l=true:=by
 unfold snapsV;rw[Bw];intro k e;have c:k<l.length:=by simp_all
 obtain ⟨a,b⟩:=zfg h k c;rw[zjy A l k c,Bm];grind
def engB (e:Aa) (l:List Op):Aa:=⟨memB l (e.c+1) e.x l.length,e.t,e.c+1,e.B⟩
def okB (e:Aa) (l:List Op):Bool:=Dc (e.c+1<=1000000)&&(Dc ((memB l (e.c+1) e.x l.length).length<=60)&&Dc (totalV e.t+(memB l (e.c+1) e.x l.length).length<=400))
def z9 (h:engV e=true):(0<=e.c/\e.c<=1000000)/\e.B.length<=4/\e.t.length<=6/\totalV e.t+e.x.length<=400/\(e.x.length<=60/\entsV e.x=true)/\(rangeV e.x).2<=e.c/\tabsV e.c (rangeV e.x).1 e.t=true/\snapsV e.c e.B=true:=by unfold engV memV at h;simp_all
def zhI {l:List Op} (h:engV e=true) (a:batchV l=true):ordE e.x/\(∀x∈e.x,x.c<e.c+1)/\e.x.length+l.length<=66:=by obtain ⟨g,i,j,k,b,d,m,n⟩:=z9 h;unfold batchV at a;rw[Bm,decide_eq_true_eq]at a;refine ⟨((zbf _).1 b.2).2,λx f=>?_,by omega⟩;have:=((zig _ _).1 d).2 x f;omega
theorem zm0 {l:List Op} (h:engV e=true) (b:batchV l=true):engV (engB e l)=okB e l:=by
 obtain ⟨w,f,g,y,j,z,k,m⟩:=z9 h;obtain ⟨n,o,A⟩:=zhI h b;obtain ⟨p,B,d,C⟩:=zgD l (e.c+1) e.x n o (by omega) l.length (Bz _);unfold batchV at b;rw[Bm,decide_eq_true_eq,Bw]at b;unfold okB engB engV memV;simp only;rw[decide_eq_true f,decide_eq_true g,zvH (by omega) m];by_cases q:e.c+1<=1000000
 ·have s:0<=e.c+1/\e.c+1<=1000000:=by omega
  rw[decide_eq_true q,decide_eq_true s];have t:entsV (memB l (e.c+1) e.x l.length)=true:=by
   rw[zbf];refine ⟨λx a=>?_,p⟩;rcases d x a with a | ⟨i,hi,_,_,rfl⟩
   ·exact ((zbf _).1 j.2).1 x a
   ·have:=b.2 _ (Cq hi);unfold opV at this;rw[Bm,Bm]at this;unfold entV entO;simp_all
  have u:(rangeV (memB l (e.c+1) e.x l.length)).2<=e.c+1:=by
   rw[zig];refine ⟨by omega,λx a=>?_⟩;rcases d x a with a | ⟨i,hi,_,_,rfl⟩
   ·grind
   ·exact Ew _
  have v:(rangeV e.x).1<=(rangeV (memB l (e.c+1) e.x l.length)).1\/e.c<(rangeV (memB l (e.c+1) e.x l.length)).1:=by
   by_cases c:(rangeV e.x).1<=e.c+1
   ·left;rw[zek];have:=(zek e.x (rangeV e.x).1).1 (Ew _);refine ⟨this.1,λx a=>?_⟩;rcases d x a with a | ⟨i,hi,_,_,rfl⟩
    ·simp_all
    ·exact c
   ·right;have:e.c+1<=(rangeV (memB l (e.c+1) e.x l.length)).1:=by
     rw[zek];have D:=(zek e.x (rangeV e.x).1).1 (Ew _);refine ⟨by omega,λx a=>?_⟩;rcases d x a with a | ⟨i,hi,_,_,rfl⟩
     ·grind
     ·exact Ew _
    omega
  rw[t,decide_eq_true u,zwA v (by omega) _ k];grind
 ·grind
def putR (e:Aa) (l:List Op):Aa × Bool:=bif engV e then (bif batchV l then (bif okB e l then (engB e l,true) else (e,false)) else (e,false)) else (⟨[],[],0,[]⟩,false)
theorem zfC (e:Aa) (l:List Op) (h:e.x.length<=1048576) (b:e.t.length<=1048576) (d:totalV e.t<=1048576) (f:e.B.length<=1048576) (i:l.length<=1048576):zb6 e l=some (putR e l):=by
 have u: ∀t∈e.t,t.length<=1048576:=λt v=>Cx (zfP De v) d;unfold zb6 putR;rw[zbY e h b d f];cases g:engV e with
 | false=>rfl
 | true=>
   simp only[An,Bf,Ba,if_false,zce e h b u f,cond_true,zdE l i];cases m:batchV l with
   | false=>rfl
   | true=>
     have z:=(z9 g).1;obtain ⟨o,p,A⟩:=zhI g m;have w:I6.wrap (e.c+(1:Int))=e.c+1:=za (by omega) (by omega);obtain ⟨C,D,E,F⟩:=zgD l (e.c+1) e.x o p (by omega) l.length (Bz _);simp only[Bf,Ba,if_false,cond_true,w];rw[zk (λk=>((k:Int),memB l (e.c+1) e.x k)) l.length (r:=Ctl.go (memB l (e.c+1) e.x l.length)) ?h0]
     case h0=>rfl
     ·simp only[zd];have q:=zbY (engB e l) (by show (memB l (e.c+1) e.x l.length).length<=_;omega) b d f;rw[zm0 g m]at q;unfold engB at q |-
      grind
     ·intro k a;rw[if_pos (by simp_all),zvp l k a i];simp only[zd,zb l k a,An];rw[za (n:=(k:Int)+1) (by omega) (by omega)];cases s:laterV l k l[k].j with
      | true=>rw[zhe l _ _ k a s];rfl
      | false=>have y:=(zmC l (e.c+1) e.x o p (by omega) k a s).2;unfold entO at y;simp_all
     ·simp
theorem zp6 (e:Aa) (l:List Op) (b:engV e=true) (h:batchV l=true):zdv e l=some (okB e l,engB e l):=by
 obtain ⟨q,s,u,v,w,_⟩:=z9 b;obtain ⟨d,f,y⟩:=zhI b h;have i:I6.wrap (e.c+(1:Int))=e.c+1:=za (by omega) (by omega);obtain ⟨z,A,B,C⟩:=zgD l (e.c+1) e.x d f (by omega) l.length (Bz _);unfold zdv;simp only[i];rw[zk (λk=>(true,(k:Int),memB l (e.c+1) e.x k)) l.length (r:=Ctl.go (true,memB l (e.c+1) e.x l.length)) ?h0]
 case h0=>rfl
 ·simp only[zd,if_true,zg8 e.t (by omega) (by omega),An];rw[za (by omega) (by omega)];unfold okB engB;have D:Dc ((((memB l (e.c+1) e.x l.length).length:Nat):Int)<=60)=Dc ((memB l (e.c+1) e.x l.length).length<=60):=decide_eq_decide.2 (by omega);have E:Dc ((totalV e.t:Int)+(((memB l (e.c+1) e.x l.length).length:Nat):Int)<=400)=Dc (totalV e.t+(memB l (e.c+1) e.x l.length).length<=400):=decide_eq_decide.2 (by omega);grind
 ·intro k a;have m:piece l (I6.wrap ((k:Int)+(1:Int))) (l.length:Int)=some (l.drop (k+1)):=by rw[za (by omega) (by omega),zQ l (k+1) l.length _ _ (by omega) rfl (by omega) (Bz _),Cy (by simp)]
  simp only[zb l k a,An,m,zlF _ l[k] (by simp;omega:(l.drop (k+1)).length<=1048576)];rw[if_pos (by simpa using a),za (n:=(k:Int)+1) (by omega) (by omega)];have o:((l.drop (k+1)).any λx=>decide (x.j=l[k].j))=laterV l k l[k].j:=rfl;rw[o];cases g:laterV l k l[k].j with
  | true=>rw[zhe l _ _ k a g];rfl
  | false=>have p:=(zmC l (e.c+1) e.x d f (by omega) k a g).1;unfold entO at p;simp_all
 ·simp
theorem iand64 (c:a<2 ^ 63) (d:b<2 ^ 63):iand .i64 (a:Int) (b:Int)=((a &&& b:Nat):Int):=by
 unfold iand;have f:a &&& b<=a:=Fx;have e:(Bh I6.bits (a:Int) &&& Bh I6.bits (b:Int)).toNat=a &&& b:=by show (Bh 64 (a:Int) &&& Bh 64 (b:Int)).toNat=a &&& b;grind
 rw[e];exact za (by omega) (by omega)
theorem ior64 (c:a<2 ^ 63) (d:b<2 ^ 63):ior .i64 (a:Int) (b:Int)=((a ||| b:Nat):Int):=by
 unfold ior;have f:a ||| b<2 ^ 63:=Do c d;have e:(Bh I6.bits (a:Int) ||| Bh I6.bits (b:Int)).toNat=a ||| b:=by show (Bh 64 (a:Int) ||| Bh 64 (b:Int)).toNat=a ||| b;grind
 rw[e];exact za (by omega) (by omega)
theorem ixor64 (c:a<2 ^ 63) (d:b<2 ^ 63):ixor .i64 (a:Int) (b:Int)=((a ^^^ b:Nat):Int):=by
 unfold ixor;have f:a ^^^ b<2 ^ 63:=Eh c d;have e:(Bh I6.bits (a:Int) ^^^ Bh I6.bits (b:Int)).toNat=a ^^^ b:=by show (Bh 64 (a:Int) ^^^ Bh 64 (b:Int)).toNat=a ^^^ b;grind
 rw[e];exact za (by omega) (by omega)
def wrap32 (n:Int):IntKind.u32.wrap n=n % 4294967296:=by simp[IntKind.wrap,IntKind.bits,IntKind.signed]
def wrap64u (n:Int):IntKind.u64.wrap n=n % 18446744073709551616:=by simp[IntKind.wrap,IntKind.bits,IntKind.signed]
theorem ior32 (c:a<2 ^ 32) (d:b<2 ^ 32):ior .u32 (a:Int) (b:Int)=((a ||| b:Nat):Int):=by
 unfold ior;have f:a ||| b<2 ^ 32:=Do c d;have e:(Bh IntKind.u32.bits (a:Int) ||| Bh IntKind.u32.bits (b:Int)).toNat=a ||| b:=by show (Bh 32 (a:Int) ||| Bh 32 (b:Int)).toNat=a ||| b;grind
 rw[e,wrap32];omega
theorem ixor32 (c:a<2 ^ 32) (d:b<2 ^ 32):ixor .u32 (a:Int) (b:Int)=((a ^^^ b:Nat):Int):=by
 unfold ixor;have f:a ^^^ b<2 ^ 32:=Eh c d;have e:(Bh IntKind.u32.bits (a:Int) ^^^ Bh IntKind.u32.bits (b:Int)).toNat=a ^^^ b:=by show (Bh 32 (a:Int) ^^^ Bh 32 (b:Int)).toNat=a ^^^ b;grind
 rw[e,wrap32];omega
theorem iand8 (c:a<2 ^ 8) (d:b<2 ^ 8):iand .u8 (a:Int) (b:Int)=((a &&& b:Nat):Int):=by
 unfold iand;have f:a &&& b<=a:=Fx;have e:(Bh IntKind.u8.bits (a:Int) &&& Bh IntKind.u8.bits (b:Int)).toNat=a &&& b:=by show (Bh 8 (a:Int) &&& Bh 8 (b:Int)).toNat=a &&& b;grind
 rw[e];simp[IntKind.wrap,IntKind.bits,IntKind.signed];omega
theorem zdb {k:IntKind} (b:n<=k.bits):ishr k (a:Int) (n:Int)=((a / 2 ^ n:Nat):Int):=by unfold ishr;grind
def ishl64 (b:n<=64) (h:a*2 ^ n<2 ^ 63):ishl .i64 (a:Int) (n:Int)=((a*2 ^ n:Nat):Int):=by
 unfold ishl;have c:I6.bits=64:=rfl;rw[Bp,c,Di b];have e:(a:Int)*2 ^ n=((a*2 ^ n:Nat):Int):=by rfl
 rw[e];exact za (by omega) (by omega)
def ishl32 (b:n<=32):ishl .u32 (a:Int) (n:Int)=((a*2 ^ n % 4294967296:Nat):Int):=by
 unfold ishl;have c:IntKind.u32.bits=32:=rfl;have e:(a:Int)*2 ^ n=((a*2 ^ n:Nat):Int):=by rfl
 rw[Bp,c,Di b,wrap32,e];rfl
def zmy (h:x<2 ^ 63):zbV (x:Int)=some ((x % 4294967296:Nat):Int):=by unfold zbV;rw[show (4294967295:Int)=((4294967295:Nat):Int) from rfl,iand64 h (by decide),show x &&& 4294967295=x % 4294967296 from Cg x 32]
def rotN (x n:Nat):Nat:=x*2 ^ n % 4294967296 ||| x / 2 ^ (32 - n)
def zwZ (h:x<4294967296):rotN x n<4294967296:=by unfold rotN;refine Do (n:=32) (Dl _ (by decide)) ?_;exact Ei (Eb _ _) h
def zvo (h:x<4294967296) (b:n<=16):zc0 (x:Int) (n:Int)=some (rotN x n:Int):=by
 unfold zc0 nn;have a:x*2 ^ n<2 ^ 63:=by
  have:2 ^ n<=2 ^ 16:=Cu (by decide) b
  calc x*2 ^ n<=x*2 ^ 16:=Ec _ this
   _<2 ^ 63:=by omega
 have c:x / 2 ^ (32 - n)<2 ^ 32:=Ei (Eb _ _) h;have d:IntKind.u64.wrap ((32:Int) - (n:Int))=((32 - n:Nat):Int):=by rw[wrap64u];omega
 rw[if_neg (by omega),d,ishl64 (by omega) a,zdb (by show 32 - n<=64;omega),ior64 a (by omega)];simp only[An];rw[zmy (Do a (by omega))];simp only[An];unfold rotN;rw[show (4294967296:Nat)=2 ^ 32 from rfl,Nat.or_mod_two_pow,Ct c]
def zwu (h:x<4294967296) (d:n<=16):zY (x:Int) (n:Int)=some (rotN x n:Int):=by
 unfold zY nn;have a:iand .u64 (IntKind.u64.wrap (n:Int)) (31:Int)=(n:Int):=by
  have e:IntKind.u64.wrap (n:Int)=(n:Int):=by rw[wrap64u];omega
  rw[e];unfold iand;have f:(Bh IntKind.u64.bits (n:Int) &&& Bh IntKind.u64.bits (31:Int)).toNat=n:=by show (Bh 64 (n:Int) &&& Bh 64 ((31:Nat):Int)).toNat=n;rw[Dy,Dy,Fs,Ej,Ej,Ct (by omega),Ct (by omega)];rw[show n &&& 31=n % 32 from Cg n 5];omega
  simp_all
 have b:x / 2 ^ (32 - n)<2 ^ 32:=Ei (Eb _ _) h;have c:IntKind.u64.wrap ((32:Int) - (n:Int))=((32 - n:Nat):Int):=by rw[wrap64u];omega
 rw[a,if_neg (by omega),c,ishl32 (by omega),zdb (by show 32 - n<=32;omega),ior32 (Dl _ (by decide)) b];rfl
def zn4 {p q:Int} (e:0<=p/\p<4294967296) (f:0<=q/\q<4294967296):ior .u32 p q=ior .i64 p q/\0<=ior .i64 p q/\ior .i64 p q<4294967296:=by
 have c:p=(p.toNat:Int):=by omega
 have d:q=(q.toNat:Int):=by omega
 have a:p.toNat<2 ^ 32:=by omega
 have b:q.toNat<2 ^ 32:=by omega
 have g:=Do a b;rw[c,d,ior32 a b,ior64 (by omega) (by omega)];omega
def zvk (x:UInt8) (n:Nat) (a:n<=24):ishl .u32 (IntKind.u32.wrap ((x.toNat:Nat):Int)) (n:Int)=ishl .i64 (I6.wrap ((x.toNat:Nat):Int)) (n:Int)/\0<=ishl .i64 (I6.wrap ((x.toNat:Nat):Int)) (n:Int)/\ishl .i64 (I6.wrap ((x.toNat:Nat):Int)) (n:Int)<4294967296:=by
 have e:=x.toNat_lt;have b:IntKind.u32.wrap ((x.toNat:Nat):Int)=((x.toNat:Nat):Int):=by rw[wrap32];omega
 have c:I6.wrap ((x.toNat:Nat):Int)=((x.toNat:Nat):Int):=za (by omega) (by omega);have d:2 ^ n<=2 ^ 24:=Cu (by decide) a;have f:x.toNat*2 ^ n<=x.toNat*2 ^ 24:=Ec _ d;rw[b,c,ishl32 (by omega),ishl64 (by omega) (by omega)];omega
def zlh (x:UInt8) (n:Int) (a:0<=n/\n<=24):ishl .u32 (IntKind.u32.wrap ((x.toNat:Nat):Int)) n=ishl .i64 (I6.wrap ((x.toNat:Nat):Int)) n/\0<=ishl .i64 (I6.wrap ((x.toNat:Nat):Int)) n/\ishl .i64 (I6.wrap ((x.toNat:Nat):Int)) n<4294967296:=by
 have e:n=(n.toNat:Int):=by omega
 rw[e];exact zvk x n.toNat (by omega)
def zjO {x:Option α} {g:α->Option β} (h: ∀a,f a=g a):x.bind f=x.bind g:=by
 cases x with
 | none=>rfl
 | some a=>exact h a
def zo1 (a b c d:UInt8):ior .u32 (ior .u32 (ior .u32 (IntKind.u32.wrap ((a.toNat:Nat):Int)) (ishl .u32 (IntKind.u32.wrap ((b.toNat:Nat):Int)) (8:Int))) (ishl .u32 (IntKind.u32.wrap ((c.toNat:Nat):Int)) (16:Int))) (ishl .u32 (IntKind.u32.wrap ((d.toNat:Nat):Int)) (24:Int))=
     ior .i64 (ior .i64 (ior .i64 (I6.wrap ((a.toNat:Nat):Int)) (ishl .i64 (I6.wrap ((b.toNat:Nat):Int)) (8:Int))) (ishl .i64 (I6.wrap ((c.toNat:Nat):Int)) (16:Int))) (ishl .i64 (I6.wrap ((d.toNat:Nat):Int)) (24:Int))/\
     0<=ior .i64 (ior .i64 (ior .i64 (I6.wrap ((a.toNat:Nat):Int)) (ishl .i64 (I6.wrap ((b.toNat:Nat):Int)) (8:Int))) (ishl .i64 (I6.wrap ((c.toNat:Nat):Int)) (16:Int))) (ishl .i64 (I6.wrap ((d.toNat:Nat):Int)) (24:Int))/\
     ior .i64 (ior .i64 (ior .i64 (I6.wrap ((a.toNat:Nat):Int)) (ishl .i64 (I6.wrap ((b.toNat:Nat):Int)) (8:Int))) (ishl .i64 (I6.wrap ((c.toNat:Nat):Int)) (16:Int))) (ishl .i64 (I6.wrap ((d.toNat:Nat):Int)) (24:Int))<4294967296:=by
 have k:=a.toNat_lt;have l:IntKind.u32.wrap ((a.toNat:Nat):Int)=I6.wrap ((a.toNat:Nat):Int):=by rw[wrap32,za (by omega) (by omega)];omega
 have e:0<=I6.wrap ((a.toNat:Nat):Int)/\I6.wrap ((a.toNat:Nat):Int)<4294967296:=by rw[za (by omega) (by omega)];omega
 obtain ⟨m,f⟩:=zlh b 8 (by omega);obtain ⟨n,g⟩:=zlh c 16 (by omega);obtain ⟨o,h⟩:=zlh d 24 (by omega);obtain ⟨p,i⟩:=zn4 e f;obtain ⟨q,j⟩:=zn4 i g;obtain ⟨s,t⟩:=zn4 j h;simp_all
def zvq (s:List UInt8) (at_:Int):zdK s at_=zK s at_:=by unfold zdK zK;exact zjO λa=>zjO λb=>zjO λc=>zjO λd=>congrArg some (zo1 a b c d).1
def zsk (s:List UInt8) (at_ r:Int) (h:zK s at_=some r):0<=r/\r<4294967296:=by unfold zK at h;obtain ⟨a,_,h⟩:=Dk.1 h;obtain ⟨b,_,h⟩:=Dk.1 h;obtain ⟨c,_,h⟩:=Dk.1 h;obtain ⟨d,_,h⟩:=Dk.1 h;rw[<-Option.some.inj h];exact (zo1 a b c d).2
def zcN (s:List UInt8) (i:Nat) (h:i<s.length):sidx s (i:Int)=some s[i]:=by unfold sidx;simp
theorem ztf (s:List UInt8) (i:Nat) (h:i+3<s.length) (hs:s.length<=1048576): ∃n:Nat,zK s (i:Int)=some (n:Int)/\zdK s (i:Int)=some (n:Int)/\n<4294967296:=by
 have g:=zvq s (i:Int);have a:=zsk s (i:Int);have hs': ∃r,zK s (i:Int)=some r:=by
  unfold zK;have w: ∀d:Nat,d<=3->I6.wrap ((i:Int)+(d:Int))=((i+d:Nat):Int):=λd j=>by rw[za (by omega) (by omega)];omega
  have b:I6.wrap ((i:Int)+(1:Int))=((i+1:Nat):Int):=w 1 (by omega);have c:I6.wrap ((i:Int)+(2:Int))=((i+2:Nat):Int):=w 2 (by omega);have e:I6.wrap ((i:Int)+(3:Int))=((i+3:Nat):Int):=w 3 (by omega);rw[b,c,e,zcN s i (by omega),zcN s (i+1) (by omega),zcN s (i+2) (by omega),zcN s (i+3) (by omega)];simp
 obtain ⟨r,f⟩:=hs';obtain ⟨p,q⟩:=a r f;refine ⟨r.toNat,?_,?_,by omega⟩
 ·grind
 ·grind
def okW (l:List Wrd):Prop:=∀x∈l,0<=x.v/\x.v<4294967296
def ztV {l:List Wrd} {i:Nat} {x:Wrd} (h:okW l) (c:0<=x.v/\x.v<4294967296):okW (l.set i x):=by
 intro y b;rcases List.mem_or_eq_of_mem_set b with a | a
 ·exact h y a
 ·simp_all
def qi (l:List Wrd) (x y z r:Int):Option (List Wrd):=
 (idx l x).bind λh=>(idx l y).bind λA=>(idx (l.set x.toNat (Wrd.mk (IntKind.u32.wrap (h.v+A.v)))) z).bind λD=>(idx (l.set x.toNat (Wrd.mk (IntKind.u32.wrap (h.v+A.v)))) x).bind λE=>
 (zY (ixor .u32 D.v E.v) r).bind λB=>some ((l.set x.toNat (Wrd.mk (IntKind.u32.wrap (h.v+A.v)))).set z.toNat (Wrd.mk B))
def qs (l:List Int) (x y z r:Int):Option (List Int):=
 (idx l x).bind λE=>(idx l y).bind λF=>(zbV (I6.wrap (E+F))).bind λD=>(idx (l.set x.toNat D) z).bind λh=>(idx (l.set x.toNat D) x).bind λA=>
 (zc0 (ixor .i64 h A) r).bind λB=>some ((l.set x.toNat D).set z.toNat B)
theorem ztL {l:List α} {i:Int} {v w:α} (h:idx l i=some v):idx (l.set i.toNat w) i=some w:=by
 unfold idx at h |-
 grind
def ztu {x:Option α} {g:α->Option β} (h: ∀a,x=some a->f a=g a):x.bind f=x.bind g:=by
 cases x
 ·rfl
 ·exact h _ rfl
def zmq (l:List Wrd) (a b c d:Int):zbS l a b c d=(qi l a b d 16).bind λe=>(qi e c d b 12).bind λf=>(qi f a b d 8).bind λg=>qi g c d b 7:=by unfold zbS qi;simp only[Fl,An];repeat (refine ztu λ_ h=>?_;try simp only[ztL h,An])
def zmT (l:List Int) (a b c d:Int):zj l a b c d=(qs l a b d 16).bind λe=>(qs e c d b 12).bind λf=>(qs f a b d 8).bind λg=>qs g c d b 7:=by unfold zj qs;simp only[Fl,An];repeat first | refine ztu λ_ _=>?_ | rw[ztL (by assumption),An]
def zgE {l:List Wrd} (h:okW l) (k:Nat) (a:k<l.length): ∃n:Nat,l[k].v=(n:Int)/\n<4294967296:=by obtain ⟨b,c⟩:=h _ (Cq a);exact ⟨l[k].v.toNat,by omega,by omega⟩
def zm7 (l:List Wrd) (x y z r:Nat) (hl:l.length=16) (a:okW l) (o:x<16) (p:y<16) (q:z<16) (d:r<=16):
    ∃l',qi l (x:Int) (y:Int) (z:Int) (r:Int)=some l'/\qs (l.map Wrd.v) (x:Int) (y:Int) (z:Int) (r:Int)=some (l'.map Wrd.v)/\l'.length=16/\okW l':=by
 obtain ⟨A,F,s⟩:=zgE a x (by omega);obtain ⟨B,G,t⟩:=zgE a y (by omega);have g:IntKind.u32.wrap ((A:Int)+(B:Int))=(((A+B) % 4294967296:Nat):Int):=by rw[wrap32];omega
 have u:(A+B) % 4294967296<4294967296:=Dl _ (by decide);have h:(l.set x (Wrd.mk (((A+B) % 4294967296:Nat):Int))).length=16:=by rw[Fz];exact hl
 have b:okW (l.set x (Wrd.mk (((A+B) % 4294967296:Nat):Int))):=ztV a ⟨by show (0:Int)<=(((A+B) % 4294967296:Nat):Int);omega,by show (((A+B) % 4294967296:Nat):Int)<_;omega⟩;obtain ⟨nz,I,e⟩:=zgE b z (by omega);obtain ⟨D,E,f⟩:=zgE b x (by omega);have c:=Eh (n:=32) e f;have w:=zwZ (n:=r) (show nz ^^^ D<4294967296 from c);refine ⟨(l.set x (Wrd.mk (((A+B) % 4294967296:Nat):Int))).set z (Wrd.mk (rotN (nz ^^^ D) r:Int)),?_,?_,by rw[Fz];exact h,ztV b ⟨by show (0:Int)<=(rotN (nz ^^^ D) r:Int);omega,by show (rotN (nz ^^^ D) r:Int)<_;omega⟩⟩
 ·unfold qi;simp only[zb l x (by omega),zb l y (by omega),An,F,G,g,Bp,zb _ z (by omega:z<(l.set x (Wrd.mk (((A+B) % 4294967296:Nat):Int))).length),zb _ x (by omega:x<(l.set x (Wrd.mk (((A+B) % 4294967296:Nat):Int))).length),I,E,ixor32 e f,zwu c d]
 ·unfold qs;have m1:idx (l.map Wrd.v) (x:Int)=some (A:Int):=by rw[zb _ x (by simp;omega)];simp[F]
  have m2:idx (l.map Wrd.v) (y:Int)=some (B:Int):=by rw[zb _ y (by simp;omega)];simp[G]
  have i:I6.wrap ((A:Int)+(B:Int))=((A+B:Nat):Int):=by rw[za (by omega) (by omega)];omega
  have j:(l.map Wrd.v).set x (((A+B) % 4294967296:Nat):Int)=(l.set x (Wrd.mk (((A+B) % 4294967296:Nat):Int))).map Wrd.v:=by rw[List.map_set]
  simp only[m1,m2,An,i,zmy (show A+B<2 ^ 63 by omega),Bp,j];have k:idx ((l.set x (Wrd.mk (((A+B) % 4294967296:Nat):Int))).map Wrd.v) (z:Int)=some (nz:Int):=by rw[zb _ z (by simp;omega)];simp only[Et,I]
  have m:idx ((l.set x (Wrd.mk (((A+B) % 4294967296:Nat):Int))).map Wrd.v) (x:Int)=some (D:Int):=by rw[zb _ x (by simp;omega)];simp only[Et,E]
  simp only[k,m,An,ixor64 (show nz<2 ^ 63 by omega) (show D<2 ^ 63 by omega),zvo c d];simp
def zuy (l:List Wrd) (a b c d:Nat) (hl:l.length=16) (i:okW l) (g:a<16) (e:b<16) (h:c<16) (f:d<16):
    ∃l',zbS l (a:Int) (b:Int) (c:Int) (d:Int)=some l'/\zj (l.map Wrd.v) (a:Int) (b:Int) (c:Int) (d:Int)=some (l'.map Wrd.v)/\l'.length=16/\okW l':=by
 obtain ⟨j,k,m,r1,n⟩:=zm7 l a b d 16 hl i g e f (by omega);obtain ⟨o,y,z,r2,p⟩:=zm7 j c d b 12 r1 n h f e (by omega);obtain ⟨q,A,B,s,t⟩:=zm7 o a b d 8 r2 p g e f (by omega);obtain ⟨u,C,D,w,x⟩:=zm7 q c d b 7 s t h f e (by omega);refine ⟨u,?_,?_,w,x⟩
 ·rw[zmq,show (16:Int)=((16:Nat):Int) from rfl,k];simp_all
 ·rw[zmT,show (16:Int)=((16:Nat):Int) from rfl,m];simp_all
def goodW (l:List Wrd):Prop:=l.length=16/\okW l
def qv (l:List Wrd) (a b c d:Nat):List Wrd:=(zbS l (a:Int) (b:Int) (c:Int) (d:Int)).getD []
def qv_ok {l:List Wrd} (h:goodW l) (a b c d:Nat) (e:a<16) (f:b<16) (g:c<16) (i:d<16):
    zbS l (a:Int) (b:Int) (c:Int) (d:Int)=some (qv l a b c d)/\zj (l.map Wrd.v) (a:Int) (b:Int) (c:Int) (d:Int)=some ((qv l a b c d).map Wrd.v)/\goodW (qv l a b c d):=by obtain ⟨l',j,k,m,n⟩:=zuy l a b c d h.1 h.2 e f g i;unfold qv;rw[j,k];trivial
def colW (l:List Wrd):Nat->List Wrd
 | 0=>l
 | k+1=>qv (colW l k) k (4+k) (8+k) (12+k)
def diagW (l:List Wrd):Nat->List Wrd
 | 0=>l
 | k+1=>qv (diagW l k) k (4+(k+1) % 4) (8+(k+2) % 4) (12+(k+3) % 4)
def roundW (l:List Wrd):List Wrd:=diagW (colW l 4) 4
def roundsW (l:List Wrd):Nat->List Wrd
 | 0=>l
 | k+1=>roundW (roundsW l k)
def zej {l:List Wrd} (h:goodW l): ∀k,k<=4->goodW (colW l k)
 | 0,_=>h
 | k+1,a=>(qv_ok (zej h k (by omega)) k (4+k) (8+k) (12+k) (by omega) (by omega) (by omega) (by omega)).2.2
def zfn {l:List Wrd} (h:goodW l): ∀k,k<=4->goodW (diagW l k)
 | 0,_=>h
 | k+1,a=>(qv_ok (zfn h k (by omega)) k (4+(k+1) % 4) (8+(k+2) % 4) (12+(k+3) % 4) (by omega) (by omega) (by omega) (by omega)).2.2
def ztg {l:List Wrd} (h:goodW l):goodW (roundW l):=zfn (zej h 4 (by omega)) 4 (by omega)
def zd8 {l:List Wrd} (h:goodW l): ∀k,goodW (roundsW l k)
 | 0=>h
 | k+1=>ztg (zd8 h k)
theorem zvZ {l:List Wrd} (h:goodW l):loopO (ρ:=Ctl (List Wrd) ρ) (λ(A:Int × List Wrd)=>if (Dc (A.1<(4:Int)))=true then ((zbS A.2 A.1 (I6.wrap ((4:Int)+A.1)) (I6.wrap ((8:Int)+A.1)) (I6.wrap ((12:Int)+A.1))).bind λB=>
 some (.go (I6.wrap (A.1+(1:Int)),B)))
 else (some (.done (.go A.2))))
 ((0:Int),l)=some (.go (colW l 4)):=by
 rw[zk (λk=>((k:Int),colW l k)) 4 (r:=Ctl.go (colW l 4)) ?h0]
 case h0=>rfl
 ·intro k d;have a:I6.wrap ((4:Int)+(k:Int))=((4+k:Nat):Int):=by rw[za (by omega) (by omega)];omega
  have b:I6.wrap ((8:Int)+(k:Int))=((8+k:Nat):Int):=by rw[za (by omega) (by omega)];omega
  have c:I6.wrap ((12:Int)+(k:Int))=((12+k:Nat):Int):=by rw[za (by omega) (by omega)];omega
  simp only[a,b,c,(qv_ok (zej h k (by omega)) k (4+k) (8+k) (12+k) (by omega) (by omega) (by omega) (by omega)).1,An];rw[if_pos (by grind),za (by omega) (by omega)];rfl
 ·rfl
theorem zu3 {l:List Wrd} (h:goodW l):loopO (ρ:=Ctl (List Wrd) ρ) (λ(A:Int × List Wrd)=>if (Dc (A.1<(4:Int)))=true then ((zbS A.2 A.1 (I6.wrap ((4:Int)+(Cv (I6.wrap (A.1+(1:Int))) (4:Int)))) (I6.wrap ((8:Int)+(Cv (I6.wrap (A.1+(2:Int))) (4:Int)))) (I6.wrap ((12:Int)+(Cv (I6.wrap (A.1+(3:Int))) (4:Int))))).bind λB=>
 some (.go (I6.wrap (A.1+(1:Int)),B)))
 else (some (.done (.go A.2))))
 ((0:Int),l)=some (.go (diagW l 4)):=by
 rw[zk (λk=>((k:Int),diagW l k)) 4 (r:=Ctl.go (diagW l 4)) ?h0]
 case h0=>rfl
 ·intro k g;have e: ∀(a d:Nat),a<=12->d<=3->I6.wrap ((a:Int)+(Cv (I6.wrap ((k:Int)+(d:Int))) (4:Int)))=((a+(k+d) % 4:Nat):Int):=by intro a d i j;rw[za (n:=(k:Int)+(d:Int)) (by omega) (by omega),show (k:Int)+(d:Int)=((k+d:Nat):Int) by omega,show (4:Int)=((4:Nat):Int) from rfl,<-Int.ofNat_tmod,za (by omega) (by omega)];rfl
  have b:I6.wrap ((4:Int)+(Cv (I6.wrap ((k:Int)+(1:Int))) (4:Int)))=_:=e 4 1 (by omega) (by omega);have c:I6.wrap ((8:Int)+(Cv (I6.wrap ((k:Int)+(2:Int))) (4:Int)))=_:=e 8 2 (by omega) (by omega);have f:I6.wrap ((12:Int)+(Cv (I6.wrap ((k:Int)+(3:Int))) (4:Int)))=_:=e 12 3 (by omega) (by omega);simp only[b,c,f,(qv_ok (zfn h k (by omega)) k (4+(k+1) % 4) (8+(k+2) % 4) (12+(k+3) % 4) (by omega) (by omega) (by omega) (by omega)).1,An];rw[if_pos (by grind),za (by omega) (by omega)];rfl
 ·rfl
def zuL {l:List Wrd} (h:goodW l) (f:List Int->Option β):((zj (l.map Wrd.v) (0:Int) (4:Int) (8:Int) (12:Int)).bind λA=>
 (zj A (1:Int) (5:Int) (9:Int) (13:Int)).bind λB=>
 (zj B (2:Int) (6:Int) (10:Int) (14:Int)).bind λD=>
 (zj D (3:Int) (7:Int) (11:Int) (15:Int)).bind λE=>
 (zj E (0:Int) (5:Int) (10:Int) (15:Int)).bind λF=>
 (zj F (1:Int) (6:Int) (11:Int) (12:Int)).bind λG=>
 (zj G (2:Int) (7:Int) (8:Int) (13:Int)).bind λI=>
 (zj I (3:Int) (4:Int) (9:Int) (14:Int)).bind λJ=>f J)=f ((roundW l).map Wrd.v):=by have a:zj (l.map Wrd.v) (0:Int) (4:Int) (8:Int) (12:Int)=some ((colW l 1).map Wrd.v):=(qv_ok h 0 4 8 12 (by omega) (by omega) (by omega) (by omega)).2.1;have b:zj ((colW l 1).map Wrd.v) (1:Int) (5:Int) (9:Int) (13:Int)=some ((colW l 2).map Wrd.v):=(qv_ok (zej h 1 (by omega)) 1 5 9 13 (by omega) (by omega) (by omega) (by omega)).2.1;have c:zj ((colW l 2).map Wrd.v) (2:Int) (6:Int) (10:Int) (14:Int)=some ((colW l 3).map Wrd.v):=(qv_ok (zej h 2 (by omega)) 2 6 10 14 (by omega) (by omega) (by omega) (by omega)).2.1;have d:zj ((colW l 3).map Wrd.v) (3:Int) (7:Int) (11:Int) (15:Int)=some ((colW l 4).map Wrd.v):=(qv_ok (zej h 3 (by omega)) 3 7 11 15 (by omega) (by omega) (by omega) (by omega)).2.1;have g:=zej h 4 (by omega);have e:zj ((colW l 4).map Wrd.v) (0:Int) (5:Int) (10:Int) (15:Int)=some ((diagW (colW l 4) 1).map Wrd.v):=(qv_ok g 0 5 10 15 (by omega) (by omega) (by omega) (by omega)).2.1;have i:zj ((diagW (colW l 4) 1).map Wrd.v) (1:Int) (6:Int) (11:Int) (12:Int)=some ((diagW (colW l 4) 2).map Wrd.v):=(qv_ok (zfn g 1 (by omega)) 1 6 11 12 (by omega) (by omega) (by omega) (by omega)).2.1;have j:zj ((diagW (colW l 4) 2).map Wrd.v) (2:Int) (7:Int) (8:Int) (13:Int)=some ((diagW (colW l 4) 3).map Wrd.v):=(qv_ok (zfn g 2 (by omega)) 2 7 8 13 (by omega) (by omega) (by omega) (by omega)).2.1;have k:zj ((diagW (colW l 4) 3).map Wrd.v) (3:Int) (4:Int) (9:Int) (14:Int)=some ((diagW (colW l 4) 4).map Wrd.v):=(qv_ok (zfn g 3 (by omega)) 3 4 9 14 (by omega) (by omega) (by omega) (by omega)).2.1;simp only[a,b,c,d,e,i,j,k,An];rfl
def kN (s:List UInt8) (i:Nat):Nat:=((zK s ((4*i:Nat):Int)).getD 0).toNat
def kN_ok (s:List UInt8) (i:Nat) (h:4*i+3<s.length) (hs:s.length<=1048576):zK s ((4*i:Nat):Int)=some (kN s i:Int)/\zdK s ((4*i:Nat):Int)=some (kN s i:Int)/\kN s i<4294967296:=by
 obtain ⟨n,a,b,c⟩:=ztf s (4*i) h hs;have e:kN s i=n:=by unfold kN;simp_all
 simp_all
def selW (k i n:Nat):Wrd:=bif Nat.blt i k then Wrd.mk (n:Int) else Wrd.mk 0
def firstK (key:List UInt8) (k:Nat):List Wrd:=[Wrd.mk 1634760805,Wrd.mk 857760878,Wrd.mk 2036477234,Wrd.mk 1797285236,selW k 0 (kN key 0),selW k 1 (kN key 1),selW k 2 (kN key 2),selW k 3 (kN key 3),selW k 4 (kN key 4),selW k 5 (kN key 5),selW k 6 (kN key 6),selW k 7 (kN key 7),Wrd.mk 0,Wrd.mk 0,Wrd.mk 0,Wrd.mk 0]
def firstN (key:List UInt8) (counter:Int) (nonce:List UInt8) (k:Nat):List Wrd:=[Wrd.mk 1634760805,Wrd.mk 857760878,Wrd.mk 2036477234,Wrd.mk 1797285236,Wrd.mk (kN key 0:Int),Wrd.mk (kN key 1:Int),Wrd.mk (kN key 2:Int),Wrd.mk (kN key 3:Int),Wrd.mk (kN key 4:Int),Wrd.mk (kN key 5:Int),Wrd.mk (kN key 6:Int),Wrd.mk (kN key 7:Int),Wrd.mk counter,selW k 0 (kN nonce 0),selW k 1 (kN nonce 1),selW k 2 (kN nonce 2)]
theorem zrr (key:List UInt8) (counter:Int) (nonce:List UInt8) (f:key.length=32) (g:0<=counter/\counter<=4294967295) (i:nonce.length=12):zeW key counter nonce=some (firstN key counter nonce 3):=by
 unfold zeW;have c:IntKind.u32.wrap counter=counter:=by rw[wrap32];omega
 have hl: ∀l:List Wrd,l.length=16->lenIs 16 l=some ():=λl h=>by unfold lenIs;simp_all
 rw[hl _ rfl];simp only[An];rw[zk (λk=>((k:Int),firstK key k)) 8 (r:=Ctl.go (firstK key 8)) ?h0]
 case h0=>rfl
 ·simp only[zd];rw[show (12:Int)=((12:Nat):Int) from rfl,zb (firstK key 8) 12 (by show 12<16;omega)];simp only[An,Bp,c];rw[zk (λk=>((k:Int),firstN key counter nonce k)) 3 (r:=Ctl.go (firstN key counter nonce 3)) ?h1]
  case h1=>rfl
  ·rfl
  ·intro k j;have a:I6.wrap ((4:Int)*(k:Int))=((4*k:Nat):Int):=by rw[za (by omega) (by omega)];omega
   have d:I6.wrap ((13:Int)+(k:Int))=((13+k:Nat):Int):=by rw[za (by omega) (by omega)];omega
   simp only[a,d,(kN_ok nonce k (by omega) (by omega)).2.1,An,zb (firstN key counter nonce k) (13+k) (by show 13+k<16;omega),Bp];rw[if_pos (by grind),za (by omega) (by omega)];have b:k=0\/k=1\/k=2:=by omega
   rcases b with rfl | rfl | rfl<;>rfl
  ·rfl
 ·intro k m;have a:I6.wrap ((4:Int)*(k:Int))=((4*k:Nat):Int):=by rw[za (by omega) (by omega)];omega
  have e:I6.wrap ((4:Int)+(k:Int))=((4+k:Nat):Int):=by rw[za (by omega) (by omega)];omega
  simp only[a,e,(kN_ok key k (by omega) (by omega)).2.1,An,zb (firstK key k) (4+k) (by show 4+k<16;omega),Bp];rw[if_pos (by grind),za (by omega) (by omega)];have b:k=0\/k=1\/k=2\/k=3\/k=4\/k=5\/k=6\/k=7:=by omega
  rcases b with rfl | rfl | rfl | rfl | rfl | rfl | rfl | rfl<;>rfl
 ·rfl
def zkm (key:List UInt8) (counter:Int) (nonce:List UInt8) (f:key.length=32) (g:0<=counter/\counter<=4294967295) (h:nonce.length=12):goodW (firstN key counter nonce 3):=by refine ⟨rfl,?_⟩;have a: ∀i,i<8->kN key i<4294967296:=λi hi=>(kN_ok key i (by omega) (by omega)).2.2;have b: ∀i,i<3->kN nonce i<4294967296:=λi hi=>(kN_ok nonce i (by omega) (by omega)).2.2;have j:=a 0 (by omega);have k:=a 1 (by omega);have l:=a 2 (by omega);have m:=a 3 (by omega);have n:=a 4 (by omega);have o:=a 5 (by omega);have p:=a 6 (by omega);have q:=a 7 (by omega);have s:=b 0 (by omega);have t:=b 1 (by omega);have u:=b 2 (by omega);have s0:selW 3 0 (kN nonce 0)=Wrd.mk (kN nonce 0:Int):=rfl;have d:selW 3 1 (kN nonce 1)=Wrd.mk (kN nonce 1:Int):=rfl;have e:selW 3 2 (kN nonce 2)=Wrd.mk (kN nonce 2:Int):=rfl;intro x c;unfold firstN at c;rw[s0,d,e]at c;simp only[Gi,List.not_mem_nil,or_false]at c;rcases c with rfl | rfl | rfl | rfl | rfl | rfl | rfl | rfl | rfl | rfl | rfl | rfl | rfl | rfl | rfl | rfl<;>simp only<;>omega
def bytes4 (n:Nat):List UInt8:=[toU8 (n:Int),toU8 ((n / 256:Nat):Int),toU8 ((n / 65536:Nat):Int),toU8 ((n / 16777216:Nat):Int)]
def outW (w s:List Wrd):Nat->List UInt8
 | 0=>[]
 | k+1=>outW w s k++(match w[k]?,s[k]? with | some x,some y=>bytes4 ((x.v+y.v).toNat % 4294967296) | _,_=>[])
def zmF (w s:List Wrd) (k:Nat) (a:k<w.length) (hs:k<s.length):outW w s (k+1)=outW w s k++bytes4 ((w[k].v+s[k].v).toNat % 4294967296):=by show outW w s k++(match w[k]?,s[k]? with | some x,some y=>_ | _,_=>_)=_;simp_all
def zlo (w s:List Wrd) (a:w.length=16) (hs:s.length=16): ∀k,k<=16->(outW w s k).length=4*k
 | 0,_=>rfl
 | k+1,b=>by rw[zmF w s k (by omega) (by omega),Dd,zlo w s a hs k (by omega)];rfl
def zlA (n:Nat):toU8 ((n % 256:Nat):Int)=toU8 (n:Int):=by unfold toU8;simp
def chaR (key:List UInt8) (counter:Int) (nonce:List UInt8):List UInt8:=outW (roundsW (firstN key counter nonce 3) 10) (firstN key counter nonce 3) 16
def chaOk (key:List UInt8) (counter:Int) (nonce:List UInt8):Bool:=Dc (key.length=32)&&(Dc (nonce.length=12)&&Dc (0<=counter/\counter<=4294967295))
def chaV (key:List UInt8) (counter:Int) (nonce:List UInt8):List UInt8:=bif chaOk key counter nonce then chaR key counter nonce else []
def zgw {key:List UInt8} {counter:Int} {nonce:List UInt8} (h:chaOk key counter nonce=true):key.length=32/\nonce.length=12/\0<=counter/\counter<=4294967295:=by unfold chaOk at h;simp_all
def zjh (key:List UInt8) (counter:Int) (nonce:List UInt8) (h:chaOk key counter nonce=true):(chaV key counter nonce).length=64:=by obtain ⟨a,b,c⟩:=zgw h;have g:=zkm key counter nonce a c b;unfold chaV chaR;rw[h];exact zlo _ _ (zd8 g 10).1 g.1 16 (Bz _)
theorem zlJ (key:List UInt8) (counter:Int) (nonce:List UInt8):zg4 key counter nonce=some (chaOk key counter nonce):=by unfold zg4 chaOk;have a:Dc ((key.length:Int)=32)=Dc (key.length=32):=decide_eq_decide.2 (by omega);have b:Dc ((nonce.length:Int)=12)=Dc (nonce.length=12):=decide_eq_decide.2 (by omega);rw[a,b,zP];grind
theorem zjm (key:List UInt8) (counter:Int) (nonce:List UInt8):zeB key counter nonce=some (chaV key counter nonce):=by
 unfold zeB chaV;rw[zlJ];cases c:chaOk key counter nonce with
 | false=>rfl
 | true=>
   obtain ⟨h1,a,b⟩:=zgw c;have g:=zkm key counter nonce h1 b a;have hl: ∀l:List Wrd,l.length=16->lenIs 16 l=some ():=λl h=>by unfold lenIs;simp_all
   simp only[An,Bf,Ba,if_false,cond_true,zrr key counter nonce h1 b a,hl _ g.1];unfold chaR;generalize firstN key counter nonce 3=s at g;rw[zk (λk=>((k:Int),roundsW s k)) 10 (r:=Ctl.go (roundsW s 10)) ?h0]
   case h0=>rfl
   ·have A:=zd8 g 10;simp only[zd,show mkLen 1 (64:Int)=some 64 from rfl,An];rw[zk (λk=>((k:Int),outW (roundsW s 10) s k)) 16 (r:=Ctl.go (outW (roundsW s 10) s 16)) ?h1]
    case h1=>rfl
    ·rfl
    ·intro k d;obtain ⟨n,D,i⟩:=zgE A.2 k (by rw[A.1];trivial);obtain ⟨m,B,j⟩:=zgE g.2 k (by rw[g.1];omega);have e:=zlo (roundsW s 10) s A.1 g.1 k (by omega);simp only[hl _ A.1,zb (roundsW s 10) k (by rw[A.1];omega),zb s k (by rw[g.1];omega),An,D,B];have f:IntKind.u32.wrap ((n:Int)+(m:Int))=(((n+m) % 4294967296:Nat):Int):=by rfl
     rw[f,show (8:Int)=((8:Nat):Int) from rfl,show (24:Int)=((24:Nat):Int) from rfl,zdb (by decide),zdb (by decide)];rw[show ishr .u32 (((n+m) % 4294967296:Nat):Int) (16:Int)=_ from zdb (n:=16) (by decide)];rw[if_pos (by simp;omega),za (by omega) (by omega),zg (by simp;omega) (by rw[e];simp;omega)];simp only[An];rw[zmF _ _ k (by rw[A.1];omega) (by rw[g.1];omega),D,B];rfl
    ·rfl
   ·intro k d;have E:=zd8 g k;simp only[zvZ E,zd,zu3 (zej E 4 (by omega))];rw[if_pos (by grind),za (by omega) (by omega)];rfl
   ·simp
def zpM {x:Option α} {a:α} {r:Option β} (h:x=some a) (b:f a=r):x.bind f=r:=by rw[h];exact b
theorem zgu (key:List UInt8) (counter:Int) (nonce:List UInt8):zcO key counter nonce=some (chaV key counter nonce):=by
 unfold zcO chaV;have B:Dc ((key.length:Int)=32)=Dc (key.length=32):=decide_eq_decide.2 (by omega);have C:Dc ((nonce.length:Int)=12)=Dc (nonce.length=12):=decide_eq_decide.2 (by omega);rw[B,C,zba];cases p:chaOk key counter nonce with
 | false=>unfold chaOk at p;grind
 | true=>
   obtain ⟨h1,h2,q⟩:=zgw p;have g:=zkm key counter nonce h1 q h2;rw[decide_eq_true h1,decide_eq_true h2,decide_eq_true q];simp only[An,Bf,Ba,if_false,cond_true];unfold zjG chaR;rw[zk (λk=>((k:Int),((firstN key counter nonce 3).map Wrd.v).take (4+k))) 8 (r:=Ctl.go (((firstN key counter nonce 3).map Wrd.v).take 12)) ?h0]
   case h0=>rfl
   ·have D:zK nonce (0:Int)=some (kN nonce 0:Int):=(kN_ok nonce 0 (by omega) (by omega)).1;have E:zK nonce (4:Int)=some (kN nonce 1:Int):=(kN_ok nonce 1 (by omega) (by omega)).1;have F:zK nonce (8:Int)=some (kN nonce 2:Int):=(kN_ok nonce 2 (by omega) (by omega)).1;have G:app 8 (((firstN key counter nonce 3).map Wrd.v).take 12) [counter,(kN nonce 0:Int),(kN nonce 1:Int),(kN nonce 2:Int)]=some ((firstN key counter nonce 3).map Wrd.v):=by rfl
    have t2:app 8 ([]:List Int) ((firstN key counter nonce 3).map Wrd.v)=some ((firstN key counter nonce 3).map Wrd.v):=by rfl
    simp only[zd,D,E,F,An,G,t2];generalize firstN key counter nonce 3=s at g;rw[zk (λk=>((k:Int),(roundsW s k).map Wrd.v)) 10 (r:=Ctl.go ((roundsW s 10).map Wrd.v)) ?h1]
    case h1=>rfl
    ·have U:=zd8 g 10;simp only[zd];generalize roundsW s 10=w at U;rw[zk (λk=>((k:Int),outW (w) s k)) 16 (r:=Ctl.go (outW (w) s 16)) ?h2]
     case h2=>rfl
     ·rfl
     ·intro k t;have u:k<(w).length:=by rw[U.1];trivial
      have y:k<s.length:=by rw[g.1];trivial
      obtain ⟨n,Z,S⟩:=zgE U.2 k u;obtain ⟨m,W,T⟩:=zgE g.2 k y;have z:=zlo (w) s U.1 g.1 k (by omega);have H:idx ((w).map Wrd.v) (k:Int)=some (n:Int):=by rw[zb _ k (by simp_all)];simp_all
      have I:idx (s.map Wrd.v) (k:Int)=some (m:Int):=by rw[zb _ k (by simp_all)];simp only[Et,W]
      have J:I6.wrap ((n:Int)+(m:Int))=((n+m:Nat):Int):=by rw[za (by omega) (by omega)];omega
      have K:(n+m) % 4294967296<4294967296:=Dl _ (by decide);have A:zbV (I6.wrap ((n:Int)+(m:Int)))=some (((n+m) % 4294967296:Nat):Int):=by rw[J];exact zmy (by omega)
      generalize L:(n+m) % 4294967296=x at K A;rw[if_pos (by simp only[decide_eq_true_eq];omega)];refine zpM H (zpM I (zpM A ?_));have M:toU8 (iand .i64 (x:Int) (255:Int))=toU8 (x:Int):=by rw[show (255:Int)=((255:Nat):Int) from rfl,iand64 (by omega) (by decide),show x &&& 255=x % 256 from Cg x 8,zlA]
      have N:toU8 (iand .i64 (ishr .i64 (x:Int) (8:Int)) (255:Int))=toU8 ((x / 256:Nat):Int):=by rw[show ishr .i64 (x:Int) (8:Int)=((x / 256:Nat):Int) from zdb (n:=8) (by decide),show (255:Int)=((255:Nat):Int) from rfl,iand64 (by omega) (by decide),show x / 256 &&& 255=x / 256 % 256 from Cg _ 8,zlA]
      have O:toU8 (iand .i64 (ishr .i64 (x:Int) (16:Int)) (255:Int))=toU8 ((x / 65536:Nat):Int):=by rw[show ishr .i64 (x:Int) (16:Int)=((x / 65536:Nat):Int) from zdb (n:=16) (by decide),show (255:Int)=((255:Nat):Int) from rfl,iand64 (by omega) (by decide),show x / 65536 &&& 255=x / 65536 % 256 from Cg _ 8,zlA]
      have P:ishr .i64 (x:Int) (24:Int)=((x / 16777216:Nat):Int):=zdb (n:=24) (by decide);rw[M,N,O,P,za (by omega) (by omega),zg (by rw[z];simp;omega) (by rw[z];simp;omega)];simp only[An];rw[zmF _ _ k u y,Z,W,show ((n:Int)+(m:Int)).toNat=n+m by omega,L];rfl
     ·simp
    ·intro k t;simp only;rw[if_pos (by simp only[decide_eq_true_eq];omega),za (n:=(k:Int)+1) (by omega) (by omega)];exact zuL (zd8 g k) (λV=>some (Ctl.go ((k:Int)+1,V)))
    ·simp
   ·intro k t;have Q:I6.wrap ((4:Int)*(k:Int))=((4*k:Nat):Int):=by rw[za (by omega) (by omega)];omega
    simp only[Q,(kN_ok key k (by omega) (by omega)).1,An];rw[if_pos (by simp only[decide_eq_true_eq];omega),za (by omega) (by omega),zg (by rw[Dg];simp;omega) (by rw[Dg];simp;omega)];have R:k=0\/k=1\/k=2\/k=3\/k=4\/k=5\/k=6\/k=7:=by omega
    unfold firstN;rcases R with rfl | rfl | rfl | rfl | rfl | rfl | rfl | rfl
    ·generalize kN nonce 0=a;generalize kN nonce 1=b;generalize kN nonce 2=c;generalize kN key 0=d;generalize kN key 1=e;generalize kN key 2=f;generalize kN key 3=h;generalize kN key 4=i;generalize kN key 5=j;generalize kN key 6=l;generalize kN key 7=o;rfl
    ·generalize kN nonce 0=a;generalize kN nonce 1=b;generalize kN nonce 2=c;generalize kN key 0=d;generalize kN key 1=e;generalize kN key 2=f;generalize kN key 3=h;generalize kN key 4=i;generalize kN key 5=j;generalize kN key 6=l;generalize kN key 7=o;rfl
    ·generalize kN nonce 0=a;generalize kN nonce 1=b;generalize kN nonce 2=c;generalize kN key 0=d;generalize kN key 1=e;generalize kN key 2=f;generalize kN key 3=h;generalize kN key 4=i;generalize kN key 5=j;generalize kN key 6=l;generalize kN key 7=o;rfl
    ·generalize kN nonce 0=a;generalize kN nonce 1=b;generalize kN nonce 2=c;generalize kN key 0=d;generalize kN key 1=e;generalize kN key 2=f;generalize kN key 3=h;generalize kN key 4=i;generalize kN key 5=j;generalize kN key 6=l;generalize kN key 7=o;rfl
    ·generalize kN nonce 0=a;generalize kN nonce 1=b;generalize kN nonce 2=c;generalize kN key 0=d;generalize kN key 1=e;generalize kN key 2=f;generalize kN key 3=h;generalize kN key 4=i;generalize kN key 5=j;generalize kN key 6=l;generalize kN key 7=o;rfl
    ·generalize kN nonce 0=a;generalize kN nonce 1=b;generalize kN nonce 2=c;generalize kN key 0=d;generalize kN key 1=e;generalize kN key 2=f;generalize kN key 3=h;generalize kN key 4=i;generalize kN key 5=j;generalize kN key 6=l;generalize kN key 7=o;rfl
    ·generalize kN nonce 0=a;generalize kN nonce 1=b;generalize kN nonce 2=c;generalize kN key 0=d;generalize kN key 1=e;generalize kN key 2=f;generalize kN key 3=h;generalize kN key 4=i;generalize kN key 5=j;generalize kN key 6=l;generalize kN key 7=o;rfl
    ·generalize kN nonce 0=a;generalize kN nonce 1=b;generalize kN nonce 2=c;generalize kN key 0=d;generalize kN key 1=e;generalize kN key 2=f;generalize kN key 3=h;generalize kN key 4=i;generalize kN key 5=j;generalize kN key 6=l;generalize kN key 7=o;rfl
   ·simp
def fixV (n:Nat):Nat->List UInt8
 | 0=>[]
 | j+1=>toU8 ((n / 256 ^ j:Nat):Int)::fixV n j
def znS (n:Nat): ∀j,(fixV n j).length=j
 | 0=>rfl
 | j+1=>by rw[fixV,Df,znS n j]
def zma (n b j:Nat):n / b ^ j / b=n / b ^ (j+1):=by rw[Nat.div_div_eq_div_mul,Fj]
def fixedV (n w:Int):List UInt8:=bif Dc (1<=w/\w<=7)&&(Dc (0<=n)&&Dc (n.toNat / 256 ^ w.toNat=0)) then fixV n.toNat w.toNat else []
theorem zrH (n w:Int) (e:n<=4611686018427387904):zi1 n w=some (fixedV n w):=by
 unfold zi1 fixedV;rw[zba];by_cases a:1<=w/\w<=7
 ·rw[decide_eq_true a];by_cases b:0<=n
  ·obtain ⟨m,rfl⟩: ∃m:Nat,n=(m:Int):=⟨n.toNat,by omega⟩;obtain ⟨u,rfl⟩: ∃u:Nat,w=(u:Int):=⟨w.toNat,by omega⟩;rw[decide_eq_true b,decide_eq_false (by omega)];simp only[An,Bf,Ba,if_false,Bp];rw[zk (λj=>(((m / 256 ^ j:Nat):Int),fixV m j,(j:Int))) u (r:=Ctl.go (((m / 256 ^ u:Nat):Int),fixV m u)) ?h0]
   case h0=>simp[fixV]
   ·simp only[zd];grind
   ·intro j f;have c:Cv ((m / 256 ^ j:Nat):Int) (256:Int)=((m / 256 ^ j % 256:Nat):Int):=by rfl
    have d:Fv ((m / 256 ^ j:Nat):Int) (256:Int)=((m / 256 ^ (j+1):Nat):Int):=by rw[show (256:Int)=((256:Nat):Int) from rfl,<-Int.ofNat_tdiv,zma]
    have g:((m / 256 ^ (j+1):Nat):Int)<=(m:Int):=Int.ofNat_le.2 (Eb _ _);have h:(0:Int)<=((m / 256 ^ (j+1):Nat):Int):=Int.natCast_nonneg _;have hl:=znS m j;simp only[c,d,zlA];rw[if_pos (by simp_all),za (n:=(j:Int)+1) (by omega) (by omega),za (by omega) (by omega)];rw[zbx (by grind)];rfl
   ·simp
  ·grind
 ·grind
theorem zrs (n w:Int) (k:n<=4611686018427387904):ziS n w=some (fixedV n w):=by
 unfold ziS fixedV;rw[zP];by_cases a:1<=w/\w<=7
 ·rw[decide_eq_true a];by_cases b:0<=n
  ·obtain ⟨m,rfl⟩: ∃m:Nat,n=(m:Int):=⟨n.toNat,by omega⟩;obtain ⟨u,rfl⟩: ∃u:Nat,w=(u:Int):=⟨w.toNat,by omega⟩;have c:IntKind.u64.wrap (I6.wrap ((8:Int)*(u:Int)))=((8*u:Nat):Int):=by rw[za (by omega) (by omega),wrap64u];omega
   have d:ishr .i64 (m:Int) ((8*u:Nat):Int)=((m / 256 ^ u:Nat):Int):=by rw[zdb (by show 8*u<=64;omega),Nat.pow_mul]
   have e:Dc (((m / 256 ^ u:Nat):Int)=0)=Dc (m / 256 ^ u=0):=decide_eq_decide.2 (by omega);rw[decide_eq_true b,decide_eq_false (by omega)];simp only[An,Bf,Ba,if_false,Bp,c,d,e];by_cases f:m / 256 ^ u=0
   ·rw[decide_eq_true f];simp only[Bf,Ba,if_false,Cj,cond_true];rw[zwk (by omega) (by omega)];simp only[An];rw[zk (λj=>(((m / 256 ^ j:Nat):Int),(u:Int) - 1 - (j:Int),Ee (u - j) (0:UInt8)++fixV m j)) u (r:=Ctl.go (fixV m u)) ?h0]
    case h0=>rw[za (by omega) (by omega)];simp[fixV]
    ·rfl
    ·intro j l;have g:ishr .i64 ((m / 256 ^ j:Nat):Int) (8:Int)=((m / 256 ^ (j+1):Nat):Int):=by rw[show ishr .i64 ((m / 256 ^ j:Nat):Int) (8:Int)=((m / 256 ^ j / 256:Nat):Int) from zdb (n:=8) (by decide),zma]
     have hl:=znS m j;have hi:(u:Int) - 1 - (j:Int)=((u - 1 - j:Nat):Int):=by omega
     have h:u - 1 - j<(Ee (u - j) (0:UInt8)++fixV m j).length:=by grind
     have i:(Ee (u - j) (0:UInt8)++fixV m j).set (u - 1 - j) (toU8 ((m / 256 ^ j:Nat):Int))=Ee (u - (j+1)) (0:UInt8)++fixV m (j+1):=by rw[show u - j=(u - (j+1))+1 by omega,List.replicate_succ',Du,show u - 1 - j=u - (j+1) by omega,List.set_append_right _ _ (by simp)];simp[fixV]
     simp only[hi,g,zb _ _ h,An,Bp,i];rw[if_pos (by rfl),za (by omega) (by omega)];grind
    ·grind
   ·grind
  ·grind
 ·grind
def varN:Nat->Nat->List UInt8
 | 0,n=>[toU8 (n:Int)]
 | f+1,n=>bif Dc (n<128) then [toU8 (n:Int)] else toU8 ((128+n % 128:Nat):Int)::varN f (n / 128)
def zgK {f:Nat} (h:n<128):varN f n= [toU8 (n:Int)]:=by
 cases f with
 | zero=>rfl
 | succ f=>rw[varN,decide_eq_true h];rfl
def zjg {f:Nat} (h:128<=n):varN (f+1) n=toU8 ((128+n % 128:Nat):Int)::varN f (n / 128):=by rw[varN,decide_eq_false (by omega)];rfl
theorem zsW {body:Int × List UInt8->Option (Ctl (Int × List UInt8) (Ctl (Int × List UInt8) (List UInt8)))} (b: ∀(n:Nat) (A:List UInt8),128<=n->n<562949953421312->A.length<=100->body ((n:Int),A)=some (.go (((n / 128:Nat):Int),A++ [toU8 ((128+n % 128:Nat):Int)]))) (a: ∀(n:Nat) (A:List UInt8),n<128->body ((n:Int),A)=some (.done (.go ((n:Int),A)))):
 ∀(f n:Nat) (A:List UInt8),n<128 ^ (f+1)->n<562949953421312->A.length+f<=100->∃(m:Nat) (B:List UInt8),loopO body ((n:Int),A)=some (.go ((m:Int),B))/\B++ [toU8 (m:Int)]=A++varN f n/\B.length<=100:=by
 intro f;induction f with
 | zero=>
   intro n A c _ d;have e:n<128:=by trivial
   exact ⟨n,A,by rw[zw,a n A e],by rfl,by omega⟩
 | succ f ih=>
   intro n A c g d;by_cases h:n<128
   ·exact ⟨n,A,by rw[zw,a n A h],by rw[zgK h],by omega⟩
   ·have i:n / 128<128 ^ (f+1):=by omega
    obtain ⟨m,B,l,j,k⟩:=ih (n / 128) (A++ [toU8 ((128+n % 128:Nat):Int)]) i (by omega) (by grind);refine ⟨m,B,?_,?_,k⟩
    ·rw[zw,b n A (by omega) g (by omega)];trivial
    ·rw[j,zjg (by omega),Du];rfl
def varV (n:Int):List UInt8:=bif Dc (0<=n/\n<=562949953421311) then varN 6 n.toNat else []
theorem zh6 (n:Int):zez n=some (varV n):=by
 unfold zez varV;rw[zba];by_cases h:0<=n/\n<=562949953421311
 ·rw[decide_eq_true h];obtain ⟨m,rfl⟩: ∃m:Nat,n=(m:Int):=⟨n.toNat,by omega⟩;simp only[An,Bf,Ba,if_false,cond_true,Bp];obtain ⟨p,D,a,b,e⟩:=zsW (body:=λ(A:Int × List UInt8)=>if (Dc (A.1>=(128:Int)))=true then ((app 1 A.2 ([toU8 (I6.wrap ((128:Int)+(Cv A.1 (128:Int))))])).bind λB=>
   some (.go (I6.wrap (Fv A.1 (128:Int)),B)))
   else (some (.done (.go (A.1,A.2))))) (by
    intro n D f g i;have c:Cv (n:Int) (128:Int)=((n % 128:Nat):Int):=by rfl
    have t2:Fv (n:Int) (128:Int)=((n / 128:Nat):Int):=by rfl
    have d:I6.wrap ((128:Int)+((n % 128:Nat):Int))=((128+n % 128:Nat):Int):=by rw[za (by omega) (by omega)];omega
    simp only[c,t2,d];rw[if_pos (by grind),zg (by grind) (by simp;omega),za (by omega) (by omega)];rfl) (by
    grind) 6 m [] (by omega) (by omega) (by simp)
  rw[a];simp only[zd];rw[zg (by grind) (by grind),b];rfl
 ·grind
def or128 (m:Nat) (h:m<128):128 ||| m=128+m:=by have:=Eg (i:=7) (b:=m) h 1;simp_all
theorem zko (n:Int):zgs n=some (varV n):=by
 unfold zgs varV;rw[zP];by_cases h:0<=n/\n<=562949953421311
 ·rw[decide_eq_true h];obtain ⟨m,rfl⟩: ∃m:Nat,n=(m:Int):=⟨n.toNat,by omega⟩;simp only[An,Bf,Ba,if_false,cond_true,Bp];obtain ⟨p,D,a,b,f⟩:=zsW (body:=λ(A:Int × List UInt8)=>if (Dc (A.1>(127:Int)))=true then ((app 1 A.2 ([toU8 (ior .i64 (128:Int) (iand .i64 A.1 (127:Int)))])).bind λB=>
   some (.go (ishr .i64 A.1 (7:Int),B)))
   else (some (.done (.go (A.1,A.2))))) (by
    intro n D g i j;have c:iand .i64 (n:Int) (127:Int)=((n % 128:Nat):Int):=by rw[show (127:Int)=((127:Nat):Int) from rfl,iand64 (by omega) (by decide),show n &&& 127=n % 128 from Cg n 7]
    have t2:ishr .i64 (n:Int) (7:Int)=((n / 128:Nat):Int):=zdb (n:=7) (by decide);have d:n % 128<128:=Dl _ (by decide);have e:ior .i64 (128:Int) ((n % 128:Nat):Int)=((128+n % 128:Nat):Int):=by rw[show (128:Int)=((128:Nat):Int) from rfl,ior64 (by decide) (by omega),or128 _ d]
    simp only[c,t2,e];rw[if_pos (by grind),zg (by grind) (by simp;omega)];rfl) (by
    grind) 6 m [] (by omega) (by omega) (by simp)
  rw[a];simp only[zd];rw[zg (by grind) (by grind),b];rfl
 ·grind
def numV:List UInt8->Nat
 | []=>0
 | x::l=>x.toNat % 128+128*numV l
def zjd: ∀(l:List UInt8),numV l<128 ^ l.length
 | []=>by decide
 | x::l=>by have:=zjd l;have a:x.toNat % 128<128:=Dl _ (by decide);rw[numV,Df,Fj];omega
def zqV: ∀(l:List UInt8) (x:UInt8),numV (l++ [x])=numV l+128 ^ l.length*(x.toNat % 128)
 | [],x=>by simp[numV]
 | y::l,x=>by rw[Ft,numV,numV,zqV l x,Df,Fj,Nat.mul_add,Gm (128 ^ l.length) 128,Nat.mul_assoc];omega
def readN:Nat->List UInt8->Option (Nat × Nat)
 | 0,_=>none
 | _+1,[]=>none
 | f+1,x::l=>bif Dc (x.toNat<128) then some (x.toNat,1) else match readN f l with
   | some (m,k)=>bif Dc (m=0) then none else some (x.toNat % 128+128*m,k+1)
   | none=>none
def zfQ (n:Nat):(toU8 (n:Int)).toNat=n % 256:=by unfold toU8;simp;omega
def znb (x:UInt8):toU8 ((x.toNat:Nat):Int)=x:=by have:=x.toNat_lt;apply UInt8.toNat_inj.1;rw[zfQ];omega
def zna {l:List α} {j:Nat} (a:1<=j) (b:j<=l.length):l.take j≠[]:=by intro e;have:=congrArg De e;simp_all
def znU (f:Nat) (x:UInt8):varN f (numV [x])= [x]↔x.toNat<128:=by
 have a:x.toNat % 128<128:=Dl _ (by decide);rw[show numV [x]=x.toNat % 128 by rfl,zgK a];constructor
 ·intro h;have b:toU8 ((x.toNat % 128:Nat):Int)=x:=by simp_all
  have c:=congrArg Gn b;rw[zfQ]at c;omega
 ·intro h;rw[Ct h,znb]
theorem zjR (f:Nat) (x:UInt8) (l:List UInt8) (hl:l≠[]):varN (f+1) (numV (x::l))=x::l↔128<=x.toNat/\numV l≠0/\varN f (numV l)=l:=by
 have i:x.toNat % 128<128:=Dl _ (by decide);have j:=x.toNat_lt;have c:(x.toNat % 128+128*numV l) % 128=x.toNat % 128:=by omega
 have d:(x.toNat % 128+128*numV l) / 128=numV l:=by omega
 by_cases e:numV l=0
 ·rw[numV,e,zgK (by omega)];simp_all
 ·rw[numV,zjg (by omega),c,d];constructor
  ·intro h;obtain ⟨a,b⟩:=List.cons.inj h;have g:=congrArg Gn a;rw[zfQ]at g;grind
  ·rintro ⟨a,_,b⟩;rw[b,show 128+x.toNat % 128=x.toNat by omega,znb]
theorem zdA: ∀(f:Nat) (s:List UInt8) (n k:Nat),readN f s=some (n,k)->1<=k/\k<=f/\k<=s.length/\n=numV (s.take k)/\varN (f - 1) n=s.take k/\∀g j,1<=j->j<=g+1->j<=s.length->varN g (numV (s.take j))=s.take j->j=k
 | 0,s,n,k,h=>by cases h
 | f+1,[],n,k,h=>by cases h
 | f+1,x::l,n,k,h=>by
   rw[readN]at h;by_cases b:x.toNat<128
   ·rw[decide_eq_true b]at h;simp only[cond_true,Fm,Gj]at h;obtain ⟨rfl,rfl⟩:=h;have c:x.toNat % 128=x.toNat:=Ct b;refine ⟨Bz _,by omega,by simp,by simp[numV,c],?_,λg j i o q a=>?_⟩
    ·have:=(znU (f+1 - 1) x).2 b;rw[show numV [x]=x.toNat by trivial]at this;trivial
    ·cases j with
     | zero=>omega
     | succ j=>
       cases j with
       | zero=>rfl
       | succ j=>
         cases g with
         | zero=>omega
         | succ g=>rw[Da]at a;have:=(zjR g x (l.take (j+1)) (zna (by omega) (by simp_all))).1 a;omega
   ·rw[decide_eq_false b]at h;simp only[cond_false]at h;cases d:readN f l with
    | none=>rw[d]at h;cases h
    | some p=>
      obtain ⟨m,k'⟩:=p;rw[d]at h;simp only at h;by_cases c:m=0
      ·simp_all
      ·rw[decide_eq_false c]at h;simp only[cond_false,Fm,Gj]at h;obtain ⟨rfl,rfl⟩:=h;obtain ⟨t,z,u,e,v,A⟩:=zdA f l m k' d;have w:l.take k'≠[]:=zna t u;refine ⟨by omega,by omega,by simp_all,by rw[Da,numV,<-e],?_,λg j i o q a=>?_⟩
       ·rw[Da,Fh];obtain ⟨B,rfl⟩: ∃B,f=B+1:=⟨f - 1,by omega⟩;rw[Fh]at v;have:=(zjR B x (l.take k') w).2 ⟨by omega,by omega,by simp_all⟩;rw[numV,<-e]at this;trivial
       ·cases j with
        | zero=>omega
        | succ j=>
          cases j with
          | zero=>rw[Da,Ge]at a;exact absurd ((znU g x).1 a) b
          | succ j=>
            cases g with
            | zero=>omega
            | succ g=>
              rw[Da]at a;have y:j+1<=l.length:=by simp_all
              have:=(zjR g x (l.take (j+1)) (zna (by omega) y)).1 a;grind
theorem zpd: ∀(f:Nat) (s:List UInt8),readN f s=none->∀g j,1<=j->j<=f->j<=g+1->j<=s.length->varN g (numV (s.take j))≠s.take j
 | 0,s,h=>λg j c d=>by omega
 | f+1,[],h=>λg j c d k n=>by simp_all
 | f+1,x::l,h=>by
   intro g j q t u v a;rw[readN]at h;by_cases e:x.toNat<128
   ·simp_all
   ·rw[decide_eq_false e]at h;simp only[cond_false]at h;cases j with
    | zero=>omega
    | succ j=>
      cases j with
      | zero=>rw[Da,Ge]at a;exact e ((znU g x).1 a)
      | succ j=>
        cases g with
        | zero=>omega
        | succ g=>
          rw[Da]at a;have i:j+1<=l.length:=by simp_all
          obtain ⟨w,y,o⟩:=(zjR g x (l.take (j+1)) (zna (by omega) i)).1 a;cases b:readN f l with
          | none=>exact zpd f l b g (j+1) (by omega) (by omega) (by omega) i o
          | some p=>
            obtain ⟨m,k'⟩:=p;rw[b]at h;simp only at h;by_cases z:m=0
            ·obtain ⟨c,d,k,n,A,B⟩:=zdA f l m k' b;grind
            ·simp_all
def readR:Option (Nat × Nat)->Int × Int
 | some (n,k)=>((n:Int),(k:Int))
 | none=>(0,0)
def readI (n i:Nat):Option (Nat × Nat)->Int × Int
 | some (m,k)=>bif Dc (m=0/\0<i) then (0,0) else (((n+128 ^ i*m:Nat):Int),((i+k:Nat):Int))
 | none=>(0,0)
def zuB (p:Option (Nat × Nat)):readI 0 0 p=readR p:=by
 cases p with
 | none=>rfl
 | some p=>simp[readI,readR]
theorem zuA (n i f:Nat) (x:UInt8) (l:List UInt8) (b: ¬x.toNat<128):readI n i (readN (f+1) (x::l))=readI (n+128 ^ i*(x.toNat % 128)) (i+1) (readN f l):=by
 rw[readN,decide_eq_false b];simp only[cond_false];cases readN f l with
 | none=>rfl
 | some p=>
   obtain ⟨m,k⟩:=p;simp only;by_cases a:m=0
   ·simp[a,readI]
   ·rw[decide_eq_false a];simp only[cond_false,readI];grind
def zxj (n d i:Nat) (h:n<2 ^ (7*i)):n ||| d*2 ^ (7*i)=n+2 ^ (7*i)*d:=by rw[Nat.or_comm,Gm,<-Eg h];omega
def pow128 (i:Nat):128 ^ i=2 ^ (7*i):=by rw[Nat.pow_mul]
def zgW (s:List UInt8) (hs:s.length<=1099511627776):zgV s=some (readR (readN 7 s)):=by
 unfold zgV;obtain ⟨r,l,m⟩:=zX (ρ:=Ctl Unit (Int × Int)) (s0:=((0:Int),(0:Int))) (body:=λ(A:Int × Int)=>(if (Dc (A.2<(7:Int)))=true then (some (Dc (A.2<(s.length:Int))))
 else (some false)).bind (λ(E:Bool)=>
 if E=true then ((sidx s A.2).bind λB=>
 if (Dc (((B.toNat:Nat):Int)>=(128:Int)))=true then (some (.go (ior .i64 A.1 (ishl .i64 (I6.wrap (iand .u8 ((B.toNat:Nat):Int) (127:Int))) (IntKind.u64.wrap (I6.wrap ((7:Int)*A.2)))),I6.wrap (A.2+(1:Int)))))
 else ((if (Dc (((B.toNat:Nat):Int)=(0:Int)))=true then (some (Dc (A.2>(0:Int))))
 else (some false)).bind (λ(D:Bool)=>
 if D=true then (some (.done (.done ((0:Int),(0:Int)))))
 else (some (.done (.done (ior .i64 A.1 (ishl .i64 (I6.wrap (iand .u8 ((B.toNat:Nat):Int) (127:Int))) (IntKind.u64.wrap (I6.wrap ((7:Int)*A.2)))),I6.wrap (A.2+(1:Int)))))))))
 else (some (.done (.go ())))))
  (λi S=>S.1=(numV (s.take i):Int)/\S.2=(i:Int)/\i<=s.length/\readR (readN 7 s)=readI (numV (s.take i)) i (readN (7 - i) (s.drop i))) 7 (λr=>r= .done (readR (readN 7 s))\/(r= .go ()/\readR (readN 7 s)=(0,0))) ⟨by simp[numV],rfl,Dx _,by simp[numV,zuB]⟩ (by
    rintro i ⟨n,j⟩ hi ⟨a,b,c,d⟩;simp only at a b;subst a b;rw[d];simp only;rw[decide_eq_true (by omega:((i:Int)<7))];simp only[if_true,An];by_cases hl:i<s.length
    ·have e:s.drop i=s[i]::s.drop (i+1):=Bl hl;have o:s.take (i+1)=s.take i++ [s[i]]:=by rw[Dj,By hl];rfl
     have v:=s[i].toNat_lt;have g:=zjd (s.take i);rw[Dg,Di c,pow128]at g;have p:2 ^ (7*i)<=2 ^ 42:=Cu (by decide) (by omega);have w:s[i].toNat % 128<128:=Dl _ (by decide);have F:iand .u8 ((s[i].toNat:Nat):Int) (127:Int)=((s[i].toNat % 128:Nat):Int):=by rw[show (127:Int)=((127:Nat):Int) from rfl,iand8 (by omega) (by decide),show s[i].toNat &&& 127=s[i].toNat % 128 from Cg _ 7]
     have G:IntKind.u64.wrap (I6.wrap ((7:Int)*(i:Int)))=((7*i:Nat):Int):=by rw[za (by omega) (by omega),wrap64u];omega
     have x:s[i].toNat % 128*2 ^ (7*i)<=127*2 ^ 42:=Nat.mul_le_mul (by omega) p;have I:ior .i64 (numV (s.take i):Int) (ishl .i64 (I6.wrap ((s[i].toNat % 128:Nat):Int)) ((7*i:Nat):Int))=((numV (s.take i)+128 ^ i*(s[i].toNat % 128):Nat):Int):=by rw[za (by omega) (by omega),ishl64 (by omega) (by omega),ior64 (by omega) (by omega),zxj _ _ _ g,pow128]
     rw[decide_eq_true (by omega:(i:Int)<(s.length:Int)),zcN s i hl,e];simp only[if_true,An,F,G,I];rw[za (by omega) (by omega),show 7 - i=(7 - (i+1))+1 by omega];by_cases f:s[i].toNat<128
     ·right;refine ⟨_,?_,.inl rfl⟩;rw[decide_eq_false (by omega: ¬((s[i].toNat:Nat):Int)>=128),readN,decide_eq_true f];simp only[Ba,if_false,cond_true,readI];have q:s[i].toNat % 128=s[i].toNat:=Ct f;rw[q];by_cases t:s[i].toNat=0
      ·by_cases u:0<i
       ·rw[decide_eq_true (⟨t,u⟩:s[i].toNat=0/\0<i),decide_eq_true (by omega:((s[i].toNat:Nat):Int)=0),decide_eq_true (by omega:(i:Int)>0)];rfl
       ·rw[decide_eq_false (by omega: ¬(s[i].toNat=0/\0<i)),decide_eq_true (by omega:((s[i].toNat:Nat):Int)=0),decide_eq_false (by omega: ¬(i:Int)>0)];rfl
      ·rw[decide_eq_false (by omega: ¬(s[i].toNat=0/\0<i)),decide_eq_false (by omega: ¬((s[i].toNat:Nat):Int)=0)];rfl
     ·left;rw[decide_eq_true (by omega:((s[i].toNat:Nat):Int)>=128)];have k:numV (s.take (i+1))=numV (s.take i)+128 ^ i*(s[i].toNat % 128):=by rw[o,zqV,Dg,Di c]
      refine ⟨(_,_),rfl,by rw[k],by simp,by omega,?_⟩;rw[zuA _ _ _ _ _ f,k]
    ·right;have e:s.drop i= []:=List.drop_eq_nil_of_le (by omega);rw[decide_eq_false (by omega: ¬(i:Int)<(s.length:Int)),e,show 7 - i=(7 - (i+1))+1 by omega];exact ⟨.go (),rfl,.inr ⟨rfl,rfl⟩⟩) (by
    rintro ⟨n,j⟩ ⟨a,b,c,d⟩;simp only at a b;subst a b;exact ⟨.go (),rfl,.inr ⟨rfl,d⟩⟩)
 rw[l];rcases m with rfl | ⟨rfl,h⟩
 ·rfl
 ·rw[h];rfl
def zeA (s:List UInt8) (a b:Nat) (c:a<=b) (d:b<=s.length):ssub s (a:Int) (b:Int)=some ((s.drop a).take (b - a)):=by unfold ssub;simp_all
def zhV (s:List UInt8) (a:Nat) (h:a<=s.length):ssub s (a:Int) (s.length:Int)=some (s.drop a):=by rw[zeA s a s.length h (Bz _),Cy (by simp)]
theorem zwl (s:List UInt8) (k:Nat) (d:1<=k) (e:k<=7) (f:k<=s.length):
 loopO (ρ:=Ctl Int ρ) (λ(A:Int × Int)=>if (Dc (A.2>=(0:Int)))=true then ((sidx s A.2).bind λB=>
 some (.go (I6.wrap (I6.wrap (A.1*(128:Int))+(Cv (I6.wrap ((B.toNat:Nat):Int)) (128:Int))),I6.wrap (A.2 - (1:Int)))))
 else (some (.done (.go A.1))))
 ((0:Int),(k:Int) - 1)=some (.go (numV (s.take k):Int)):=by
 have g:(s.take k).length=k:=by simp_all
 rw[zk (λt=>((numV ((s.take k).drop (k - t)):Int),(k:Int) - 1 - (t:Int))) k (r:=Ctl.go (numV (s.take k):Int)) ?h0]
 case h0=>rw[show k - 0=k by omega,Eu (by omega)];simp[numV]
 ·intro t h;have hi:(k:Int) - 1 - (t:Int)=((k - 1 - t:Nat):Int):=by omega
  have b:(s.take k).drop (k - (t+1))=s[k - 1 - t]::(s.take k).drop (k - t):=by rw[show k - (t+1)=k - 1 - t by omega,Bl (by omega),Dn];grind
  have i:=(s[k - 1 - t]).toNat_lt;have a:=zjd ((s.take k).drop (k - t));have hl:((s.take k).drop (k - t)).length=t:=by grind
  rw[hl]at a;have j:128 ^ t<=128 ^ 6:=Cu (by decide) (by omega);have c:Cv (((s[k - 1 - t]).toNat:Nat):Int) (128:Int)=(((s[k - 1 - t]).toNat % 128:Nat):Int):=by rfl
  simp only[hi,zcN s (k - 1 - t) (by omega),An];rw[if_pos (by rfl),za (n:=(((s[k - 1 - t]).toNat:Nat):Int)) (by omega) (by omega),c,b,numV];generalize numV ((s.take k).drop (k - t))=z at a;rw[za (n:=(z:Int)*128) (by omega) (by omega),za (by omega) (by omega),za (by omega) (by omega)];grind
 ·grind
def zpn (s:List UInt8) (hs:s.length<=1099511627776):zfj s=some (readR (readN 7 s)):=by
 unfold zfj;obtain ⟨r,a,m⟩:=zX (ρ:=Ctl Unit (Int × Int)) (s0:=(1:Int)) (body:=λ(A:Int)=>(if (Dc (A<=(7:Int)))=true then (some (Dc (A<=(s.length:Int))))
 else (some false)).bind (λ(I:Bool)=>
 if I=true then (bindC (loopO (λ(B:Int × Int)=>if (Dc (B.2>=(0:Int)))=true then ((sidx s B.2).bind λE=>
 some (.go (I6.wrap (I6.wrap (B.1*(128:Int))+(Cv (I6.wrap ((E.toNat:Nat):Int)) (128:Int))),I6.wrap (B.2 - (1:Int)))))
 else (some (.done (.go B.1))))
 ((0:Int),I6.wrap (A - (1:Int))))
 (λ(D:Int)=>(ssub s 0 A).bind λF=>
 (zez D).bind λG=>
 if (Dc (G=F))=true then (some (.done (.done (D,A))))
 else (some (.go (I6.wrap (A+(1:Int)))))))
 else (some (.done (.go ())))))
  (λi S=>S=((i+1:Nat):Int)/\∀j,1<=j->j<=i->j<=s.length->varN 6 (numV (s.take j))≠s.take j) 7 (λr=>(∃n k,readN 7 s=some (n,k)/\r= .done ((n:Int),(k:Int)))\/(readN 7 s=none/\r= .go ())) ⟨rfl,λj b l=>by omega⟩ (by
    rintro i S hi ⟨rfl,h⟩;rw[decide_eq_true (by omega:((i+1:Nat):Int)<=7)];simp only[if_true,An];by_cases hl:i+1<=s.length
    ·rw[decide_eq_true (by omega:((i+1:Nat):Int)<=(s.length:Int)),za (n:=((i+1:Nat):Int) - 1) (by omega) (by omega)];simp only[if_true];rw[zwl s (i+1) (by omega) (by omega) hl];have o:ssub s 0 ((i+1:Nat):Int)=some (s.take (i+1)):=zeA s 0 (i+1) (by omega) hl;have q:=zjd (s.take (i+1));rw[Dg,Di hl]at q;have v:128 ^ (i+1)<=128 ^ 7:=Cu (by decide) (by omega);have t:varV (numV (s.take (i+1)):Int)=varN 6 (numV (s.take (i+1))):=by unfold varV;rw[decide_eq_true (by omega),cond_true,Bp]
     simp only[zd,o,An,zh6,t];by_cases c:varN 6 (numV (s.take (i+1)))=s.take (i+1)
     ·right;rw[decide_eq_true c];refine ⟨_,rfl,.inl ⟨numV (s.take (i+1)),i+1,?_,rfl⟩⟩;cases a:readN 7 s with
      | none=>exact absurd c (zpd 7 s a 6 (i+1) (by omega) (by omega) (by omega) hl)
      | some p=>obtain ⟨n,k⟩:=p;obtain ⟨_,_,_,d,_,u⟩:=zdA 7 s n k a;have:=u 6 (i+1) (by omega) (by omega) hl c;subst this;rw[d]
     ·left;rw[decide_eq_false c];refine ⟨_,rfl,by rw[za (by omega) (by omega)];omega,λj b l f=>?_⟩;by_cases e:j=i+1
      ·subst e;exact c
      ·exact h j b (by omega) f
    ·right;rw[decide_eq_false (by omega: ¬((i+1:Nat):Int)<=(s.length:Int))];refine ⟨.go (),rfl,.inr ⟨?_,rfl⟩⟩;cases a:readN 7 s with
     | none=>rfl
     | some p=>obtain ⟨n,k⟩:=p;obtain ⟨b,_,f,d,g,_⟩:=zdA 7 s n k a;rw[d]at g;exact absurd g (h k b (by omega) f)) (by
    rintro S ⟨rfl,h⟩;refine ⟨.go (),rfl,.inr ⟨?_,rfl⟩⟩;cases a:readN 7 s with
    | none=>rfl
    | some p=>obtain ⟨n,k⟩:=p;obtain ⟨b,l,f,d,g,_⟩:=zdA 7 s n k a;rw[d]at g;exact absurd g (h k b l f))
 rw[a];rcases m with ⟨n,k,e,rfl⟩ | ⟨e,rfl⟩
 ·rw[e];rfl
 ·rw[e];rfl
def l6V (s:List UInt8):Nat->Nat->List Int × Int
 | 0,a=>([],(a:Int))
 | n+1,a=>bif Dc (s.length<a) then ([],-1) else match readN 7 (s.drop a) with
   | some (x,k)=>((x:Int)::(l6V s n (a+k)).1,(l6V s n (a+k)).2)
   | none=>([],-1)
def zfL (s:List UInt8) (a n:Nat) (hs:s.length<=1099511627776) (f:n<=1048576) (b:a<=2199023255552):zbH s (a:Int) (n:Int)=some (l6V s n a):=by
 unfold zbH;have key: ∀(m i a:Nat) (A:List Int),i+m=n->A.length=i->a<=2199023255552->
  bindC (loopO (λ(B:Int × Int × List Int)=>if (Dc (B.2.1<(n:Int)))=true then ((if (Dc (B.1<(0:Int)))=true then (some true)
 else (some (Dc (B.1>(s.length:Int))))).bind (λ(I:Bool)=>
 if I=true then (some (.done (.done (B.2.2,(-1:Int)))))
 else ((ssub s B.1 (s.length:Int)).bind λE=>
 (zfj E).bind λD=>
 if (Dc (D.2=(0:Int)))=true then (some (.done (.done (B.2.2,(-1:Int)))))
 else ((app 8 B.2.2 ([D.1])).bind λF=>
 some (.go (I6.wrap (B.1+D.2),I6.wrap (B.2.1+(1:Int)),F))))))
 else (some (.done (.go (B.1,B.2.2)))))
 ((a:Int),(i:Int),A)) (λ(G:Int × List Int)=>some (G.2,G.1))=some (A++(l6V s m a).1,(l6V s m a).2):=by
  intro m;induction m with
  | zero=>intro i a A hi c b;rw[zw];simp only;rw[if_neg (by simp only[decide_eq_true_eq];omega)];simp[l6V]
  | succ m ih=>
    intro i a A hi c b;rw[zw];simp only;rw[if_pos (by simp only[decide_eq_true_eq];omega),decide_eq_false (by omega: ¬(a:Int)<0)];simp only[Ba,if_false,An,l6V];by_cases hl:s.length<a
    ·rw[decide_eq_true hl,decide_eq_true (by omega:(a:Int)>(s.length:Int))];simp
    ·rw[decide_eq_false hl,decide_eq_false (by omega: ¬(a:Int)>(s.length:Int))];simp only[Ba,if_false,zhV s a (by omega),An,zpn (s.drop a) (by simp;omega),cond_false];cases d:readN 7 (s.drop a) with
     | none=>simp[readR]
     | some p=>obtain ⟨x,k⟩:=p;obtain ⟨g,h,_⟩:=zdA 7 _ x k d;have e:Dc ((readR (some (x,k))).2=0)=false:=decide_eq_false (by show ¬(k:Int)=0;omega);rw[e];simp only[Ba,if_false,readR];rw[zg (by simp;omega) (by simp;omega)];simp only[An];rw[za (n:=(a:Int)+(k:Int)) (by omega) (by omega),za (n:=(i:Int)+1) (by omega) (by omega)];have:=ih (i+1) (a+k) (A++ [(x:Int)]) (by omega) (by simp;omega) (by omega);rw[show ((a:Int)+(k:Int))=((a+k:Nat):Int) by omega,show ((i:Int)+1)=((i+1:Nat):Int) by omega,this,Du];rfl
 have:=key n 0 a [] (by omega) rfl b;simpa using this
def nonceV (kind n:Int):List UInt8:=bif Dc (0<=kind/\kind<=255)&&Dc (0<=n/\n<=562949953421311) then [toU8 kind,0,0,0,0]++fixedV n 7 else []
theorem zkn (n:Int) (h:0<=n/\n<=562949953421311):(fixedV n 7).length=7:=by unfold fixedV;have a:n.toNat / 256 ^ (7:Int).toNat=0:=Nat.div_eq_of_lt (by grind);rw[decide_eq_true h.1,decide_eq_true a];rfl
theorem zhq (kind n:Int):zeb kind n=some (nonceV kind n):=by
 unfold zeb nonceV;rw[zba,zba];by_cases b:0<=kind/\kind<=255
 ·by_cases a:0<=n/\n<=562949953421311
  ·rw[decide_eq_true b,decide_eq_true a];simp only[An,Bf,Ba,if_false,Fc,cond_true,zrH n 7 (by omega)];rw[zbx (by rw[zkn n a];simp)];rfl
  ·grind
 ·grind
theorem zgU (kind n:Int):ze5 kind n=some (nonceV kind n):=by
 unfold ze5 nonceV;rw[zP,zP];by_cases b:0<=kind/\kind<=255
 ·by_cases a:0<=n/\n<=562949953421311
  ·rw[decide_eq_true b,decide_eq_true a];simp only[An,Bf,Ba,if_false,Fc,cond_true,zrs n 7 (by omega)];rw[zbx (by rw[zkn n a];simp)];rfl
  ·grind
 ·grind
def zsV: ∀(f n:Nat),(varN f n).length<=f+1
 | 0,n=>Bz _
 | f+1,n=>by
   by_cases h:n<128
   ·rw[zgK h];simp
   ·rw[zjg (by omega),Df];have:=zsV f (n / 128);omega
def zcR (n:Int):(varV n).length<=7:=by
 unfold varV;cases Dc (0<=n/\n<=562949953421311)
 ·simp
 ·exact zsV 6 _
def mintOk (secret:List UInt8) (t e:Int):Bool:=Dc (secret.length=32)&&(Dc (1<=t/\t<=99)&&Dc (0<=e/\e<=1000000))
def zi0 {t e:Int} (h:mintOk secret t e=true):secret.length=32/\(1<=t/\t<=99)/\0<=e/\e<=1000000:=by unfold mintOk at h;simp_all
def mintV (secret:List UInt8) (t e:Int):List UInt8:=bif mintOk secret t e then varV t++varV e++(chaV secret e (nonceV 2 t)).take 8 else []
theorem zn9 {t e:Int} (h:mintOk secret t e=true):(chaV secret e (nonceV 2 t)).length=64:=by
 obtain ⟨a,b,c⟩:=zi0 h;refine zjh _ _ _ ?_;have d:(nonceV 2 t).length=12:=by unfold nonceV;rw[decide_eq_true (by trivial),decide_eq_true (by omega)];simp only[Fc,cond_true,Dd,zkn t (by omega)];rfl
 unfold chaOk;grind
theorem zdX (secret:List UInt8) (t e:Int):zcs secret t e=some (mintV secret t e):=by
 unfold zcs mintV;have b:Dc ((secret.length:Int)=32)=Dc (secret.length=32):=decide_eq_decide.2 (by omega);rw[b,zba,zba];cases a:mintOk secret t e with
 | true=>have g:=zn9 a;obtain ⟨c,d,f⟩:=zi0 a;have h:=zcR t;have i:=zcR e;rw[decide_eq_true c,decide_eq_true d,decide_eq_true f];simp only[An,Bf,Ba,if_false,cond_true,zh6,zhq,zgu];rw[zbx (by omega)];simp only[An];rw[show ssub (chaV secret e (nonceV 2 t)) 0 (8:Int)=some ((chaV secret e (nonceV 2 t)).take 8) from zeA _ 0 8 (by omega) (by omega)];simp only[An];rw[zbx (by grind)];rfl
 | false=>unfold mintOk at a;grind
theorem zdS (secret:List UInt8) (t e:Int):zc2 secret t e=some (mintV secret t e):=by
 unfold zc2 mintV zbE zbh;have b:Dc ((secret.length:Int)=32)=Dc (secret.length=32):=decide_eq_decide.2 (by omega);rw[b,zP,zP];cases a:mintOk secret t e with
 | true=>have g:=zn9 a;obtain ⟨c,d,f⟩:=zi0 a;have h:=zcR t;have i:=zcR e;rw[decide_eq_true c,decide_eq_true d,decide_eq_true f];simp only[An,Bf,Ba,if_false,cond_true,zko,zgU,zjm];rw[zbx (by omega)];simp only[An];rw[show ssub (chaV secret e (nonceV 2 t)) 0 (8:Int)=some ((chaV secret e (nonceV 2 t)).take 8) from zeA _ 0 8 (by omega) (by omega)];simp only[An];rw[zbx (by grind)];rfl
 | false=>unfold mintOk at a;grind
theorem zii (h:readN 7 s=some (n,k)):varV (n:Int)=s.take k/\k<=s.length/\1<=k/\k<=7:=by obtain ⟨c,a,b,d,f,_⟩:=zdA 7 s n k h;have e:=zjd (s.take k);rw[Dg,Di b,<-d]at e;have g:128 ^ k<=128 ^ 7:=Cu (by decide) a;refine ⟨?_,b,c,a⟩;unfold varV;grind
def tokR (secret s:List UInt8):Int × Int × Bool:=match readN 7 s with
 | none=>(0,0,false)
 | some (t,a)=>match readN 7 (s.drop a) with
   | none=>(0,0,false)
   | some (e,_)=>bif Dc (mintV secret t e=s) then ((t:Int),(e:Int),true) else (0,0,false)
theorem zwj {t a e b:Nat} (f:readN 7 s=some (t,a)) (g:readN 7 (s.drop a)=some (e,b)) (c:mintV secret t e=s):s.length=a+b+8:=by
 obtain ⟨i,j,k,_⟩:=zii f;obtain ⟨l,h,m,_⟩:=zii g;rw[Cr]at h;unfold mintV at c;cases d:mintOk secret t e with
 | false=>simp_all
 | true=>rw[d]at c;have n:=zn9 d;grind
theorem znp (secret s:List UInt8) (hs:s.length<=1099511627776):zfD secret s=some (tokR secret s):=by
 unfold zfD tokR;rw[show zbH s (0:Int) (2:Int)=some (l6V s 2 0) from zfL s 0 2 hs (by decide) (by decide)];simp only[An];cases a:readN 7 s with
 | none=>
   have e:l6V s 2 0=([],-1):=by rw[l6V,decide_eq_false (by omega),cond_false,Ed,a]
   simp_all
 | some p=>
   obtain ⟨t,b⟩:=p;obtain ⟨h,i,j,_⟩:=zii a;simp only;cases k:readN 7 (s.drop b) with
   | none=>
     have e:l6V s 2 0=([(t:Int)],-1):=by rw[l6V,decide_eq_false (by omega),cond_false,Ed,a];simp only[Fi,l6V];simp_all
     simp_all
   | some q=>
     obtain ⟨e,c⟩:=q;have ev:l6V s 2 0=([(t:Int),(e:Int)],((b+c:Nat):Int)):=by rw[l6V,decide_eq_false (by omega),cond_false,Ed,a];simp only[Fi,l6V];grind
     have d: ¬s= []:=by grind
     have f:idx [(t:Int),(e:Int)] (0:Int)=some (t:Int):=rfl;have g:idx [(t:Int),(e:Int)] (1:Int)=some (e:Int):=rfl;rw[ev];simp only;rw[decide_eq_false (by omega),decide_eq_false d];simp only[Ba,if_false,f,g,An,zdX];grind
theorem ziD (secret s:List UInt8) (hs:s.length<=1099511627776):zd0 secret s=some (tokR secret s):=by
 unfold zd0 tokR zbe;simp only[Ba,if_false];rw[show ssub s (0:Int) (s.length:Int)=some s from zhV s 0 (Dx _)];simp only[An,zgW s hs];cases d:readN 7 s with
 | none=>rfl
 | some p=>
   obtain ⟨t,a⟩:=p;obtain ⟨l,g,m,_⟩:=zii d;have h:Dc ((readR (some (t,a))).2=0)=false:=decide_eq_false (by show ¬(a:Int)=0;omega);rw[h];simp only[Ba,if_false,An,readR];rw[za (n:=(0:Int)+(a:Int)) (by omega) (by omega),show (0:Int)+(a:Int)=((a:Nat):Int) by omega,zhV s a g];simp only[An,zgW (s.drop a) (by grind)];cases f:readN 7 (s.drop a) with
   | none=>rfl
   | some q=>
     obtain ⟨e,b⟩:=q;obtain ⟨o,i,u,_⟩:=zii f;rw[Cr]at i;have j:Dc ((readR (some (e,b))).2=0)=false:=decide_eq_false (by show ¬(b:Int)=0;omega);rw[j];simp only[Ba,if_false,An,readR];rw[za (n:=(a:Int)+(b:Int)) (by omega) (by omega)];unfold zbL zc9;simp only[Ba,if_false,An];rw[za (n:=(s.length:Int) - ((a:Int)+(b:Int))) (by omega) (by omega)];by_cases c:mintV secret t e=s
     ·have hl:=zwj d f c;rw[decide_eq_true c,decide_eq_false (by omega)];simp only[Ba,if_false];rw[za (n:=(a:Int)+(b:Int)+8) (by omega) (by omega),za (n:=(a:Int)+(b:Int)+8 - 8) (by omega) (by omega)];rw[show (a:Int)+(b:Int)+8 - 8=((a+b:Nat):Int) by omega,show (a:Int)+(b:Int)+8=((a+b+8:Nat):Int) by omega,zeA s (a+b) (a+b+8) (by omega) (by omega)];simp only[An];rw[decide_eq_true (by omega)];simp only[Bt,Bf,if_true,An,Ba,if_false,zdS];simp_all
     ·rw[decide_eq_false c];by_cases k:(8:Int)>(s.length:Int) - ((a:Int)+(b:Int))
      ·simp_all
      ·rw[decide_eq_false k];simp only[Ba,if_false];rw[za (n:=(a:Int)+(b:Int)+8) (by omega) (by omega),za (n:=(a:Int)+(b:Int)+8 - 8) (by omega) (by omega)];rw[show (a:Int)+(b:Int)+8 - 8=((a+b:Nat):Int) by omega,show (a:Int)+(b:Int)+8=((a+b+8:Nat):Int) by omega,zeA s (a+b) (a+b+8) (by omega) (by omega)];simp only[An,zdS];simp_all
def whoseV (secret:List UInt8) (c:Ao):Int:=bif Dc (5<=c.E/\c.E<=11) then (tokR secret c.Q).1 else 0
theorem zuO (h:(tokR secret s).2.2=false):(tokR secret s).1=0:=by
 unfold tokR at h |-
 grind
theorem zry (secret:List UInt8) (c:Ao) (h:c.Q.length<=1048576):ziW secret c=some (whoseV secret c):=by unfold ziW whoseV zg5;rw[ziD secret c.Q (by omega),zP];grind
theorem passes {ρ:Type} (l:List α) (p:α->Bool) (body:Int->Option (Ctl Int (Ctl Unit Bool))) (h: ∀k (a:k<l.length),body (k:Int)=some (if p l[k]=true then .go ((k:Int)+1) else .done (.done false))) (c:body (l.length:Int)=some (.done (.go ()))):
 loopO body 0=some (if l.all p=true then .go () else .done false):=by
 rw[zca (λk s=>s=(k:Int)/\l.all p=(l.drop k).all p) l.length (if l.all p=true then Ctl.go () else Ctl.done false) ?h0 ?h1 ?h2]
 case h0=>exact ⟨rfl,rfl⟩
 ·rintro k s a ⟨rfl,b⟩;rw[h k a,b,Bl a,Ek];grind
 ·simp_all
def pieceV (s:List UInt8):List UInt8:=varV (s.length:Int)++s
def zkh (s:List UInt8) (h:s.length<=1099511627776):zeh s=some (pieceV s):=by unfold zeh pieceV;have:=zcR (s.length:Int);rw[zh6];simp only[An];rw[zbx (by omega)];rfl
def zlL (s:List UInt8) (h:s.length<=1099511627776):zg7 s=some (pieceV s):=by unfold zg7 pieceV;have:=zcR (s.length:Int);rw[zko];simp only[An];rw[zbx (by omega)];rfl
def zfz (s:List UInt8):(pieceV s).length<=7+s.length:=by have:=zcR (s.length:Int);unfold pieceV;simp_all
def znT {α:Type} (g:α->List UInt8) (m:Nat): ∀(l:List α),(∀x∈l,(g x).length<=m)->(l.flatMap g).length<=m*l.length
 | [],_=>by simp
 | x::l,h=>by have a:=h x (by simp);have b:=znT g m l λy c=>h y (by simp_all);rw[List.flatMap_cons,Dd,Df,Nat.mul_succ];omega
def zqM (g:α->List UInt8) (l:List α) (k:Nat) (h:k<l.length):(l.take (k+1)).flatMap g=(l.take k).flatMap g++g l[k]:=by rw[Dj,By h,List.flatMap_append];simp
theorem zlG (g:α->List UInt8) (m:Nat) (l:List α) (k:Nat) (h: ∀x∈l,(g x).length<=m):((l.take k).flatMap g).length<=m*l.length:=by have b:=znT g m (l.take k) λx a=>h x (List.mem_of_mem_take a);have c:m*(l.take k).length<=m*l.length:=Ec _ (by grind);omega
def zw9 (f n:Nat):varN f n≠[]:=by
 by_cases h:n<128
 ·rw[zgK h];simp
 ·cases f with
  | zero=>simp[varN]
  | succ f=>rw[zjg (by omega)];simp
def zxa {n:Int} (h:0<=n/\n<=562949953421311):varV n≠[]:=by unfold varV;rw[decide_eq_true h];exact zw9 6 _
theorem zq2: ∀(f n:Nat) (rest:List UInt8),n<128 ^ (f+1)->readN (f+1) (varN f n++rest)=some (n,(varN f n).length)
 | 0,n,rest,h=>by
   have a:n<128:=by trivial
   rw[zgK a];show readN 1 (toU8 (n:Int)::rest)=_;rw[readN,zfQ,Ct (by omega),decide_eq_true a];rfl
 | f+1,n,rest,h=>by
   by_cases a:n<128
   ·rw[zgK a];show readN (f+2) (toU8 (n:Int)::rest)=_;rw[readN,zfQ,Ct (by omega),decide_eq_true a];rfl
   ·have b:n / 128<128 ^ (f+1):=by omega
    rw[zjg (by omega),Ft,readN,zfQ,Ct (by omega),decide_eq_false (by omega),zq2 f (n / 128) rest b];grind
def zij (n:Int) (h:0<=n/\n<=562949953421311) (rest:List UInt8):readN 7 (varV n++rest)=some (n.toNat,(varV n).length):=by unfold varV;rw[decide_eq_true h];exact zq2 6 n.toNat rest (by omega)
def zeJ (h:readN 7 s=some (n,k)):n<562949953421312/\1<=k/\k<=s.length:=by obtain ⟨e,a,b,c,_,_⟩:=zdA 7 s n k h;have d:=zjd (s.take k);rw[Dg,Di b,<-c]at d;have f:128 ^ k<=128 ^ 7:=Cu (by decide) a;omega
def rdN (t:List UInt8) (a:Nat) (bad:Bool):Int × Nat × Bool:=bif bad then (0,a,true) else match readN 7 (t.drop a) with
 | none=>(0,a,true)
 | some (x,k)=>((x:Int),a+k,false)
theorem zih (t:List UInt8) (a:Nat) (bad:Bool) (h:a<=t.length):(0<=(rdN t a bad).1/\(rdN t a bad).1<=562949953421311)/\(rdN t a bad).2.1<=t.length/\((rdN t a bad).2.2=false->bad=false/\a<(rdN t a bad).2.1):=by
 unfold rdN;cases bad with
 | true=>exact ⟨⟨by simp,by simp⟩,h,λe=>by cases e⟩
 | false=>
   simp only[cond_false];cases b:readN 7 (t.drop a) with
   | none=>exact ⟨⟨by simp,by simp⟩,h,λe=>by cases e⟩
   | some p=>obtain ⟨x,k⟩:=p;obtain ⟨c,d,f⟩:=zeJ b;grind
theorem zqW (t:List UInt8) (a:Nat) (bad:Bool) (h:a<=t.length) (e:t.length<=1099511627776):zbe ⟨t,(a:Int),bad⟩=some ((rdN t a bad).1,⟨t,((rdN t a bad).2.1:Int),(rdN t a bad).2.2⟩):=by
 unfold zbe rdN;cases bad with
 | true=>rfl
 | false=>
   simp only[Ba,if_false,zhV t a h,An,zgW (t.drop a) (by grind),cond_false];cases b:readN 7 (t.drop a) with
   | none=>rfl
   | some p=>obtain ⟨x,k⟩:=p;obtain ⟨f,g,c⟩:=zeJ b;rw[Cr]at c;have d:Dc ((readR (some (x,k))).2=0)=false:=decide_eq_false (by show ¬(k:Int)=0;omega);rw[d];simp only[Ba,if_false,readR];rw[za (by omega) (by omega),show (a:Int)+(k:Int)=((a+k:Nat):Int) by omega]
def rdB (t:List UInt8) (a:Nat) (bad:Bool) (n:Int):List UInt8 × Nat × Bool:=bif bad||decide (t.length<a+n.toNat) then ([],a,true) else ((t.drop a).take n.toNat,a+n.toNat,false)
theorem zqX (t:List UInt8) (a:Nat) (bad:Bool) (n:Int) (h:a<=t.length):(rdB t a bad n).2.1<=t.length/\a<=(rdB t a bad n).2.1/\((rdB t a bad n).2.2=false->bad=false):=by unfold rdB;grind
theorem zrW (t:List UInt8) (a:Nat) (bad:Bool) (n:Int) (h:a<=t.length) (b:t.length<=1099511627776) (d:0<=n/\n<=562949953421311):zbL ⟨t,(a:Int),bad⟩ n=some ((rdB t a bad n).1,⟨t,((rdB t a bad n).2.1:Int),(rdB t a bad n).2.2⟩):=by
 unfold zbL rdB;cases bad with
 | true=>rfl
 | false=>
   simp only[Ba,if_false,An,Eo];rw[za (n:=(t.length:Int) - (a:Int)) (by omega) (by omega)];by_cases c:t.length<a+n.toNat
   ·grind
   ·rw[decide_eq_false c,decide_eq_false (by omega)];simp only[Ba,if_false,cond_false];rw[za (n:=(a:Int)+n) (by omega) (by omega),za (n:=(a:Int)+n - n) (by omega) (by omega),show (a:Int)+n - n=(a:Int) by omega,show (a:Int)+n=((a+n.toNat:Nat):Int) by omega,zeA t a (a+n.toNat) (by omega) (by omega)];simp
def rdS (t:List UInt8) (a:Nat) (bad:Bool):List UInt8 × Nat × Bool:=rdB t (rdN t a bad).2.1 (rdN t a bad).2.2 (rdN t a bad).1
def zsC (t:List UInt8) (a:Nat) (bad:Bool) (h:a<=t.length) (b:t.length<=1099511627776):zbM ⟨t,(a:Int),bad⟩=some ((rdS t a bad).1,⟨t,((rdS t a bad).2.1:Int),(rdS t a bad).2.2⟩):=by obtain ⟨c,d,_⟩:=zih t a bad h;unfold zbM rdS;rw[zqW t a bad h b];simp only[An];rw[zrW t _ _ _ d b c];rfl
theorem zgH (t:List UInt8) (a:Nat) (bad:Bool) (h:a<=t.length):(rdS t a bad).2.1<=t.length/\((rdS t a bad).2.2=false->bad=false/\a<(rdS t a bad).2.1):=by obtain ⟨c,b,d⟩:=zih t a bad h;obtain ⟨e,f,g⟩:=zqX t (rdN t a bad).2.1 (rdN t a bad).2.2 (rdN t a bad).1 b;unfold rdS;grind
def zc7 {x:List UInt8} (h:t.drop a=x++rest):t.drop (a+x.length)=rest:=by rw[<-List.drop_drop,h,Gf]
theorem ztX {n:Int} (h:t.drop a=varV n++rest) (b:0<=n/\n<=562949953421311):rdN t a false=(n,a+(varV n).length,false):=by unfold rdN;rw[h,zij n b rest];grind
theorem ztY {x:List UInt8} (h:t.drop a=pieceV x++rest) (e:x.length<=1048576) (f:a<=t.length):rdS t a false=(x,a+(pieceV x).length,false):=by
 have b:t.drop a=varV (x.length:Int)++(x++rest):=by rw[h];unfold pieceV;simp
 have c:=zc7 b;have hl:=congrArg De c;rw[Cr,Dd]at hl;unfold rdS;rw[ztX b (by omega)];unfold rdB;simp only[Eo,Bp];by_cases d:x.length=0
 ·have g:x= []:=Ea d;have i:=congrArg De b;grind
 ·rw[decide_eq_false (by omega)];simp only[cond_false];rw[c,List.take_left];simp only[pieceV,Dd,Nat.add_assoc]
theorem zmA (s:List UInt8): ∀(n a:Nat),a<=s.length->((l6V s n a).2= -1\/∃b:Nat,(l6V s n a).2=(b:Int)/\b<=s.length/\(l6V s n a).1.length=n)/\∀x∈(l6V s n a).1,0<=x/\x<=562949953421311
 | 0,a,h=>⟨.inr ⟨a,rfl,h,rfl⟩,λx c=>by trivial⟩
 | n+1,a,h=>by
   rw[l6V,decide_eq_false (by omega),cond_false];cases d:readN 7 (s.drop a) with
   | none=>exact ⟨.inl rfl,λx c=>by trivial⟩
   | some p=>obtain ⟨x,k⟩:=p;obtain ⟨f,g,e⟩:=zeJ d;rw[Cr]at e;obtain ⟨i,j⟩:=zmA s n (a+k) (by omega);grind
def ztO (s:List UInt8): ∀(l:List Int) (a:Nat) (rest:List UInt8),(∀x∈l,0<=x/\x<=1000000)->a<=s.length->s.drop a=l.flatMap varV++rest->l6V s l.length a=(l,((a+(l.flatMap varV).length:Nat):Int))
 | [],a,rest,_,_,_=>by rfl
 | x::l,a,rest,c,f,h=>by
   have b:s.drop a=varV x++(l.flatMap varV++rest):=by simp_all
   have d:=zc7 b;have g:=c x (by simp);have hl:=congrArg De b;rw[Cr,Dd]at hl;have e:a+(varV x).length<=s.length:=by omega
   rw[Df,l6V,decide_eq_false (by omega),cond_false,b,zij x (by omega)];simp only;rw[ztO s l (a+(varV x).length) rest (λy i=>c y (by simp_all)) e d];simp;omega
def zpB (s:List UInt8) (n:Int) (a:0<n):zbH s (-1) n=some ([],-1):=by unfold zbH;rw[zw];simp_all
def takeB (s:List UInt8) (a:Nat):List UInt8 × Int:=match readN 7 (s.drop a) with
 | none=>([],-1)
 | some (x,k)=>bif Dc (x<=s.length - (a+k)) then ((s.drop (a+k)).take x,((a+k+x:Nat):Int)) else ([],-1)
theorem znJ (s:List UInt8) (a:Nat) (h:a<=s.length):(takeB s a).2= -1\/∃b:Nat,(takeB s a).2=(b:Int)/\b<=s.length:=by
 unfold takeB;cases d:readN 7 (s.drop a) with
 | none=>exact .inl rfl
 | some p=>
   obtain ⟨x,k⟩:=p;obtain ⟨f,g,e⟩:=zeJ d;rw[Cr]at e;simp only;by_cases c:x<=s.length - (a+k)
   ·rw[decide_eq_true c];exact .inr ⟨a+k+x,rfl,by omega⟩
   ·grind
def zpA (s:List UInt8):zdN s (-1)=some ([],-1):=by unfold zdN;rw[zpB s 1 (by omega)];rfl
theorem zfK (s:List UInt8) (a:Nat) (h:a<=s.length) (hs:s.length<=1048576):zdN s (a:Int)=some (takeB s a):=by
 unfold zdN takeB;rw[show zbH s (a:Int) (1:Int)=some (l6V s 1 a) from zfL s a 1 (by omega) (by decide) (by omega)];simp only[An,l6V];rw[decide_eq_false (by omega: ¬s.length<a),cond_false];cases b:readN 7 (s.drop a) with
 | none=>rfl
 | some p=>
   obtain ⟨x,k⟩:=p;obtain ⟨f,g,d⟩:=zeJ b;rw[Cr]at d;simp only;rw[decide_eq_false (by omega)];have e:idx [(x:Int)] (0:Int)=some (x:Int):=rfl;simp only[Ba,if_false,e,An];rw[za (n:=(s.length:Int) - ((a+k:Nat):Int)) (by omega) (by omega)];by_cases c:x<=s.length - (a+k)
   ·rw[decide_eq_true c,decide_eq_false (by omega)];simp only[Ba,if_false,cond_true];rw[za (by omega) (by omega),show ((a+k:Nat):Int)+(x:Int)=((a+k+x:Nat):Int) by omega,zeA s (a+k) (a+k+x) (by omega) (by omega)];simp
   ·grind
def zmU {x:List UInt8} (h:s.drop a=pieceV x++rest) (c:x.length<=1048576) (d:a+(pieceV x).length<=s.length):takeB s a=(x,((a+(pieceV x).length:Nat):Int)):=by
 have b:s.drop a=varV (x.length:Int)++(x++rest):=by rw[h];unfold pieceV;simp
 have e:=zc7 b;have f:(pieceV x).length=(varV (x.length:Int)).length+x.length:=by unfold pieceV;simp
 unfold takeB;rw[b,zij (x.length:Int) (by omega)];simp only[Bp];rw[decide_eq_true (by omega)];simp_all;omega
def iand255 (p:Int):0<=iand .i64 p (255:Int)/\iand .i64 p (255:Int)<=255:=by
 unfold iand;have e:(Bh I6.bits p &&& Bh I6.bits (255:Int)).toNat<=255:=by show (Bh 64 p &&& Bh 64 ((255:Nat):Int)).toNat<=255;rw[Dy,Fs,Ej];exact Nat.and_le_right
 generalize (Bh I6.bits p &&& Bh I6.bits (255:Int)).toNat=z at e;rw[za (by omega) (by omega)];omega
def zwf (code:List UInt8) (h:code.length<=1048576): ∃q,zi3 code=some ⟨code,0,q⟩:=by
 unfold zi3;obtain ⟨r,a,q,rfl⟩:=zX (ρ:=Ctl Int Am) (s0:=(I6.wrap ((10101:Int)+(code.length:Int)),(0:Int))) (body:=λ(A:Int × Int)=>(if (Dc (A.2<(code.length:Int)))=true then (some (Dc (A.2<(4000:Int))))
 else (some false)).bind (λ(D:Bool)=>
 if D=true then ((idx code A.2).bind λB=>
 some (.go (iand .i64 (I6.wrap (I6.wrap (I6.wrap (A.1*(131:Int))+(I6.wrap ((B.toNat:Nat):Int)))+(7:Int))) (1073741823:Int),I6.wrap (A.2+(1:Int)))))
 else (some (.done (.go A.1))))) (λk S=>S.2=(k:Int)) code.length (λr=>∃q,r= .go q) rfl (by
  rintro k ⟨p,i⟩ b rfl;simp only;rw[decide_eq_true (by omega:(k:Int)<(code.length:Int))];by_cases c:(k:Int)<4000
  ·left;rw[decide_eq_true c];simp only[if_true,An,zb code k b];exact ⟨_,rfl,by simp only;rw[za (by omega) (by omega)];omega⟩
  ·right;rw[decide_eq_false c];exact ⟨.go p,rfl,p,rfl⟩) (by
  rintro ⟨p,i⟩ rfl;simp only;rw[decide_eq_false (by omega: ¬(code.length:Int)<(code.length:Int))];exact ⟨.go p,rfl,p,rfl⟩)
 rw[a];exact ⟨q,rfl⟩
def zgC (b:List UInt8) (i h:Int) (hi:0<=i/\i<=b.length) (d:b.length<=1048576): ∃x A a,zbT ⟨b,i,h⟩=some (x,⟨b,A,a⟩)/\(0<=x/\x<=255)/\(0<=A/\A<=b.length):=by
 unfold zbT;simp only;by_cases c:i<(b.length:Int)
 ·rw[decide_eq_true c];simp only[if_true];rw[zjS hi.1 c];simp only[An,zd];exact ⟨_,_,_,rfl,iand255 _,by rw[za (by omega) (by omega)];omega⟩
 ·rw[decide_eq_false c];simp only[Ba,if_false,zd];exact ⟨_,_,_,rfl,iand255 _,hi⟩
theorem zR (b:List UInt8) (i h n:Int) (hi:0<=i/\i<=b.length) (a:b.length<=1048576): ∃x M g,zB ⟨b,i,h⟩ n=some (x,⟨b,M,g⟩)/\(0<=x/\(0<n->x<n)/\(n<=0->x=0))/\(0<=M/\M<=b.length):=by
 unfold zB;by_cases c:n<=0
 ·rw[decide_eq_true c];grind
 ·rw[decide_eq_false c];have j:nz n=some ():=by unfold nz;rw[if_neg (by omega)]
  have k: ∀x:Int,0<=x->0<=Cv x n/\Cv x n<n:=λx l=>⟨Int.tmod_nonneg _ l,Int.tmod_lt_of_pos _ (by omega)⟩;obtain ⟨d,m,o,p,E,q⟩:=zgC b i h hi a;simp only[Ba,if_false,p,An,j];by_cases s:n<=256
  ·grind
  ·rw[decide_eq_false s];simp only[Ba,if_false];obtain ⟨e,t,u,v,F,w⟩:=zgC b m o q a;simp only[v,An];obtain ⟨f,y,z,A,G,B⟩:=zgC b t u w a;simp only[A,An];obtain ⟨C,H,I,D,J,K⟩:=zgC b y z B a;simp only[D,An];rw[za (n:=d*16777216) (by omega) (by omega),za (n:=e*65536) (by omega) (by omega),za (n:=d*16777216+e*65536) (by omega) (by omega),za (n:=f*256) (by omega) (by omega),za (n:=d*16777216+e*65536+f*256) (by omega) (by omega),za (by omega) (by omega)];have:=k (d*16777216+e*65536+f*256+C) (by omega);grind
theorem zcx (b:List UInt8) (i h n:Int) (hi:0<=i/\i<=b.length) (a:b.length<=1048576): ∃x A c,zbl ⟨b,i,h⟩ n=some (x,⟨b,A,c⟩)/\(0<=A/\A<=b.length):=by unfold zbl;obtain ⟨x,d,f,e,_,k⟩:=zR b i h n hi a;simp only[e,An];grind
theorem zdc (b:List UInt8) (i h:Int) (l:List Int) (hl:l≠[]) (hi:0<=i/\i<=b.length) (a:b.length<=1048576): ∃x A c,zbt ⟨b,i,h⟩ l=some (x,⟨b,A,c⟩)/\x∈l/\(0<=A/\A<=b.length):=by unfold zbt;have d:=Ff.2 hl;obtain ⟨x,f,j,e,g,k⟩:=zR b i h (l.length:Int) hi a;simp only[e,An];rw[zjS g.1 (g.2.1 (by omega))];grind
def zxe (code:List UInt8):zn5 code=some (Dc ((code.length:Int)>1048576)):=rfl
def zj6 (b:List UInt8) (i h most:Int) (J:0<=most/\most<=1000) (hi:0<=i/\i<=b.length) (f:b.length<=1048576): ∃s W v,zdM ⟨b,i,h⟩ most=some (s,⟨b,W,v⟩)/\s.length<=1000/\(0<=W/\W<=b.length):=by
 unfold zdM;obtain ⟨a,w,x,y,_,z⟩:=zR b i h 4 hi f;simp only[y,An];rw[za (n:=most+1) (by omega) (by omega)];obtain ⟨c,A,B,C,D,E⟩:=zR b w x (most+1) z f;simp only[C,An];have K:=D.2.1 (by omega);obtain ⟨r,F,p,q,s,rfl,j⟩:=zX (ρ:=Ctl (Int × Int × List UInt8) (List UInt8 × Am)) (s0:=(A,B,c,([]:List UInt8))) (body:=λ(O:Int × Int × Int × List UInt8)=>if (Dc (O.2.2.1>(0:Int)))=true then ((zbT (⟨b,O.1,O.2.1⟩:Am)).bind λN=>
 bindC (if (Dc (a=(1:Int)))=true then (some (.go (Cv N.1 (2:Int))))
 else (some (.go N.1)))
 (λ(M:Int)=>bindC (if (Dc (a=(2:Int)))=true then (some (.go (I6.wrap ((97:Int)+(Cv M (4:Int))))))
 else (some (.go M)))
 (λ(V:Int)=>(app 1 O.2.2.2 ([toU8 V])).bind λU=>
 some (.go (N.2.i,N.2.h,I6.wrap (O.2.2.1 - (1:Int)),U)))))
 else (some (.done (.go (O.1,O.2.1,O.2.2.2)))))
  (λk S=>(0<=S.1/\S.1<=b.length)/\S.2.2.1=c - (k:Int)/\S.2.2.2.length=k) c.toNat (λr=>∃p q s,r= .go (p,q,s)/\(s.length<=1000/\0<=p/\p<=b.length)) ⟨E,by simp,rfl⟩ (by
    rintro k ⟨p,q,m,s⟩ L ⟨d,e,g⟩;simp only at d e g;subst e;left;simp only;rw[if_pos (by simp only[decide_eq_true_eq];omega)];obtain ⟨l,o,u,G,_,H⟩:=zgC b p q d f;rw[G];simp only[An];have key: ∃t:Int,(bindC (if (Dc (a=(1:Int)))=true then (some (Ctl.go (Cv l (2:Int)))) else (some (Ctl.go l)))
     (λ(M:Int)=>bindC (if (Dc (a=(2:Int)))=true then (some (Ctl.go (I6.wrap ((97:Int)+(Cv M (4:Int)))))) else (some (Ctl.go M)))
 (λ(V:Int)=>(app 1 s ([toU8 V])).bind λU=>some (Ctl.go (ρ:=Ctl (Int × Int × List UInt8) (List UInt8 × Am)) (o,u,I6.wrap (c - (k:Int) - (1:Int)),U)))))=some (.go (o,u,I6.wrap (c - (k:Int) - (1:Int)),s++ [toU8 t])):=by
     cases Dc (a=1)<;>cases Dc (a=2)<;>simp only[Ba,if_false,if_true,zd]<;>rw[zg (by simp;omega) (by simp;omega)]<;>exact ⟨_,rfl⟩
    obtain ⟨t,I⟩:=key
    rw[I]
    exact ⟨_,rfl,H,by simp only;rw[za (by omega) (by omega)];omega,by simp;omega⟩) (by
    rintro ⟨p,q,m,s⟩ ⟨d,e,g⟩
    simp only at d e g
    subst e
    simp only
    rw[if_neg (by simp only[decide_eq_true_eq];omega)]
    exact ⟨_,rfl,p,q,s,rfl,by omega,d⟩)
 rw[F];exact ⟨s,p,q,rfl,j.1,j.2⟩
theorem zul (b:List UInt8) (i h:Int) (s:List UInt8) (hs:s.length<=1048576) (hi:0<=i/\i<=b.length) (a:b.length<=1048576): ∃t I x,zhw ⟨b,i,h⟩ s=some (t,⟨b,I,x⟩)/\t.length<=s.length+1000/\(0<=I/\I<=b.length):=by
 unfold zhw;by_cases F:s.length=0
 ·obtain ⟨t,g,j,k,l,m⟩:=zj6 b i h 3 (by omega) hi a;grind
 ·rw[decide_eq_false (by omega: ¬(s.length:Int)=0)];obtain ⟨o,g,j,k,l,m⟩:=zR b i h (s.length:Int) hi a;have G:=l.2.1 (by omega);obtain ⟨d,p,q,y,H,c⟩:=zR b g j 4 m a;simp only[Ba,if_false,k,y,An];obtain ⟨n,rfl⟩: ∃n:Nat,o=(n:Int):=⟨o.toNat,by omega⟩;have z:ssub s 0 (n:Int)=some (s.take n):=zeA s 0 n (by omega) (by omega);have A:ssub s (I6.wrap ((n:Int)+(1:Int))) (s.length:Int)=some (s.drop (n+1)):=by rw[za (by omega) (by omega)];exact zhV s (n+1) (by omega)
  have B:ssub s (n:Int) (s.length:Int)=some (s.drop n):=zhV s n (by omega);simp only[z,A,B,zcN s n (by omega),An];by_cases u:d=0
  ·rw[decide_eq_true u];simp only[if_true];rw[zbx (by simp;omega)];exact ⟨_,_,_,rfl,by simp;omega,c⟩
  ·rw[decide_eq_false u];simp only[Ba,if_false];by_cases v:d=1
   ·rw[decide_eq_true v];obtain ⟨C,D,E,e,_,f⟩:=zgC b p q c a;simp only[if_true,e,An];rw[zbx (by simp;omega)];simp only[An];rw[zbx (by simp;omega)];exact ⟨_,_,_,rfl,by simp;omega,f⟩
   ·rw[decide_eq_false v];simp only[Ba,if_false];by_cases w:d=2
    ·rw[decide_eq_true w];exact ⟨_,_,_,rfl,by simp;omega,c⟩
    ·rw[decide_eq_false w];obtain ⟨C,D,E,e,_,f⟩:=zR b p q 255 c a;simp only[Ba,if_false,e,An];rw[zbx (by simp;omega)];simp only[An];rw[zbx (by simp;omega)];exact ⟨_,_,_,rfl,by simp;omega,f⟩
theorem zvO (h:(tokR secret s).2.2=true):mintV secret (tokR secret s).1 (tokR secret s).2.1=s:=by
 unfold tokR at h |-
 grind
theorem zw8 {n o:Int} (a:mintOk secret n o=true) (h:List UInt8):tokR secret (varV n++varV o++h)=bif Dc (mintV secret n o=varV n++varV o++h) then (n,o,true) else (0,0,false):=by obtain ⟨b,c,d⟩:=zi0 a;unfold tokR;rw[Du,zij n (by omega)];simp only;rw[Gf,zij o (by omega)];grind
def zth (a b:List Int) (h:a.length<=1048576):zf6 a b=some (Dc (a=b)):=by unfold zf6;have:=zmb a b (λx y=>some (Dc (x=y))) (λ_ _ _ _=>rfl) (by omega);simp only[An]at this;exact this
def zbo {τ R:Type} {body:τ->Option (Ctl τ (Ctl ρ R))} {s0:τ} {f:ρ->Option R} (G:Option R->Prop) (I:Nat->τ->Prop) (n:Nat) (Q:Ctl ρ R->Prop) (a:I 0 s0) (h: ∀k s,k<n->I k s->(∃A,body s=some (.go A)/\I (k+1) A)\/(∃r,body s=some (.done r)/\Q r)) (b: ∀s,I n s->∃r,body s=some (.done r)/\Q r) (c: ∀r,Q r->G (bindC (some r) f)):G (bindC (loopO body s0) f):=by obtain ⟨r,d,e⟩:=zX I n Q a h b;simp_all
theorem zfc (b:List UInt8) (i h:Int) (l:List (List UInt8)) (hl:l≠[]) (hi:0<=i/\i<=b.length) (a:b.length<=1048576): ∃x A c,zb7 ⟨b,i,h⟩ l=some (x,⟨b,A,c⟩)/\x∈l/\(0<=A/\A<=b.length):=by unfold zb7;have d:=Ff.2 hl;obtain ⟨x,f,j,e,g,k⟩:=zR b i h (l.length:Int) hi a;simp only[e,An];rw[zjS g.1 (g.2.1 (by omega))];simp only[An];grind
theorem zwg (b:List UInt8) (i h:Int) (hi:0<=i/\i<=b.length) (a:b.length<=1048576): ∃x A c,zi4 ⟨b,i,h⟩=some (x,⟨b,A,c⟩)/\x.length<=3/\(0<=A/\A<=b.length):=by
 unfold zi4;obtain ⟨x,d,f,e,g,k⟩:=zfc b i h [[97],[98],[97,98],[97,98,99],[98,48],[99],[0],[122,122]] (by simp) hi a;simp only[e,An];have: ∀x∈([[97],[98],[97,98],[97,98,99],[98,48],[99],[0],[122,122]]:List (List UInt8)),x.length<=3:=by decide
 grind
theorem zf0 (s:Ad):sharesV s=true↔(0<=s.I/\s.I<=1000)/\s.r.length<=4/\(∀x∈s.r,(1<=x.s/\x.s<=99)/\(0<=x.S/\x.S<=1000))/\s.r.Pairwise (λa b=>a.s<b.s)/\allNeed s<=s.I:=by
 constructor
 ·intro c;have hl:=zq9 c;unfold sharesV at c;simp only[Bm,Bw,decide_eq_true_eq]at c;refine ⟨c.1,c.2.1,λx g=>?_,?_,c.2.2.2⟩
  ·obtain ⟨k,e,rfl⟩:=Bo g;have:=c.2.2.1 k (by simp_all);rw[zka s.r k e]at this;simp_all
  ·rw[Db];grind
 ·rintro ⟨h,i,j,f,l⟩;rw[Db]at f;unfold sharesV;rw[decide_eq_true h,decide_eq_true i,decide_eq_true l];simp only[Cj,El,Bw];intro k e;have d:k<s.r.length:=by simp_all
  obtain ⟨m,n⟩:=j _ (Cq d);rw[zka s.r k d,decide_eq_true m,decide_eq_true n];simp only[Cj];by_cases o:0<k
  ·rw[dif_pos o];exact decide_eq_true (f (k - 1) k (by omega) d (by omega))
  ·simp_all
end Go.Proofs.YtmenicbkddagmaaGreat
