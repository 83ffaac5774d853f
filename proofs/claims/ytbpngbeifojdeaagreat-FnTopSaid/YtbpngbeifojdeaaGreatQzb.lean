/-
  The plain laws: what the pure functions come to, and the statements. Conditions: none.
-/
import Derived.Test.YtbpngbeifojdeaaGreatQza
set_option linter.unusedVariables false
set_option linter.unusedSimpArgs false
set_option linter.defProp false
open Option renaming bind->Bd0
open Decidable renaming decide->Dc
open Option renaming bind_some->Rv,getD_some->Up,map_some->Vh,some_or->Wd
open Bool renaming false_eq_true->Rw,and_eq_true->Sg,not_true->Si,not_false->Te,or_eq_false_iff->Uo,true_and->Vp,false_or->Wk,or_self->Wp,not_eq_true'->Wq,and_self->Xb
open List renaming getElem_mem->Rx,length_singleton->Ry,drop_eq_getElem_cons->Sd,getElem_of_mem->Sf,pairwise_iff_getElem->So,mem_filter->Sp,length_nil->Ss,length_drop->Sw,mem_append->Sx,length_append->Sy,nil_append->Ta,append_nil->Td,length_cons->Tf,length_take->Tg,getElem?_eq_getElem->Th,length_filter_le->Tk,length->Tl,pairwise_cons->Tm,mem_cons->Tn,findIdx?_eq_some_iff_getElem->To,take_of_length_le->Tp,filter_eq_self->Tq,map_append->Tt,take_length->Tu,take_append_drop->Tv,mem_cons_of_mem->Tw,append_assoc->Ty,takeWhile_cons->Tz,mem_map_of_mem->Ua,drop_length->Ub,filter_cons->Uc,replicate->Ud,map_cons->Uf,mem_of_mem_take->Ug,mem_flatten->Uh,filter_append->Ui,filter_eq_nil_iff->Uj,length_map->Uk,range->Ul,pairwise_append->Un,getD_eq_getElem?_getD->Uq,ext_getElem->Ur,find?_eq_none->Ut,mem_map->Uu,foldl_append->Uv,all_eq_true->Ux,cons_append->Uy,map_take->Uz,getElem_set_self->Vc,map_drop->Vd,getElem_map->Ve,find?_eq_some_iff_getElem->Vf,mem_singleton->Vi,map_id->Vj,exists_mem_of_ne_nil->Vl,flatten_cons->Vn,getElem_append_right->Vo,mem_or_eq_of_mem_set->Vq,getElem_append_left->Vu,drop_of_length_le->Vy,foldl_cons->Vz,singleton_append->Wa,drop_drop->Wf,drop_zero->Wg,mem_of_mem_drop->Wh,take_set_of_le->Wj,filter_filter->Wm,getElem_of_eq->Wn,getElem_drop->Wt,getElem_set->Wu,length_set->Ww,filter_map->Wy,foldl_nil->Wz,map_set->Xg
open Int renaming toNat_natCast->Sa,le_refl->Um
open Nat renaming zero_le->Sm,le_refl->Tc,le_trans->Ue,le_succ->Us,lt_trichotomy->Uw,lt_succ_iff_lt_or_eq->Vr,mul_le_mul->Xa
open Option.some renaming injEq->Vm
open Prod.mk renaming injEq->Xd
open List.cons renaming inj->Xf
noncomputable section
namespace Go.Proofs.YtbpngbeifojdeaaGreat
open Go Sl
variable {n j a k:Nat} {e:Aa} {α R T β:Type} {s:Af} {key t:J3} {m:As} {l:List Op} {z:R} {seq s':Int} {o:Op} {ts:List Am} {d:Ba} {l':List Ac} {bad:Bool} {ls:List (Option α)} {L:List A9} {Q:T->Prop}
theorem zj8 (l:List (List Ac)) (h:l.length<=1048576) (A:totalV l<=1048576):zeW l=some (mergeR l):=by
 unfold zeW;have B: ∀e∈l,entsV e=false->mergeR l= []:=by
  intro e n p;have:l.all entsV=false:=by grind
  unfold mergeR mergeOk;grind
 have M:400<totalV l->mergeR l= []:=by intro N;unfold mergeR mergeOk;grind
 refine zbx (τ:=Int × List Ac) (ρ:=List Ac) (R:=List Ac) (λx=>x=some (mergeR l)) (λk s=>s=((k:Int),(l.take k).foldl mg [])/\∀e∈l.take k,entsV e=true) l.length
  (λr=>(r= .go (l.foldl mg [])/\∀e∈l,entsV e=true)\/(r= .done []/\mergeR l= [])) ⟨rfl,by simp⟩ ?_ ?_ ?_
 ·rintro k _ d ⟨rfl,p⟩;have w:l[k]∈l:=Rx d;have n:=zt2 w;have C:=zkW (l.take k) [];have O:=zkI l k d;have P:=znO l (k+1);rw[Ss,Nat.zero_add]at C;have Q:(l.take (k+1)).foldl mg []=mg ((l.take k).foldl mg []) l[k]:=by rw[zQ l k d,Uv];rfl
  generalize S:(l.take k).foldl mg []=acc at*;have D:Dc ((k:Int)<(l.length:Int))=true:=dT;simp only[D,iT,zb l k d,Rv,zg0 l[k] (by omega)];cases E:entsV l[k] with
  | false=>exact .inr ⟨_,rfl,.inr ⟨rfl,B _ w E⟩⟩
  | true=>
    by_cases T:l[k].length>400
    ·grind
    ·rw[dF];by_cases U:acc.length>400
     ·grind
     ·rw[dF];have F:app 48 ([]:List Ac) l[k]=some l[k]:=ze (by grind) (by grind);simp only[Si,Rw,iF,Rv,F];left;have V:ordE acc:=by have:=zi2 (l.take k) [] [] (λe n=>((zbj e).1 (p e n)).2) List.Pairwise.nil (λc=>rfl);simp_all
      have W: ∀e∈l.take (k+1),entsV e=true:=by intro e n;rw[zQ l k d]at n;grind
      have X: ∀(out:List Ac) (j:Nat),j<=l[k].length->out++l[k].drop j=mg acc l[k]->∃s',((piece l[k] (j:Int) (l[k].length:Int)).bind λE73=>(app 48 out E73).bind λE76=>some (Ctl.go (ρ:=Ctl (List Ac) (List Ac)) (J8 ((k:Int)+1),E76)))=some (.go s')/\s'=(((k+1:Nat):Int),(l.take (k+1)).foldl mg [])/\∀e∈l.take (k+1),entsV e=true:=by intro out j o f;have Y:=zy0 acc l[k];have G:=congrArg Tl f;rw[Sy,Sw]at G;rw[zT l[k] j l[k].length _ _ rfl rfl o (Tc _),Tp (by simp)];simp only[Rv];rw[ze (by grind) (by grind),f,za];simp_all
      generalize l[k]=e at*;refine zbx (τ:=Int × Int × List Ac) (ρ:=Int × List Ac) (R:=Ctl (Int × List Ac) (Ctl (List Ac) (List Ac))) (λx=>∃s',x=some (.go s')/\s'=(((k+1:Nat):Int),(l.take (k+1)).foldl mg [])/\∀e∈l.take (k+1),entsV e=true)
       (λi s=>∃(j:Nat) (out:List Ac),s=((j:Int),(i:Int),out)/\j<=e.length/\out++mg (acc.drop i) (e.drop j)=mg acc e/\out.length<=i+j) acc.length
       (λr=>∃(j:Nat) (out:List Ac),r= .go ((j:Int),out)/\j<=e.length/\out++e.drop j=mg acc e) ⟨0,[],rfl,by omega,by simp,by simp⟩ ?_ ?_ ?_
      ·rintro i _ hi ⟨j,out,rfl,o,f,y⟩;left;have H:Dc ((i:Int)<(acc.length:Int))=true:=dT;simp only[H,iT,zb acc i hi,Rv];rw[Sd hi,zA3]at f;refine zbx (τ:=Int × List Ac) (ρ:=Int × List Ac) (R:=Ctl (Int × Int × List Ac) (Ctl (Int × List Ac) (Ctl (Int × List Ac) (Ctl (List Ac) (List Ac)))))
        (λx=>∃s',x=some (.go s')/\∃(j:Nat) (out:List Ac),s'=((j:Int),((i+1:Nat):Int),out)/\j<=e.length/\out++mg (acc.drop (i+1)) (e.drop j)=mg acc e/\out.length<=i+1+j)
        (λt s=>∃(j':Nat) (out':List Ac),s=((j':Int),out')/\j'=j+t/\j'<=e.length/\out'++((e.drop j').takeWhile (λx=>entLt x acc[i])++acc[i]::mg (acc.drop (i+1)) (skp acc[i] ((e.drop j').dropWhile (λx=>entLt x acc[i]))))=mg acc e/\out'.length<=i+j') (e.length - j)
        (λr=>∃(j':Nat) (out':List Ac),r= .go ((j':Int),out')/\j'<=e.length/\out'++(acc[i]::mg (acc.drop (i+1)) (skp acc[i] (e.drop j')))=mg acc e/\out'.length<=i+j') ⟨j,out,rfl,rfl,o,f,y⟩ ?_ ?_ ?_
       ·rintro t _ A ⟨j',out',rfl,I,z,a,q⟩;have b:j'<e.length:=by omega
        have g:Dc ((j':Int)<(e.length:Int))=true:=dT;simp only[g,iT,zb e j' b,Rv,zej];rw[Sd b]at a;cases m:entLt e[j'] acc[i] with
        | true=>left;rw[(zm3 (λx=>entLt x acc[i]) _ _ m).1,(zm3 (λx=>entLt x acc[i]) _ _ m).2]at a;rw[iP rfl,ze (by grind) (by grind),za];grind
        | false=>right;rw[(zm2 (λx=>entLt x acc[i]) _ _ m).1,(zm2 (λx=>entLt x acc[i]) _ _ m).2,<-Sd b]at a;grind
       ·rintro _ ⟨j',out',rfl,I,z,a,q⟩;have g:Dc ((j':Int)<(e.length:Int))=false:=dF;simp only[g];refine ⟨_,rfl,j',out',rfl,by omega,?_,q⟩;simp_all
       ·rintro _ ⟨j',out',rfl,z,a,q⟩;rw[zd];have J:app 48 out' [acc[i]]=some (out'++ [acc[i]]):=ze (by grind) (by grind);have u:J8 ((i:Int)+1)=((i+1:Nat):Int):=by rw[za];omega
        have v:J8 ((j':Int)+1)=((j'+1:Nat):Int):=by rw[za];omega
        simp only[J,u,v,Rv,zej];have K: ∀r,(out'++ [acc[i]])++mg (acc.drop (i+1)) r=out'++(acc[i]::mg (acc.drop (i+1)) r):=λr=>by simp
        rcases Nat.lt_or_ge j' e.length with b | b
        ·have g:Dc ((j':Int)<(e.length:Int))=true:=dT;simp only[g,iT,zb e j' b,Rv];rw[Sd b]at a;have es:skp acc[i] (e[j']::e.drop (j'+1))=if entLt acc[i] e[j']=true then e[j']::e.drop (j'+1) else e.drop (j'+1):=rfl
         rw[es]at a;cases m:entLt acc[i] e[j'] with
         | true=>rw[m,iP rfl,<-Sd b]at a;exact ⟨_,rfl,j',out'++ [acc[i]],rfl,by omega,by simp_all,by grind⟩
         | false=>rw[m,iN (by simp)]at a;exact ⟨_,rfl,j'+1,out'++ [acc[i]],rfl,by omega,by simp_all,by grind⟩
        ·have g:Dc ((j':Int)<(e.length:Int))=false:=dF;simp only[g];refine ⟨_,rfl,j',out'++ [acc[i]],rfl,by omega,?_,by grind⟩;rw[K];rw[Vy b]at a |-
         trivial
      ·rintro _ ⟨j,out,rfl,o,f,y⟩;refine ⟨.go ((j:Int),out),?_,j,out,rfl,o,?_⟩
       ·simp
       ·rw[Ub,zBx]at f;exact f
      ·simp_all
 ·simp
 ·rintro _ (⟨rfl,p⟩ | ⟨rfl,Z⟩)
  ·rw[zd];refine zbx (τ:=Int × Int) (ρ:=Int) (R:=List Ac) (λx=>x=some (mergeR l)) (λk s=>s=((totalV (l.take k):Int),(k:Int))) l.length (λr=>r= .go (totalV l:Int)) rfl ?_ ?_ ?_
   ·rintro k _ d rfl;left;have L:=zkI l k d;have h2:=znO l (k+1);have u:J8 ((totalV (l.take k):Int)+(l[k].length:Int))=(totalV (l.take (k+1)):Int):=by rw[za];omega
    have v:J8 ((k:Int)+1)=((k+1:Nat):Int):=by rw[za];omega
    refine ⟨_,?_,rfl⟩;simp only[zb l k d,Rv,u,v];simp_all
   ·simp
   ·rintro _ rfl;rw[zd];by_cases L:totalV l<=400
    ·rw[iN (by grind)];unfold mergeR mergeOk;grind
    ·grind
  ·simp_all
def mergeC (e:Aa):List Ac:=finE true (keepT e.u (e.D.foldl mg []) 0 (e.D.foldl mg []).length)
def tab1 (c:List Ac):List (List Ac):=bif Dc (0<c.length) then [c] else []
def mergeS (e:Aa):Bool × Aa:=bif Dc (e.D.length=0) then (false,e) else (true,⟨e.G,tab1 (mergeC e),e.c,e.u⟩)
def mergeER (e:Aa):Aa × Bool:=bif engV e then ((mergeS e).2,(mergeS e).1) else (⟨[],[],0,[]⟩,false)
theorem zcB: ∀(t:List (List Ac)) (A:Int),tabsV seq A t=true->∀x∈t,entsV x=true/\∀y∈x,y.c<A/\y.c<=seq:=by
 intro t;induction t with
 | nil=>intro _ _ x b;simp at b
 | cons a t ih=>
   intro A h x b;simp only[tabsV,Sg,decide_eq_true_eq]at h;obtain ⟨⟨e,l,m,n⟩,f⟩:=h;have g:=(zh0 a (rangeV a).2).1 (Um _);rcases Tn.1 b with rfl | b
   ·grind
   ·obtain ⟨i,j⟩:=ih _ f x b;refine ⟨i,λy k=>?_⟩;have:=j y k;obtain ⟨z,d⟩:=Vl a e;have o:=g.2 z d;have p:=((zfc a (rangeV a).1).1 (Um _)).2 z d;omega
def zgI (h:engV e=true):entsV (e.D.foldl mg [])=true/\(e.D.foldl mg []).length<=totalV e.D/\∀x∈e.D.foldl mg [],∃t∈e.D,x∈t:=by
 obtain ⟨m,n,o,p,q,s,f,u⟩:=zJ h;have b:=zcB e.D _ f;obtain ⟨g,i⟩:=zi2 e.D [] [] (λt j=>((zbj t).1 (b t j).1).2) List.Pairwise.nil (λc=>rfl);have hl:=zkW e.D [];have d: ∀x∈e.D.foldl mg [],∃t∈e.D,x∈t:=λx a=>by have:=i.mem a;simp_all
 refine ⟨(zbj _).2 ⟨λx a=>?_,g⟩,by simp_all,d⟩;obtain ⟨t,k,l⟩:=d x a;exact ((zbj t).1 (b t k).1).1 x l
theorem zrm (h:engV e=true):(mergeC e).Sublist (e.D.foldl mg []):=by
 obtain ⟨d,f,g,i,j,k,m,n⟩:=zJ h;obtain ⟨a,o,_⟩:=zgI h;have b:=zm6 e.u true (l:=e.D.foldl mg []) (by omega) a;have c:compactR (e.D.foldl mg []) e.u true=mergeC e:=by unfold compactR mergeC;grind
 rw[<-c,b];exact (zu0 _ _).trans (zgf _ _ _)
def zk8 (h:engV e=true):entsV (mergeC e)=true/\(mergeC e).length<=totalV e.D/\∀x∈mergeC e,x.c<(rangeV e.G).1/\x.c<=e.c:=by obtain ⟨l,m,n,o,p,q,b,s⟩:=zJ h;obtain ⟨d,f,g⟩:=zgI h;have a:=zrm h;refine ⟨zjN a d,Ue a.length_le f,λx i=>?_⟩;obtain ⟨t,j,k⟩:=g x (a.mem i);exact (zcB e.D _ b t j).2 x k
def zvX (c:List Ac):(tab1 c).length<=1/\totalV (tab1 c)<=c.length/\∀t∈tab1 c,t=c:=by
 unfold tab1;by_cases a:0<c.length
 ·rw[dT a];exact ⟨Tc _,by simp[totalV],λt b=>by simp_all⟩
 ·rw[dF a];exact ⟨by simp,by simp[totalV],λt b=>by trivial⟩
theorem ztt (h:engV e=true):engV (mergeS e).2=true:=by
 unfold mergeS;by_cases c:e.D.length=0
 ·simp_all
 ·rw[dF c];obtain ⟨i,j,o,p,k,l,q,m⟩:=zJ h;obtain ⟨n,s,a⟩:=zk8 h;obtain ⟨t,t2,v⟩:=zvX (mergeC e);show engV ⟨e.G,tab1 (mergeC e),e.c,e.u⟩=true;unfold engV memV;simp only[Sg,decide_eq_true_eq];refine ⟨⟨i,j,by omega,by omega,k,l,?_⟩,m⟩;unfold tab1;by_cases b:0<(mergeC e).length
  ·rw[dT b];show tabsV _ _ [mergeC e]=true;obtain ⟨z,d⟩:=Vl (mergeC e) (by grind);have w:=a z d;have f:=((zbj _).1 n).1 z d;unfold entV at f;simp only[Sg,decide_eq_true_eq]at f;have y:(rangeV (mergeC e)).2<=(rangeV e.G).1 - 1:=(zh0 _ _).2 ⟨by omega,λx g=>by grind⟩;have A:(rangeV (mergeC e)).2<=e.c:=(zh0 _ _).2 ⟨by omega,λx g=>(a x g).2⟩;simp only[tabsV,Sg,decide_eq_true_eq];grind
  ·rw[dF b];rfl
def zj3 (h:engV e=true):zgy e=some (mergeS e):=by
 obtain ⟨i,j,k,l,m,n,a,o⟩:=zJ h;obtain ⟨p,q,s⟩:=zgI h;have b:=zcB e.D _ a;unfold zgy mergeS;by_cases c:e.D.length=0
 ·simp_all
 ·rw[iN (λd=>absurd (of_decide_eq_true d) (by omega)),dF c,ztu e.D (by omega) (by omega) (λt f=>((zbj t).1 (b t f).1).2)];simp only[Rv];rw[zpG _ e.u true (by omega) (by omega)];have g:finE true (keepT e.u (e.D.foldl mg []) 0 (e.D.foldl mg []).length)=mergeC e:=rfl;rw[g];generalize mergeC e=x;unfold tab1;by_cases v:0<x.length
  ·simp_all
  ·simp_all
def zce (h:engV e=true):e.G.length<=1048576/\e.D.length<=1048576/\totalV e.D<=1048576/\e.u.length<=1048576/\∀t∈e.D,t.length<=1048576:=by obtain ⟨b,c,d,f,g,i,j,k⟩:=zJ h;exact ⟨by omega,by omega,by omega,by omega,λt a=>by have:=zt2 a;omega⟩
theorem zqB (e:Aa) (g:e.G.length<=1048576) (b:e.D.length<=1048576) (h:totalV e.D<=1048576) (d:e.u.length<=1048576):zhq e=some (mergeER e):=by
 unfold zhq mergeER;rw[zcb e g b h d];cases a:engV e with
 | false=>rfl
 | true=>
   obtain ⟨m,n,o,p,q,s,i,t⟩:=zJ a;obtain ⟨v,w,y⟩:=zgI a;obtain ⟨_,_,_,_,j⟩:=zce a;have z:=zcB e.D _ i;simp only[Rv,Si,Rw,iF,zcy e g b j d,cT];unfold mergeS;by_cases c:e.D.length=0
   ·simp_all
   ·have A:mergeR e.D=e.D.foldl mg []:=by unfold mergeR mergeOk;grind
    have f:compactR (e.D.foldl mg []) e.u true=mergeC e:=by unfold compactR mergeC;grind
    rw[iN (λk=>absurd (of_decide_eq_true k) (by omega)),dF c,zj8 e.D b h,A];simp only[Rv];rw[zoj _ e.u true (by omega) d,f];simp only[Rv];have l:=(zk8 a).2.1;generalize mergeC e=x at l;unfold tab1;by_cases f:0<x.length
    ·rw[iP (dT),dT f,ze (by simp) (by simp)];rfl
    ·simp_all
theorem zfb (h:engV e=true):engV (flushS e).2=true:=by
 by_cases c:e.G.length=0\/6<=e.D.length
 ·rw[zde c];exact h
 ·rw[zfg c];obtain ⟨a,b,k,l,d,f,g,i⟩:=zJ h;have j:e.G≠[]:=by simp_all
  have m:totalV (e.G::e.D)=e.G.length+totalV e.D:=by rfl
  unfold engV memV;simp only[Sg,decide_eq_true_eq,tabsV];refine ⟨⟨a,b,by grind,by grind,⟨by simp,rfl⟩,by show (-1:Int)<=e.c;omega,⟨⟨j,d.2,by show (rangeV e.G).2<1000001;omega,f⟩,g⟩⟩,i⟩
def zkk (e:Aa):(flushS e).2.c=e.c/\(flushS e).2.u=e.u:=by
 by_cases c:e.G.length=0\/6<=e.D.length
 ·rw[zde c];exact ⟨rfl,rfl⟩
 ·rw[zfg c];exact ⟨rfl,rfl⟩
theorem znw (e:Aa):(mergeS e).2.G=e.G/\(mergeS e).2.c=e.c/\(mergeS e).2.u=e.u:=by unfold mergeS;grind
def allR (e:Aa):List Ac:=(e.G::e.D).foldl mg []
def zyG {L:List (List Ac)} (h: ∀t∈L,entsV t=true):entsV (L.foldl mg [])=true/\(L.foldl mg []).length<=totalV L/\∀x∈L.foldl mg [],∃t∈L,x∈t:=by
 obtain ⟨d,e⟩:=zi2 L [] [] (λt f=>((zbj t).1 (h t f)).2) List.Pairwise.nil (λc=>rfl);have hl:=zkW L [];have b: ∀x∈L.foldl mg [],∃t∈L,x∈t:=λx a=>by have:=e.mem a;simp_all
 refine ⟨(zbj _).2 ⟨λx a=>?_,d⟩,by simp_all,b⟩;obtain ⟨t,g,i⟩:=b x a;exact ((zbj t).1 (h t g)).1 x i
def zm5 (h:engV e=true):(∀t∈e.G::e.D,entsV t=true)/\totalV (e.G::e.D)<=400/\(e.G::e.D).length<=7:=by
 obtain ⟨c,d,f,g,i,j,b,k⟩:=zJ h;refine ⟨λt a=>?_,?_,by simp_all⟩
 ·rcases Tn.1 a with rfl | a
  ·simp_all
  ·exact (zcB e.D _ b t a).1
 ·have:totalV (e.G::e.D)=e.G.length+totalV e.D:=by rfl
  omega
def zfd (h:engV e=true):entsV (allR e)=true/\(allR e).length<=400:=by obtain ⟨a,b,f⟩:=zm5 h;obtain ⟨c,d,_⟩:=zyG a;exact ⟨c,Ue d b⟩
theorem zq2 (h:engV e=true):zox e=some (allR e):=by obtain ⟨a,d,f⟩:=zm5 h;unfold zox;have b:app 24 [e.G] e.D=some (e.G::e.D):=ze (l:=[e.G]) (by grind) (by grind);rw[b];simp only[Rv];rw[ztu _ (by omega) (by omega) (λt c=>((zbj t).1 (a t c)).2)];rfl
theorem zmR (h:engV e=true):zhh e=some (allR e):=by
 obtain ⟨b,c,d⟩:=zm5 h;unfold zhh;have a:app 24 [e.G] e.D=some (e.G::e.D):=ze (l:=[e.G]) (by grind) (by grind);rw[a];simp only[Rv];rw[zj8 _ (by omega) (by omega)];have A:mergeR (e.G::e.D)=allR e:=by unfold mergeR mergeOk allR;grind
 simp_all
def getE (l:List Ac) (key:J3) (seq:Int):Ac × Bool:=match l.find? (λd=>decide (d.q=key)&&Dc (d.c<=seq)) with | some d=>(d,true) | none=>(⟨[],0,false,[]⟩,false)
theorem zwg (l:List Ac) (key:J3) (seq:Int) (h:l.length<=1048576):znj l key seq=some (getE l key seq):=by
 unfold znj getE;generalize j:(λd:Ac=>decide (d.q=key)&&Dc (d.c<=seq))=p;refine zbx (τ:=Int) (ρ:=Unit) (R:=Ac × Bool) (λx=>x=some (match l.find? p with | some d=>(d,true) | none=>(⟨[],0,false,[]⟩,false))) (λk s=>s=(k:Int)/\l.find? p=(l.drop k).find? p) l.length
  (λr=>(∃d,l.find? p=some d/\r= .done (d,true))\/(l.find? p=none/\r= .go ())) ⟨rfl,rfl⟩ ?_ ?_ ?_
 ·rintro k _ b ⟨rfl,a⟩;rw[Sd b,List.find?_cons]at a;have f:Dc ((k:Int)<(l.length:Int))=true:=dT;simp only[f,iT,zb l k b,Rv];have g:(if Dc (l[k].q=key) then (some (Dc (l[k].c<=seq))) else (some false))=some (p l[k]):=by grind
  rw[g];cases i:p l[k] with
  | true=>simp_all
  | false=>rw[i]at a;refine .inl ⟨_,rfl,?_,a⟩;rw[za];omega
 ·simp
 ·rintro _ (⟨d,e,rfl⟩ | ⟨e,rfl⟩)
  ·simp_all
  ·rw[e];rfl
def zvS (l:List Ac) (key:J3) (seq:Int) (h:l.length<=1048576):zek l key seq=some (getE l key seq):=zjY l key seq h
def valE (x:Ac × Bool):J3 × Bool:=if x.2=true/\x.1.T=false then (x.1.Q,true) else ([],false)
def getR (e:Aa) (key:J3) (seq:Int):J3 × Bool:=bif engV e then valE (getE (allR e) key seq) else ([],false)
theorem zxj (x:Ac × Bool):((if !x.2 then (some true) else (some x.1.T)).bind (λ(h:Bool)=>if h=true then (some (([]:J3),false)) else (some (x.1.Q,true))))=some (valE x):=by unfold valE;grind
def zsK (e:Aa) (key:J3) (seq:Int) (b:e.G.length<=1048576) (c:e.D.length<=1048576) (d:totalV e.D<=1048576) (f:e.u.length<=1048576):zjs e key seq=some (getR e key seq):=by
 unfold zjs getR;rw[zcb e b c d f];cases a:engV e with
 | false=>rfl
 | true=>have hl:=(zfd a).2;simp only[Rv,Si,Rw,iF,cT];rw[zmR a];simp only[Rv];rw[zvS _ key seq (by omega)];simp only[Rv];rw[zxj]
def mapR (e:Aa) (seq:Int):List KV:=bif engV e then visL (allR e) seq (allR e).length else []
def zk6 (e:Aa) (seq:Int):(mapR e seq).length<=400:=by
 unfold mapR;cases a:engV e with
 | false=>simp
 | true=>exact Ue (zqP _ seq _ (Tc _)) (zfd a).2
def zje (e:Aa) (seq:Int) (b:e.G.length<=1048576) (c:e.D.length<=1048576) (d:totalV e.D<=1048576) (f:e.u.length<=1048576):zfJ e seq=some (mapR e seq):=by
 unfold zfJ mapR;rw[zcb e b c d f];cases a:engV e with
 | false=>rfl
 | true=>obtain ⟨h,hl⟩:=zfd a;rw[zmR a];simp only[Rv];rw[zuE _ seq h (by omega)];rfl
def opB (o:Op):J3:=(if o.T=true then [1] else [0])++pieceV o.q++(if o.T=true then [] else pieceV o.Q)
def showB (l:List Op):J3:=varV (l.length:Int)++l.flatMap opB
def shownB (l:List Op):J3:=bif batchV l then showB l else []
theorem zi9 (h:opV o=true):(1<=o.q.length/\o.q.length<=10)/\o.Q.length<=16/\(o.T=true->o.Q= []):=by unfold opV at h;grind
def zbF (h:batchV l=true):(1<=l.length/\l.length<=6)/\∀o∈l,opV o=true:=by unfold batchV at h;simp_all
theorem zsB (h:opV o=true):(opB o).length<=41:=by obtain ⟨a,b,_⟩:=zi9 h;have c:=zgJ o.q;have d:=zgJ o.Q;unfold opB;grind
theorem zjH (h:batchV l=true):(showB l).length<=253:=by obtain ⟨c,a⟩:=zbF h;have d:=zqc opB 41 l λo b=>zsB (a o b);have e:=zc9 (l.length:Int);unfold showB;grind
theorem zhc (l:List Op) (h:l.length<=1048576):ze1 l=some (shownB l):=by
 unfold ze1 shownB;rw[zc4 l h];cases d:batchV l with
 | false=>rfl
 | true=>
   obtain ⟨f,b⟩:=zbF d;have g:=zc9 (l.length:Int);simp only[Rv,Si,Rw,iF,cT,zju];rw[zcS (I:=λk S=>S=(varV (l.length:Int)++(l.take k).flatMap opB,(k:Int))) l.length (.go (showB l)) (by simp) ?_ ?_]
   ·rfl
   ·rintro k _ a rfl;left;have hl:=znT opB 41 l k λo e=>zsB (b o e);obtain ⟨i,j,_⟩:=zi9 (b _ (Rx a));have m:=zgJ l[k].q;have p:=zgJ l[k].Q;simp only[zb l k a,Rv,zl3 l[k].q (by omega),zl3 l[k].Q (by omega),zth opB l k a];rw[iP,za (n:=(k:Int)+1)];cases c:l[k].T with
    | true=>rw[zbZ (by grind)];simp only[Rv];rw[zbZ (by grind)];refine ⟨_,rfl,?_⟩;simp only[opB,c,iT,Td,Ty];rfl
    | false=>simp only[Rw,iF];rw[zbZ (by grind)];simp only[Rv];rw[zbZ (by grind)];simp only[Rv];rw[zbZ (by grind)];refine ⟨_,rfl,?_⟩;simp only[opB,c,Rw,iF,Ty];rfl
   ·rintro _ rfl;rw[iN (by simp),Tu];rfl
def zqx (h:batchV l=true):showB l≠[]:=by obtain ⟨a,_⟩:=zbF h;unfold showB;have:=zBm (n:=(l.length:Int)) (by omega);simp_all
theorem zpC (l:List Op) (h:l.length<=1048576):zgC l=some (shownB l):=by
 unfold zgC shownB;rw[zd0 l h];cases b:batchV l with
 | false=>rfl
 | true=>
   obtain ⟨f,c⟩:=zbF b;have g:=zc9 (l.length:Int);simp only[Rv,Si,Rw,iF,cT,zma];rw[ze (by grind) (by grind)];simp only[Rv,Ta];rw[zcS (I:=λk S=>S=((k:Int),varV (l.length:Int)++(l.take k).flatMap opB)) l.length (.go (showB l)) (by simp) ?_ ?_]
   ·simp only[bindC,Rv];unfold strOf;rw[iN (zqx b)];rfl
   ·rintro k _ a rfl;left;have hl:=znT opB 41 l k λo e=>zsB (c o e);obtain ⟨i,j,_⟩:=zi9 (c _ (Rx a));have m:=zgJ l[k].q;have p:=zgJ l[k].Q;simp only[zb l k a,Rv,znZ l[k].q (by omega),znZ l[k].Q (by omega),zth opB l k a];rw[iP,za (n:=(k:Int)+1)];unfold zoE;cases d:l[k].T with
    | true=>simp only[iT,Rv];rw[zbZ (by grind)];simp only[Rv];rw[ze (by grind) (by grind)];refine ⟨_,rfl,?_⟩;simp only[opB,d,iT,Td,Ty];rfl
    | false=>simp only[Rw,iF,Rv];rw[zbZ (by grind)];simp only[Rv];rw[ze (by grind) (by grind)];simp only[Rv,Te,iT];rw[ze (by grind) (by grind)];refine ⟨_,rfl,?_⟩;simp only[opB,d,Rw,iF,Ty];rfl
   ·rintro _ rfl;rw[iN (by simp),Tu];rfl
def placeV (boot seq:Int):Bool:=Dc (0<=boot/\boot<=1000)&&Dc (0<=seq/\seq<=999999)
theorem zpa (boot seq:Int):zjJ boot seq=some (placeV boot seq):=by unfold zjJ placeV;simp only[zW,Rv];grind
theorem zlI (boot seq:Int):zgc boot seq=some (placeV boot seq):=by unfold zgc placeV;simp only[zY,Rv];grind
def placeN (boot seq:Int):J3:=nonceV 3 (J8 (J8 (boot*1000000)+seq))
def sealB (key:J3) (boot seq:Int) (l:List Op):J3:=bif batchV l&&(Dc (key.length=32)&&placeV boot seq) then streamV key 0 (placeN boot seq) (showB l) else []
def len32 (key:J3):Dc ((key.length:Int)=32)=Dc (key.length=32):=decide_eq_decide.2 (by omega)
def ztU (l:List Op):(shownB l).length<=253:=by
 unfold shownB;cases h:batchV l with
 | true=>exact zjH h
 | false=>exact Sm _
theorem zkb (key:J3) (boot seq:Int) (l:List Op) (h:l.length<=1048576):zeZ key boot seq l=some (sealB key boot seq l):=by unfold zeZ sealB;have hs:=ztU l;simp only[zc4 l h,zpa,ziK,zhc l h,len32,Rv,zj7 key 0 _ (shownB l) (by omega)];unfold shownB placeN;grind
theorem zj5 (key:J3) (boot seq:Int) (l:List Op) (h:l.length<=1048576):zgB key boot seq l=some (sealB key boot seq l):=by unfold zgB sealB zfw;have hs:=ztU l;simp only[zd0 l h,zlI,zie,zpC l h,len32,Rv,zj2 key 0 _ (shownB l) (by omega)];unfold shownB placeN;grind
def rdF (t:J3) (a:Nat) (bad:Bool):Bool × Nat × Bool:=(Dc ((rdB t a bad 1).1= [1]),(rdB t a bad 1).2.1,(!Dc ((rdB t a bad 1).1= [0])&& !Dc ((rdB t a bad 1).1= [1]))||(rdB t a bad 1).2.2)
def zAU (t:J3) (a:Nat) (bad:Bool) (h:a<=t.length) (b:t.length<=1099511627776):zdy ⟨t,(a:Int),bad⟩=some ((rdF t a bad).1,⟨t,((rdF t a bad).2.1:Int),(rdF t a bad).2.2⟩):=by unfold zdy rdF;rw[zuN t a bad 1 h b (by omega)];simp only[Rv];cases Dc ((rdB t a bad 1).1= [0])<;>cases Dc ((rdB t a bad 1).1= [1])<;>rfl
def zoZ (t:J3) (a:Nat) (bad:Bool) (h:a<=t.length):(rdF t a bad).2.1<=t.length/\a<=(rdF t a bad).2.1/\((rdF t a bad).2.2=false->bad=false):=by obtain ⟨b,c,d⟩:=ztI t a bad 1 h;refine ⟨b,c,λe=>d ?_⟩;unfold rdF at e;simp_all
def rdO (t:J3) (a:Nat):Op × Nat × Bool:=
 if (rdF t a false).1=true then (⟨(rdS t (rdF t a false).2.1 (rdF t a false).2.2).1,true,[]⟩,(rdS t (rdF t a false).2.1 (rdF t a false).2.2).2)
 else (⟨(rdS t (rdF t a false).2.1 (rdF t a false).2.2).1,false,(rdS t (rdS t (rdF t a false).2.1 (rdF t a false).2.2).2.1 (rdS t (rdF t a false).2.1 (rdF t a false).2.2).2.2).1⟩,
  (rdS t (rdS t (rdF t a false).2.1 (rdF t a false).2.2).2.1 (rdS t (rdF t a false).2.1 (rdF t a false).2.2).2.2).2)
theorem ztM (t:J3) (a:Nat) (h:a<=t.length):(rdO t a).2.1<=t.length:=by obtain ⟨b,_,_⟩:=zoZ t a false h;obtain ⟨c,_⟩:=zh1 t (rdF t a false).2.1 (rdF t a false).2.2 b;obtain ⟨d,_⟩:=zh1 t (rdS t (rdF t a false).2.1 (rdF t a false).2.2).2.1 (rdS t (rdF t a false).2.1 (rdF t a false).2.2).2.2 c;unfold rdO;grind
def opsI (t:J3):Nat->Nat->Bool->List Op->Nat × Bool × List Op
 | 0,a,bad,out=>(a,bad,out)
 | f+1,a,bad,out=>bif bad then (a,bad,out) else opsI t f (rdO t a).2.1 (rdO t a).2.2 (out++ [(rdO t a).1])
def opsR (t:J3):Nat × Bool × List Op:=opsI t (goMin (rdN t 0 false).1 6).toNat (rdN t 0 false).2.1 (rdN t 0 false).2.2 []
def readB (t:J3):List Op × Bool:=
 bif (!(opsR t).2.1&&Dc ((opsR t).1=t.length))&&(Dc (((opsR t).2.2.length:Int)=(rdN t 0 false).1)&&batchV (opsR t).2.2) then ((opsR t).2.2,true) else ([],false)
theorem zrr (t:J3): ∀(f a:Nat) (bad:Bool) (A:List Op),a<=t.length->(opsI t f a bad A).1<=t.length/\(opsI t f a bad A).2.2.length<=A.length+f
 | 0,a,bad,A,h=>⟨h,Tc _⟩
 | f+1,a,true,A,h=>⟨h,by simp[opsI]⟩
 | f+1,a,false,A,h=>by obtain ⟨b,c⟩:=zrr t f (rdO t a).2.1 (rdO t a).2.2 (A++ [(rdO t a).1]) (ztM t a h);refine ⟨b,?_⟩;simp only[opsI,cF];grind
def zpB (t:J3) (o:t.length<=1048576):zgA t=some (readB t):=by
 unfold zgA readB;obtain ⟨p,d,_⟩:=zjD t 0 false (Sm _);rw[show zbn ⟨t,0,false⟩=_ from ztB t 0 false (Sm _) (by omega)];simp only[Rv];have h: ∀(f a i:Nat) (bad:Bool) (A:List Op),a<=t.length->(i:Int)+(f:Int)=goMin (rdN t 0 false).1 6->i+f<=6->A.length<=i->
  loopO (ρ:=Ctl (J3 × Int × Bool × List Op) (List Op × Bool)) (λ(D:J3 × Int × Bool × Int × List Op)=>Bd0 (if Dc (D.2.2.2.1<goMin (rdN t 0 false).1 (6:Int))then some (!D.2.2.1)else some false) (λ(J:Bool)=>if J=true then Bd0 (zdy (⟨D.1,D.2.1,D.2.2.1⟩:Bh)) λG=>Bd0 (zb1 G.2) λB=>bindC (if !G.1 then Bd0 (zb1 B.2) λE=>some (.go (E.2.text,E.2.at_,E.2.bad,E.1))else some (.go (B.2.text,B.2.at_,B.2.bad,[]))) (λ(F:J3 × Int × Bool × J3)=>Bd0 (app 40 D.2.2.2.2 ([(⟨B.1,G.1,F.2.2.2⟩:Op)])) λI=>some (.go (F.1,F.2.1,F.2.2.1,J8 (D.2.2.2.1+1),I)))else some (.done (.go (D.1,D.2.1,D.2.2.1,D.2.2.2.2)))))
   (t,(a:Int),bad,(i:Int),A)=some (.go (t,((opsI t f a bad A).1:Int),(opsI t f a bad A).2.1,(opsI t f a bad A).2.2)):=by
  intro f
  induction f with
  | zero=>intro a i bad A b hi j k;rw[zE];simp only[dF (by omega: ¬(i:Int)<goMin (rdN t 0 false).1 6),Rw,iF,Rv];rfl
  | succ f ih=>
    intro a i bad A b hi j k;rw[zE];simp only[dT (by omega:(i:Int)<goMin (rdN t 0 false).1 6),iT,Rv];cases bad with
    | true=>simp only[Si,Rw,iF];rfl
    | false=>
      obtain ⟨g,_,_⟩:=zoZ t a false b;obtain ⟨c,_⟩:=zh1 t (rdF t a false).2.1 (rdF t a false).2.2 g;obtain ⟨l,_⟩:=zh1 t (rdS t (rdF t a false).2.1 (rdF t a false).2.2).2.1 (rdS t (rdF t a false).2.1 (rdF t a false).2.2).2.2 c;simp only[Te,iT,zAU t a false b (by omega),Rv,zvE t _ _ g (by omega),zvE t _ _ c (by omega)];rw[opsI];unfold rdO;cases q:(rdF t a false).1 with
      | true=>simp only[Si,Rw,iF,iT,zd];rw[ze (by simp;omega) (by simp;omega),za (n:=(i:Int)+1)];exact ih _ (i+1) _ _ c (by omega) (by omega) (by simp;omega)
      | false=>simp only[Te,Rw,iF,iT,zd];rw[ze (by simp;omega) (by simp;omega),za (n:=(i:Int)+1)];exact ih _ (i+1) _ _ l (by omega) (by omega) (by simp;omega)
 have s:0<=goMin (rdN t 0 false).1 6/\goMin (rdN t 0 false).1 6<=6:=by unfold goMin;split<;>omega
 have hl:=h (goMin (rdN t 0 false).1 6).toNat (rdN t 0 false).2.1 0 (rdN t 0 false).2.2 [] d (by omega) (by omega) (by simp);rw[show ((0:Nat):Int)=0 from rfl]at hl;rw[hl];have e:opsI t (goMin (rdN t 0 false).1 6).toNat (rdN t 0 false).2.1 (rdN t 0 false).2.2 []=opsR t:=rfl;rw[e];obtain ⟨r1,r2⟩:=zrr t (goMin (rdN t 0 false).1 6).toNat (rdN t 0 false).2.1 (rdN t 0 false).2.2 [] d;rw[e]at r1 r2;unfold zdx;have m:Dc ((((opsR t).1:Nat):Int)=(t.length:Int))=Dc ((opsR t).1=t.length):=decide_eq_decide.2 (by omega);simp only[zd,m,zd0 (opsR t).2.2 (by simp only[Ss]at r2;omega),Rv];cases (opsR t).2.1<;>cases Dc ((opsR t).1=t.length)<;>cases Dc (((opsR t).2.2.length:Int)=(rdN t 0 false).1)<;>cases batchV (opsR t).2.2<;>rfl
theorem zBa {rest:J3} {b:Bool} (h:t.drop a=(if b=true then [1] else [0])++rest):rdF t a false=(b,a+1,false):=by
 have hl:a+1<=t.length:=by have:=congrArg Tl h;grind
 unfold rdF rdB;rw[dF (show ¬t.length<a+(1:Int).toNat from by omega),h];cases b<;>rfl
theorem zBb {rest:J3} (f:opV o=true) (h:t.drop a=opB o++rest):rdO t a=(o,a+(opB o).length,false):=by
 obtain ⟨m,n,g⟩:=zi9 f;have b:t.drop a=(if o.T=true then [1] else [0])++(pieceV o.q++((if o.T=true then [] else pieceV o.Q)++rest)):=by rw[h];unfold opB;simp
 have e:=congrArg Tl b;rw[Sw]at e;simp only[Sy]at e;have i:(if o.T=true then [1] else [0]:J3).length=1:=by grind
 have j:a+1+(pieceV o.q).length<=t.length:=by omega
 have c:=zem b;rw[i]at c;have l:=zem c;unfold rdO;rw[zBa b];rw[zw7 c (by omega) (by omega)];obtain ⟨k,d,v⟩:=o;cases d with
 | true=>have:v= []:=g rfl;subst this;simp[opB];omega
 | false=>rw[zw7 l (by grind) j];simp[opB];omega
theorem zvu (t:J3): ∀(l:List Op) (a:Nat) (h:List Op) (rest:J3),(∀o∈l,opV o=true)->t.drop a=l.flatMap opB++rest->opsI t l.length a false h=(a+(l.flatMap opB).length,false,h++l)
 | [],a,h,rest,_,_=>by simp[opsI]
 | o::l,a,h,rest,b,d=>by
   have c:t.drop a=opB o++(l.flatMap opB++rest):=by simp_all
   rw[Tf,opsI,zBb (b o (by simp)) c];simp only[cF];rw[zvu t l (a+(opB o).length) (h++ [o]) rest (λy e=>b y (by simp_all)) (zem c)];grind
def zrx (h:batchV l=true):readB (showB l)=(l,true):=by
 obtain ⟨f,b⟩:=zbF h;have a:(showB l).drop 0=varV (l.length:Int)++(l.flatMap opB++ []):=by simp[showB]
 have c:=zem a;have d:=zw6 a (by omega);have e:goMin (l.length:Int) 6=(l.length:Int):=by unfold goMin;omega
 have g:opsR (showB l)=((showB l).length,false,l):=by unfold opsR;rw[d];simp only[e,Sa];rw[zvu (showB l) l _ [] [] b c];simp_all
 unfold readB;simp_all
def openB (key:J3) (boot seq:Int) (s:J3):List Op × Bool:=bif Dc (key.length=32)&&(placeV boot seq&&Dc (s.length<=300)) then readB (streamV key 0 (placeN boot seq) s) else ([],false)
def zp0 (key:J3) (counter:Int) (nonce text:J3):(streamV key counter nonce text).length<=text.length:=by
 unfold streamV;cases streamOk key counter nonce text.length with
 | true=>exact Nat.le_of_eq (zcd _ _ _ _)
 | false=>exact Sm _
theorem zpA (key:J3) (boot seq:Int) (s:J3) (h:s.length<=1048576):zeH key boot seq s=some (openB key boot seq s):=by
 unfold zeH openB zfw;have hs:=zp0 key 0 (placeN boot seq) s;have a:Dc ((s.length:Int)>300)= !Dc (s.length<=300):=by grind
 simp only[zlI,zie,len32,Rv,zj2 key 0 _ s (by omega),a];have b:=zpB (streamV key 0 (placeN boot seq) s) (by omega);unfold placeN at b;unfold placeN;grind
def zrq {boot:Int} (h:sealB key boot seq l≠[]):openB key boot seq (sealB key boot seq l)=(l,true)/\(sealB key boot seq l).length=(showB l).length/\batchV l=true/\key.length=32/\placeV boot seq=true/\sealB key boot seq l=streamV key 0 (placeN boot seq) (showB l):=by
 unfold sealB at h |-
 cases a:batchV l with
 | false=>rw[a]at h;exact absurd rfl h
 | true=>
   cases b:Dc (key.length=32) with
   | false=>rw[a,b]at h;exact absurd rfl h
   | true=>
     cases c:placeV boot seq with
     | false=>rw[a,b,c]at h;exact absurd rfl h
     | true=>
       rw[a,b,c]at h;simp only[Xb,cT]at h |-
       obtain ⟨d,e⟩:=zwy h;have hl:=zjH a;refine ⟨?_,d,trivial,of_decide_eq_true b,trivial,trivial⟩;unfold openB;rw[b,c,dT,e];exact zrx a
def seeE (l:List Ac) (key:J3) (seq:Int):Option Ac:=l.find? λd=>decide (d.q=key)&&Dc (d.c<=seq)
def valO:Option Ac->Option J3
 | some e=>bif e.T then none else some e.Q
 | none=>none
theorem ztT (e:Ac) (r:List Ac) (key:J3) (seq:Int):seeE (e::r) key seq=if e.q=key/\e.c<=seq then some e else seeE r key seq:=by unfold seeE;grind
def zqw {l:List Ac} {e:Ac} (h:seeE l key seq=some e):e∈l/\e.q=key/\e.c<=seq:=by have a:=List.mem_of_find?_eq_some h;have b:=List.find?_some h;simp_all
def zzm {l:List Ac} :seeE l key seq=none↔∀e∈l,e.q=key->¬e.c<=seq:=by unfold seeE;simp
theorem zjc {l:List Ac} (d:ordE l) {e:Ac} :seeE l key seq=some e↔(e∈l/\e.q=key/\e.c<=seq/\∀y∈l,y.q=key->y.c<=seq->y.c<=e.c):=by
 induction l with
 | nil=>simp[seeE]
 | cons a r ih=>
   have b:=Tm.1 d;rw[ztT];by_cases c:a.q=key/\a.c<=seq
   ·rw[iP c];have h: ∀y∈r,y.q=key->y.c<a.c:=by intro y f g;have:=b.1 y f;unfold entLt at this;rw[c.1,g,zI]at this;simp_all
    grind
   ·rw[iN c,ih b.2];grind
theorem zsH {l:List Ac} (b:ordE l) (d:ordE l') (key:J3) (seq:Int) (h: ∀e,e.q=key->e.c<=seq->(e∈l↔e∈l')):seeE l key seq=seeE l' key seq:=by
 have A: ∀e,seeE l key seq=some e↔seeE l' key seq=some e:=by intro e;rw[zjc b,zjc d];grind
 cases a:seeE l key seq with
 | some e=>exact ((A e).1 a).symm
 | none=>
   cases f:seeE l' key seq with
   | none=>rfl
   | some e=>rw[(A e).2 f]at a;cases a
theorem zg4 (seq:Int): ∀(l:List Ac) (last:Option J3),ordE l->(∀k,last=some k->∀e∈l,sLt k e.q=true\/k=e.q)->∀kv:KV,kv∈visG seq last l↔(last≠some kv.q/\valO (seeE l kv.q seq)=some kv.Q)
 | [],last,_,_,kv=>by simp[visG,seeE,valO]
 | e::r,last,p,hl,kv=>by
   have f:=Tm.1 p;have s: ∀y∈r,sLt e.q y.q=true\/e.q=y.q:=λy a=>zoL (f.1 y a);rw[visG,ztT];by_cases d:e.c<=seq
   ·by_cases i:last=some e.q
    ·rw[dT d,dT i];simp only[Si,Bool.and_false,cF];rw[zg4 seq r last f.2 (λk b y a=>hl k b y (Tw _ a)) kv];simp_all
    ·rw[dT d,dF i];simp only[Te,Bool.and_true,cT];have ih:=zg4 seq r (some e.q) f.2 (λk b y a=>by simp_all) kv;by_cases j:e.q=kv.q
     ·rw[iP ⟨j,d⟩];have m: ¬kv∈visG seq (some e.q) r:=by simp_all
      have w:last≠some kv.q:=by simp_all
      cases n:e.T with
      | true=>simp[m,valO,n]
      | false=>simp only[cF,Tn,m,or_false,valO,n,Vm];obtain ⟨x,z⟩:=kv;grind
     ·rw[iN λh=>j h.1];have t:kv∈(bif e.T then visG seq (some e.q) r else ⟨e.q,e.Q⟩::visG seq (some e.q) r)↔kv∈visG seq (some e.q) r:=by grind
      rw[t,ih];constructor
      ·rintro ⟨_,h⟩;refine ⟨λb=>?_,h⟩;cases hs:seeE r kv.q seq with
       | none=>rw[hs]at h;cases h
       | some y=>
         obtain ⟨u,v,_⟩:=zqw hs;rcases hl _ b e (by simp) with o | o
         ·rcases s y u with g | g
          ·rw[v]at g;have:=zb3 o g;rw[zI]at this;cases this
          ·simp_all
         ·simp_all
      ·simp_all
   ·rw[dF d,Bool.false_and];simp only[cF];rw[zg4 seq r last f.2 (λk b y a=>hl k b y (Tw _ a)) kv,iN λh=>d h.2]
def srtK (m:List KV):Prop:=m.Pairwise λa b=>sLt a.q b.q=true
theorem zm4 (seq:Int): ∀(l:List Ac) (last:Option J3),ordE l->(∀k,last=some k->∀e∈l,sLt k e.q=true\/k=e.q)->srtK (visG seq last l)
 | [],_,_,_=>List.Pairwise.nil
 | e::r,last,i,hl=>by
   have a:=Tm.1 i;have m: ∀y∈r,sLt e.q y.q=true\/e.q=y.q:=λy b=>zoL (a.1 y b);have d: ∀k,some e.q=some k->∀y∈r,sLt k y.q=true\/k=y.q:=λk f y b=>by simp_all
   have g:=zm4 seq r (some e.q) a.2 d;rw[visG];cases (Dc (e.c<=seq)&& !Dc (last=some e.q)) with
   | false=>exact zm4 seq r last a.2 λk f y b=>hl k f y (Tw _ b)
   | true=>
     simp only[cT];cases e.T with
     | true=>exact g
     | false=>
       refine Tm.2 ⟨λkv j=>?_,g⟩;obtain ⟨n,h⟩:=(zg4 seq r (some e.q) a.2 d kv).1 j;cases hs:seeE r kv.q seq with
       | none=>rw[hs]at h;cases h
       | some y=>obtain ⟨o,p,_⟩:=zqw hs;grind
def zqM: ∀{a b:List KV},srtK a->srtK b->(∀kv,kv∈a↔kv∈b)->a=b
 | [],[],_,_,_=>rfl
 | [],y::t,_,_,h=>by have:=(h y).2 (by simp);trivial
 | x::t,[],_,_,h=>by have:=(h x).1 (by simp);trivial
 | x::s,y::t,f,g,h=>by
   have A:=Tm.1 f;have B:=Tm.1 g;have i:x=y:=by
    rcases Tn.1 ((h x).1 (by simp)) with c | c
    ·trivial
    ·rcases Tn.1 ((h y).2 (by simp)) with e | e
     ·simp_all
     ·have:=zb3 (B.1 x c) (A.1 y e);rw[zI]at this;cases this
   subst i;congr 1;refine zqM A.2 B.2 λkv=>?_;constructor
   ·intro d;rcases Tn.1 ((h kv).1 (Tw _ d)) with c | c
    ·subst c;have:=A.1 _ d;rw[zI]at this;cases this
    ·trivial
   ·intro d;rcases Tn.1 ((h kv).2 (Tw _ d)) with c | c
    ·subst c;have:=B.1 _ d;rw[zI]at this;cases this
    ·trivial
def zBn {l:List Ac} {s:Int} (b:ordE l) (c:ordE l') (h: ∀key,valO (seeE l key s)=valO (seeE l' key s')):visG s none l=visG s' none l':=by refine zqM (zm4 s l none b (λk a=>by trivial)) (zm4 s' l' none c (λk a=>by trivial)) λkv=>?_;rw[zg4 s l none b (λk a=>by trivial),zg4 s' l' none c (λk a=>by trivial),h]
def zBo {l:List Ac} {s:Int} (e:ordE l) (f:ordE l') (h:visG s none l=visG s' none l') (key:J3):valO (seeE l key s)=valO (seeE l' key s'):=by
 have d: ∀v,valO (seeE l key s)=some v↔valO (seeE l' key s')=some v:=by intro v;have a:=zg4 s l none e (λk g=>by trivial) (⟨key,v⟩:KV);have b:=zg4 s' l' none f (λk g=>by trivial) (⟨key,v⟩:KV);simp_all
 cases c:valO (seeE l key s) with
 | some v=>exact ((d v).1 c).symm
 | none=>
   cases i:valO (seeE l' key s') with
   | none=>rfl
   | some v=>rw[(d v).2 i]at c;cases c
theorem zt0: ∀(t:List (List Ac)) (B:Int),tabsV seq B t=true->∀x∈t.flatten,∀y∈t.flatten,keyE x=keyE y->x=y:=by
 intro t;induction t with
 | nil=>intro _ _ x b;simp at b
 | cons a t ih=>
   intro B h x b y d e;have f:=h;simp only[tabsV,Sg,decide_eq_true_eq]at f;obtain ⟨⟨q,l,u,v⟩,m⟩:=f;have w:=(zfc a (rangeV a).1).1 (Um _);have z:=zcB t _ m;have n:=((zbj a).1 l).2;have A: ∀x∈a,∀y∈a,keyE x=keyE y->x=y:=by
    intro x b y d e;rcases So.1 n with g
    obtain ⟨i,hi,rfl⟩:=Sf b;obtain ⟨j,k,rfl⟩:=Sf d;rcases Uw i j with c | c | c
    ·have:=g i j hi k c;rw[entOrd3.irr _ _ e]at this;cases this
    ·simp_all
    ·have:=g j i k hi c;rw[entOrd3.irr _ _ e.symm]at this;cases this
   rw[Vn,Sx]at b d;rcases b with b | b<;>rcases d with d | d
   ·grind
   ·obtain ⟨s,o,p⟩:=Uh.1 d;grind
   ·obtain ⟨s,o,p⟩:=Uh.1 b;grind
   ·grind
theorem zwN {r l:List Ac} (h:FstL keyE r l) (d: ∀x∈l,∀y∈l,keyE x=keyE y->x=y) (x:Ac):x∈r↔x∈l:=by
 refine ⟨h.mem,λb=>?_⟩;have e:=h (keyE x);have a:x∈l.filter (λy=>decide (keyE y=keyE x)):=Sp.2 ⟨b,by simp⟩;cases c:l.filter (λy=>decide (keyE y=keyE x)) with
 | nil=>rw[c]at a;simp at a
 | cons y t=>
   have f:y∈r.filter (λy=>decide (keyE y=keyE x)):=by simp_all
   grind
def tabE (e:Aa):List Ac:=e.D.foldl mg []
def zm1 (h:engV e=true):ordE (tabE e)/\∀x,x∈tabE e↔∃t∈e.D,x∈t:=by obtain ⟨i,j,k,l,m,n,a,o⟩:=zJ h;have b:=zcB e.D _ a;obtain ⟨d,f⟩:=zi2 e.D [] [] (λt g=>((zbj t).1 (b t g).1).2) List.Pairwise.nil (λc=>rfl);refine ⟨d,λx=>?_⟩;rw[<-Uh];exact zwN f (zt0 e.D _ a) x
theorem zmf (h:engV e=true):ordE (allR e)/\∀x,x∈allR e↔x∈e.G\/x∈tabE e:=by
 obtain ⟨w,z,A,B,m,C,f,E⟩:=zJ h;have F:=zcB e.D _ f;obtain ⟨n,_,_⟩:=zm5 h;obtain ⟨o,g⟩:=zi2 (e.G::e.D) [] [] (λt p=>((zbj t).1 (n t p)).2) List.Pairwise.nil (λc=>rfl);rw[Ta]at g;refine ⟨o,λx=>?_⟩;rw[(zm1 h).2 x,<-Uh,<-Sx,<-Vn];refine zwN g ?_ x;have H:=(zfc e.G (rangeV e.G).1).1 (Um _);have q:=((zbj e.G).1 m.2).2;intro x a y b d;rw[Vn,Sx]at a b;rcases a with a | a<;>rcases b with b | b
 ·have k:=So.1 q;obtain ⟨i,hi,rfl⟩:=Sf a;obtain ⟨j,l,rfl⟩:=Sf b;rcases Uw i j with c | c | c
  ·have:=k i j hi l c;rw[entOrd3.irr _ _ d]at this;cases this
  ·simp_all
  ·have:=k j i l hi c;rw[entOrd3.irr _ _ d.symm]at this;cases this
 ·obtain ⟨s,u,v⟩:=Uh.1 b;grind
 ·obtain ⟨s,u,v⟩:=Uh.1 a;grind
 ·exact zt0 e.D _ f x a y b d
theorem zgl (h:engV e=true) (key:J3) (seq:Int):seeE (allR e) key seq=(seeE e.G key seq).or (seeE (tabE e) key seq):=by
 obtain ⟨i,j,k,l,c,m,d,n⟩:=zJ h;obtain ⟨a,o⟩:=zmf h;obtain ⟨f,t2⟩:=zm1 h;have p:=zcB e.D _ d;have q:=(zfc e.G (rangeV e.G).1).1 (Um _);have g:=((zbj e.G).1 c.2).2;cases b:seeE e.G key seq with
 | some x=>obtain ⟨s,t,u,v⟩:=(zjc g).1 b;rw[Wd,zjc a];grind
 | none=>have w:=zzm.1 b;refine zsH a f key seq λx y hs=>?_;grind
def zrk (h:engV e=true) (seq:Int):mapR e seq=visG seq none (allR e):=by unfold mapR;rw[h];exact zpf (zfd h).1 seq
def zi8 (h:engV e=true) (seq:Int) (kv:KV):kv∈mapR e seq↔valO (seeE (allR e) kv.q seq)=some kv.Q:=by rw[zrk h,zg4 seq (allR e) none (zmf h).1 (λk a=>by trivial)];simp
def zk7 (h:engV e=true) (seq:Int):srtK (mapR e seq):=by rw[zrk h];exact zm4 seq _ none (zmf h).1 λk a=>by trivial
def zhM {e':Aa} {s:Int} (h:engV e=true) (a:engV e'=true) (hs: ∀key,valO (seeE (allR e) key s)=valO (seeE (allR e') key s')):mapR e s=mapR e' s':=by rw[zrk h,zrk a];exact zBn (zmf h).1 (zmf a).1 hs
def ztj (h:engV e=true) (s:Int):mapR (flushS e).2 s=mapR e s:=by
 have a:=zfb h;by_cases c:e.G.length=0\/6<=e.D.length
 ·rw[zde c]
 ·rw[zfg c]at a |-
  exact zhM a h λkey=>rfl
theorem zyZ (h:engV e=true) (s:Int) (hs:s∈e.u\/e.c<=s):mapR (mergeS e).2 s=mapR e s:=by
 have b:=ztt h;obtain ⟨E,F,k,H,I,J,m,K⟩:=zJ h;by_cases c:e.D.length=0
 ·have:mergeS e=(false,e):=by unfold mergeS;simp_all
  simp_all
 ·have n:(mergeS e).2=⟨e.G,tab1 (mergeC e),e.c,e.u⟩:=by unfold mergeS;simp_all
  rw[n]at b |-
  obtain ⟨g,o,p⟩:=zgI h;have q:compactR (tabE e) e.u true=mergeC e:=by unfold compactR mergeC tabE;grind
  have v:tabE (⟨e.G,tab1 (mergeC e),e.c,e.u⟩:Aa)=mergeC e:=by
   unfold tabE tab1;by_cases w:0<(mergeC e).length
   ·rw[dT w];rfl
   ·simp_all
  obtain ⟨d,i⟩:=zuR (l:=tabE e) e.u true (by have:(tabE e).length<=totalV e.D:=o;omega) g;rw[q]at d i;have y:=(zm1 h).1;have z:ordE (mergeC e):=((zbj _).1 d).2;have L: ∀s,s∈e.u\/s=1000000->∀key,valO (seeE (mergeC e) key s)=valO (seeE (tabE e) key s):=by
   intro s hs key;refine zBo z y ?_ key;rw[<-zpf d,<-zpf (l:=tabE e) g];have k:=List.append_inj' i rfl;rcases hs with hs | rfl
   ·simp_all
   ·simp_all
  have j: ∀{l:List Ac} {key:J3},(∀x∈l,x.c<=e.c)->e.c<=s->seeE l key s=seeE l key 1000000:=by
   intro l key hl hs;unfold seeE;induction l with
   | nil=>rfl
   | cons a t ih=>grind
  have A: ∀key,valO (seeE (mergeC e) key s)=valO (seeE (tabE e) key s):=by
   intro key;rcases hs with hs | hs
   ·simp_all
   ·rw[j (λx f=>((zk8 h).2.2 x f).2) hs,j (λx f=>?_) hs]
    ·simp_all
    ·obtain ⟨t,B,C⟩:=p x f;exact ((zcB e.D _ m t B).2 x C).2
  refine zhM b h λkey=>?_;rw[zgl b,zgl h,v];cases seeE e.G key s with
  | some x=>rfl
  | none=>exact A key
def smallE (e:Aa):Prop:=e.G.length<=2000/\e.D.length<=7/\totalV e.D<=401/\e.u.length<=5
def ztY (h:engV e=true):smallE e:=by obtain ⟨a,b,c,d,f,g,i,j⟩:=zJ h;exact ⟨by omega,by omega,by omega,by omega⟩
def ztZ {l:List Int} (h: ∀k (a:k<l.length),(0<=l[k]/\l[k]<=seq)/\(∀c:0<k,l[k - 1]'(by omega)<l[k])):snapsV seq l=true:=by
 unfold snapsV;rw[Ux];intro k a;have b:k<l.length:=by simp_all
 rw[znH seq l k b,Sg];simp_all
def zgw (h:engV e=true) {l:List Int} (hl:l.length<=4) (hs:snapsV e.c l=true):engV {e with u:=l} =true:=by obtain ⟨a,b,d,f,g,i,j,k⟩:=zJ h;unfold engV memV;simp_all
theorem zAt (h:engV e=true):engV (snapR e).1=true:=by
 obtain ⟨b,j,l,m,n,o,p,a⟩:=zJ h;unfold snapR;rw[iP h];by_cases d:e.c∈e.u
 ·simp_all
 ·by_cases f:e.u.length=4
  ·simp_all
  ·rw[iN d,iN f];refine zgw h (by grind) (ztZ λk s=>?_);have i:k<e.u.length+1:=by simp_all
   rcases Vr.1 i with g | g
   ·have:=zgn a k g;grind
   ·subst g;rw[Vo (by omega)];simp only[Nat.sub_self,List.getElem_cons_zero];refine ⟨⟨b.1,Um _⟩,λt=>?_⟩;have q:=(zgn a (e.u.length - 1) (by omega)).1;grind
theorem zwb (h:engV e=true) (x:Int):engV (engDropR e x).1=true:=by
 obtain ⟨n,o,b,p,q,s,t,a⟩:=zJ h;unfold engDropR;rw[iP h];by_cases f:x∈e.u
 ·rw[iP f];obtain ⟨j,l,rfl⟩:=Sf f;have m:=zm8 a j l;refine zgw h ?_ (ztZ λk g=>?_)
  ·grind
  ·simp only[m]at g |-
   have hl:(e.u.take j).length=j:=by grind
   have v:k<e.u.length - 1:=by grind
   have A: ∀i (hi:i<j) (d:i<(e.u.take j++e.u.drop (j+1)).length),(e.u.take j++e.u.drop (j+1))[i]=e.u[i]'(by omega):=λi hi d=>by simp_all
   have B: ∀i (hi:j<=i) (d:i<(e.u.take j++e.u.drop (j+1)).length) (b:i+1<e.u.length),(e.u.take j++e.u.drop (j+1))[i]=e.u[i+1]'b:=λi hi d b=>by grind
   by_cases c:k<j
   ·have:=zgn a k (by omega);grind
   ·rw[B k (by omega) g (by omega)];have:=zgn a (k+1) (by omega);refine ⟨this.1,λw=>?_⟩;by_cases y:k=j
    ·rw[A (k - 1) (by omega)];exact zqz a (k+1) (by omega) (k - 1) (by omega)
    ·grind
 ·simp_all
def zsD (h:engV e=true) (l:List Op):engV (putR e l).1=true:=by
 unfold putR;rw[h];cases a:batchV l with
 | false=>exact h
 | true=>
   cases b:okB e l with
   | false=>exact h
   | true=>exact (zgv h a).trans b
def zhJ {τ:Type} {m:Option (Ctl τ R)} {k:τ->Option R} {P:Option R->Prop} (Q:τ->Prop) (h: ∃t,m=some (.go t)/\Q t) (a: ∀t,Q t->P (k t)):P (bindC m k):=by obtain ⟨t,rfl,b⟩:=h;simp_all
def goO (Q:T->Prop) (o:Option (Ctl T R)):Prop:=∃t,o=some (.go t)/\Q t
theorem zyR (code:J3) (most:Int) (h:code.length<=1048576) (b:2<=most/\most<=1000): ∃n,zjx code most=some n/\0<n/\n<=1000:=by unfold zjx;have a:Int.tdiv (code.length:Int) 20=((code.length / 20:Nat):Int):=rfl;rw[a,za (n:=((code.length / 20:Nat):Int)),za];grind
def zvG:smallE ⟨[],[],0,[]⟩:=⟨by simp,by simp,by simp[totalV],by simp⟩
def zxO (h:smallE e) (l:List Op):smallE (putR e l).1:=by
 cases a:engV e with
 | true=>exact ztY (zsD a l)
 | false=>unfold putR;rw[a];exact zvG
theorem zAb (l:List Op) (seq:Int) (m:List Ac) (d:ordE m) (hs: ∀x∈m,x.c<seq) (hl:m.length+l.length<=1048576): ∀k,k<=l.length->∀i (hi:i<l.length),i<k->laterV l i l[i].q=false->entO l[i] seq∈memB l seq m k:=by
 intro k;induction k with
 | zero=>intro _ i _ h;omega
 | succ k ih=>
   intro p i hi e f;have a:k<l.length:=by omega
   obtain ⟨g,s,n,_⟩:=zea l seq m d hs hl k (by omega);cases b:laterV l k l[k].q with
   | true=>rw[zgH l seq m k a b];grind
   | false=>
     obtain ⟨j,t,_,o,_⟩:=znD (memB l seq m k) (entO l[k] seq) g (by omega) (znu l seq m _ k a hs n);rw[znv l seq m k a b,o,Up];rcases Vr.1 e with h | rfl
     ·exact znk.2 (.inr (ih (by omega) i hi h f))
     ·exact znk.2 (.inl rfl)
def opL (l:List Op) (key:J3):Option Op:=l.reverse.find? λo=>decide (o.q=key)
def zvs (a:Op) (t:List Op) (key:J3):opL (a::t) key=(opL t key).or (if a.q=key then some a else none):=by unfold opL;simp
theorem zw5 (l:List Op) (key:J3) (o:Op):opL l key=some o↔∃i,∃hi:i<l.length,laterV l i key=false/\l[i].q=key/\o=l[i]:=by
 induction l with
 | nil=>simp[opL]
 | cons a t ih=>
   rw[zvs];have b: ∀i,laterV (a::t) (i+1) key=laterV t i key:=λi=>by rfl
   have c:laterV (a::t) 0 key=t.any λx=>decide (x.q=key):=by rfl
   have d:opL t key=none↔(t.any λx=>decide (x.q=key))=false:=by unfold opL;simp
   constructor
   ·intro h;cases e:opL t key with
    | some x=>grind
    | none=>grind
   ·grind
def zAh (h:opL l key=none): ∀o∈l,o.q≠key:=by unfold opL at h;simp_all
def zAc (l:List Op) (seq:Int) (m:List Ac) (b:ordE m) (hs: ∀x∈m,x.c<seq) (hl:m.length+l.length<=1048576) (key:J3) (s:Int) (h:s<seq):seeE (memB l seq m l.length) key s=seeE m key s:=by
 obtain ⟨d,j,e,f⟩:=zea l seq m b hs hl l.length (Tc _);refine zsH d b key s λx k g=>⟨λa=>?_,λa=>f x a⟩;rcases e x a with n | ⟨i,hi,_,_,rfl⟩
 ·trivial
 ·have:seq<=s:=g;omega
def zyV (l:List Op) (seq:Int) (m:List Ac) (a:ordE m) (hs: ∀x∈m,x.c<seq) (hl:m.length+l.length<=1048576) (key:J3):seeE (memB l seq m l.length) key seq=((opL l key).map λo=>entO o seq).or (seeE m key seq):=by
 obtain ⟨d,n,f,g⟩:=zea l seq m a hs hl l.length (Tc _);cases e:opL l key with
 | some o=>obtain ⟨i,hi,p,h,rfl⟩:=(zw5 l key o).1 e;rw[Vh,Wd,zjc d];exact ⟨zAb l seq m a hs hl l.length (Tc _) i hi hi (by simp_all),h,Um _,λy _ _ j=>j⟩
 | none=>
   refine zsH d a key seq λx k q=>⟨λb=>?_,λb=>g x b⟩;rcases f x b with s | ⟨i,hi,_,_,rfl⟩
   ·trivial
   ·exact absurd k (zAh e _ (Rx hi))
theorem zzn {l:List Ac} {s:Int} (h: ∀x∈l,x.c<=s) (hs:s<=s'):seeE l key s'=seeE l key s:=by
 unfold seeE;induction l with
 | nil=>rfl
 | cons a t ih=>grind
def zuY (h:engV e=true):(∀x∈e.G,x.c<=e.c)/\(∀x∈tabE e,x.c<=e.c):=by obtain ⟨i,j,k,l,m,b,d,n⟩:=zJ h;refine ⟨λx a=>((zh0 _ _).1 b).2 x a,λx a=>?_⟩;obtain ⟨t,f,g⟩:=((zm1 h).2 x).1 a;exact ((zcB e.D _ d t f).2 x g).2
def zwp (h:engV e=true) (a:batchV l=true) (b:okB e l=true) (key:J3) (s:Int) (hs:s<=e.c):seeE (allR (engB e l)) key s=seeE (allR e) key s:=by have d:engV (engB e l)=true:=(zgv h a).trans b;obtain ⟨f,g,i⟩:=zf6 h a;rw[zgl d,zgl h];show (seeE (memB l (e.c+1) e.G l.length) key s).or (seeE (tabE e) key s)=_;rw[zAc l (e.c+1) e.G f g (by omega) key s (by omega)]
def zwo (h:engV e=true) (a:batchV l=true) (b:okB e l=true) (key:J3):seeE (allR (engB e l)) key (e.c+1)=((opL l key).map λo=>entO o (e.c+1)).or (seeE (allR e) key e.c):=by have d:engV (engB e l)=true:=(zgv h a).trans b;obtain ⟨f,g,k⟩:=zf6 h a;obtain ⟨i,j⟩:=zuY h;rw[zgl d,zgl h];show (seeE (memB l (e.c+1) e.G l.length) key (e.c+1)).or (seeE (tabE e) key (e.c+1))=_;rw[zyV l (e.c+1) e.G f g (by omega) key,zzn i (by omega),zzn j (by omega),Option.or_assoc]
def newK (o:Op):List KV:=bif o.T then [] else [⟨o.q,o.Q⟩]
def putK (m:List KV) (o:Op):List KV:=m.filter (λx=>sLt x.q o.q)++(newK o++m.filter (λx=>sLt o.q x.q))
def applyK (m:List KV) (l:List Op):List KV:=l.foldl putK m
theorem zqr (o:Op) (kv:KV):kv∈newK o↔o.T=false/\kv.q=o.q/\kv.Q=o.Q:=by unfold newK;obtain ⟨k,v⟩:=kv;grind
def zAm (m:List KV) (o:Op) (kv:KV):kv∈putK m o↔(o.T=false/\kv.q=o.q/\kv.Q=o.Q)\/(kv.q≠o.q/\kv∈m):=by
 unfold putK;rw[Sx,Sx,zqr,Sp,Sp];constructor
 ·rintro (⟨b,a⟩ | h | ⟨b,a⟩)
  ·exact .inr ⟨λh=>by (rw[h,zI]at a;cases a),b⟩
  ·simp_all
  ·exact .inr ⟨λh=>by (rw[h,zI]at a;cases a),b⟩
 ·rintro (h | ⟨b,a⟩)
  ·simp_all
  ·cases c:sLt kv.q o.q with
   | true=>exact .inl ⟨a,rfl⟩
   | false=>
     cases d:sLt o.q kv.q with
     | true=>exact .inr (.inr ⟨a,rfl⟩)
     | false=>exact absurd (zvC c d) b
def zAn {m:List KV} (h:srtK m) (o:Op):srtK (putK m o):=by
 unfold putK srtK;rw[Un,Un];refine ⟨h.filter _,⟨?_,h.filter _,?_⟩,?_⟩
 ·unfold newK;cases o.T<;>simp
 ·intro a d b c;rw[((zqr o a).1 d).2.1];simp_all
 ·intro a d b c;have e:=(Sp.1 d).2;rcases Sx.1 c with c | c
  ·rw[((zqr o b).1 c).2.1];exact e
  ·exact zb3 e (Sp.1 c).2
def zdZ (l:List Op): ∀{m:List KV},srtK m->srtK (applyK m l):=by
 induction l with
 | nil=>intro m h;exact h
 | cons a t ih=>intro m h;exact ih (zAn h a)
theorem zqQ (l:List Op): ∀(m:List KV) (kv:KV),kv∈applyK m l↔match opL l kv.q with | some o=>o.T=false/\kv.Q=o.Q | none=>kv∈m:=by
 induction l with
 | nil=>intro m kv;simp[applyK,opL]
 | cons a t ih=>
   intro m kv;show kv∈applyK (putK m a) t↔_;rw[ih,zvs];cases b:opL t kv.q with
   | some o=>simp
   | none=>rw[zAm];grind
theorem zdd (l:List Op): ∀m:List KV,(applyK m l).length<=m.length+l.length:=by
 induction l with
 | nil=>intro m;simp[applyK]
 | cons a t ih=>
   intro m;have b:=ih (putK m a);have d:(putK m a).length<=m.length+1:=by
    unfold putK newK;have q:(m.filter λx=>sLt x.q a.q).length+(m.filter λx=>sLt a.q x.q).length<=m.length:=by
     clear b;induction m with
     | nil=>simp
     | cons x r h=>
       simp only[Uc,Tf];cases c:sLt x.q a.q with
       | true=>rw[ztR c];simp;omega
       | false=>cases sLt a.q x.q<;>simp<;>omega
    grind
   show (applyK (putK m a) t).length<=_;grind
theorem zsE (h:engV e=true) (a:batchV l=true) (b:okB e l=true):mapR (engB e l) (e.c+1)=applyK (mapR e e.c) l:=by
 have d:engV (engB e l)=true:=(zgv h a).trans b;refine zqM (zk7 d _) (zdZ l (zk7 h _)) λkv=>?_;rw[zi8 d,zwo h a b,zqQ];cases f:opL l kv.q with
 | none=>rw[Option.map_none,Option.none_or];exact (zi8 h _ kv).symm
 | some o=>simp only[Vh,Wd,valO,entO];grind
def zmb (h:engV e=true) (a:batchV l=true) (b:okB e l=true) {s:Int} (hs:s<=e.c):mapR (engB e l) s=mapR e s:=
 zhM ((zgv h a).trans b) h λkey=>by rw[zwp h a b key s hs]
def kvV (x:KV):Bool:=opV ⟨x.q,false,x.Q⟩
def zmz (h:engV e=true) (s:Int): ∀x∈mapR e s,kvV x=true:=by
 intro x a;rw[zi8 h]at a;cases b:seeE (allR e) x.q s with
 | none=>rw[b]at a;cases a
 | some d=>
   obtain ⟨f,i,_⟩:=zqw b;have g:=((zbj _).1 (zfd h).1).1 d f;rw[b]at a;unfold entV at g;have a:(bif d.T then none else some d.Q)=some x.Q:=a;cases c:d.T with
   | true=>rw[c]at a;cases a
   | false=>rw[c]at a;unfold kvV opV;simp_all
def zf5 {m:List KV} (d: ∀x∈m,kvV x=true) (a:batchV l=true): ∀x∈applyK m l,kvV x=true:=by
 intro x b;rw[zqQ]at b;unfold batchV at a;rw[Sg,Ux]at a;cases c:opL l x.q with
 | none=>rw[c]at b;exact d x b
 | some o=>obtain ⟨i,hi,_,e,rfl⟩:=(zw5 l _ o).1 c;have:=a.2 _ (Rx hi);unfold opV at this;unfold kvV opV;simp_all
theorem znC {m:List KV} (p:Nat) (b: ∀x∈m.take p,sLt x.q o.q=true) (d: ∀x∈m.drop p,sLt x.q o.q=false):putK m o=m.take p++(newK o++(m.drop p).filter λx=>!Dc (x.q=o.q)):=by
 unfold putK;have e:m=m.take p++m.drop p:=(Tv p m).symm;have g:m.filter (λx=>sLt x.q o.q)=m.take p:=by
  conv=>lhs;rw[e]
  rw[Ui,Tq.2 b,Uj.2 λx a=>by grind,Td]
 have h:m.filter (λx=>sLt o.q x.q)=(m.drop p).filter λx=>!Dc (x.q=o.q):=by
  conv=>lhs;rw[e]
  rw[Ui,Uj.2 λx a=>by rw[ztR (b x a)];simp,Ta];refine List.filter_congr λx a=>?_;by_cases c:x.q=o.q
  ·grind
  ·rw[dF c];cases f:sLt o.q x.q with
   | true=>rfl
   | false=>exact absurd (zvC (d x a) f) c
 grind
theorem zuC (m:List KV) (o:Op) (w:srtK m) (hl:m.length<=1000000):znK m o=some (putK m o):=by
 refine zt (λk (S:Bool × Int × List KV)=>S.2.1=(k:Int)/\((S.1=o.T/\S.2.2=m.take k/\∀x∈m.take k,sLt x.q o.q=true)\/
  (S.1=true/\∃p,p<=k/\S.2.2=m.take p++(newK o++((m.take k).drop p).filter λx=>!Dc (x.q=o.q))/\(∀x∈m.take p,sLt x.q o.q=true)/\∀x∈m.drop p,sLt x.q o.q=false))) m.length
  (λr=>∃b a,r= .go (b,a)/\((b=o.T/\a=m/\∀x∈m,sLt x.q o.q=true)\/(b=true/\a=putK m o))) ⟨rfl,.inl ⟨rfl,by simp,by simp⟩⟩ ?_ ?_ ?_
 ·rintro k ⟨b,c,a⟩ n ⟨j,J⟩;subst j;left;have C:m.take (k+1)=m.take k++ [m[k]]:=by simp
  have z:J8 ((k:Int)+1)=((k+1:Nat):Int):=by rw[za];omega
  have I: ∀(x y:List KV),x.length<=1000001->y.length<=1->app 32 x y=some (x++y):=λx y D E=>ze (by omega) (by omega);simp only[zb m k n,Rv,z];rw[iP];rcases J with ⟨e,d,f⟩ | ⟨e,p,s,d,f,i⟩
  ·subst e d;have F:(m.take k).length<=1000000:=by grind
   cases t:sLt m[k].q o.q with
   | true=>
     have A: ¬m[k].q=o.q:=λh=>by rw[h,zI]at t;trivial
     refine ⟨(o.T,((k+1:Nat):Int),m.take (k+1)),?_,rfl,.inl ⟨rfl,rfl,?_⟩⟩
     ·cases o.T<;>simp[A,bindC,I (m.take k) [m[k]] (by omega) (by simp)]
     ·grind
   | false=>
     have i: ∀x∈m.drop k,sLt x.q o.q=false:=by
      intro x l;rw[Sd n]at l;rcases Tn.1 l with rfl | l
      ·trivial
      ·have u:=w;unfold srtK at u;rw[<-Tv k m,Un,Sd n]at u;have B:=(Tm.1 u.2.1).1 x l;cases g:sLt x.q o.q with
       | false=>rfl
       | true=>rw[zb3 B g]at t;cases t
     refine ⟨(true,((k+1:Nat):Int),m.take k++(newK o++((m.take (k+1)).drop k).filter λx=>!Dc (x.q=o.q))),?_,rfl,.inr ⟨rfl,k,by omega,rfl,f,i⟩⟩;have v:(m.take (k+1)).drop k= [m[k]]:=by grind
     rw[v];unfold newK;cases o.T with
     | true=>
       by_cases g:m[k].q=o.q
       ·simp_all
       ·simp[g,bindC,I (m.take k) [m[k]] (by omega) (by simp)]
     | false=>
       by_cases g:m[k].q=o.q
       ·simp[g,bindC,I (m.take k) [(⟨o.q,o.Q⟩:KV)] (by omega) (by simp)]
       ·simp[g,bindC,I (m.take k) [(⟨o.q,o.Q⟩:KV)] (by omega) (by simp),I (m.take k++ [(⟨o.q,o.Q⟩:KV)]) [m[k]] (by simp_all) (by simp)]
  ·subst e d;have v:(m.take (k+1)).drop p=(m.take k).drop p++ [m[k]]:=by grind
   have G:(m.take p++(newK o++((m.take k).drop p).filter λx=>!Dc (x.q=o.q))).length<=1000001:=by
    have H:(newK o).length<=1:=by unfold newK;grind
    grind
   refine ⟨(true,((k+1:Nat):Int),m.take p++(newK o++((m.take (k+1)).drop p).filter λx=>!Dc (x.q=o.q))),?_,rfl,.inr ⟨rfl,p,by omega,rfl,f,i⟩⟩;by_cases g:m[k].q=o.q
   ·simp_all
   ·simp_all
 ·rintro ⟨b,c,a⟩ ⟨j,J⟩;simp only at j J;subst j;refine ⟨.go (b,a),by simp,b,a,rfl,?_⟩;rcases J with ⟨e,d,f⟩ | ⟨e,p,s,d,f,i⟩
  ·simp_all
  ·right;rw[Tu]at d;exact ⟨e,by rw[d,znC p f i]⟩
 ·rintro r ⟨b,a,rfl,⟨e,d,f⟩ | ⟨e,d⟩⟩
  ·subst e d;have s:putK a o=a++newK o:=by have:=znC (m:=a) (o:=o) a.length (by simp_all) (by simp);simp_all
   rw[s];unfold newK;cases o.T with
   | true=>simp[bindC]
   | false=>have d:app 32 a [(⟨o.q,o.Q⟩:KV)]=some (a++ [⟨o.q,o.Q⟩]):=ze (by grind) (by grind);simp_all
  ·simp_all
def zkg (m:List KV) (b:srtK m) (c: ∀x∈m,kvV x=true) (hl:m.length<=1000000):zky m=some true:=by
 refine zt (λk s=>s=(k:Int)) m.length (λr=>r= .go ()) rfl ?_ ?_ (λr e=>by simp_all)
 ·rintro k _ a rfl;left;have d:opV ⟨m[k].q,false,m[k].Q⟩=true:=c _ (Rx a);simp only[zb m k a,Rv,zo9,d];rw[iP,za (n:=(k:Int)+1)];by_cases f:0<k
  ·have g:=So.1 b (k - 1) k (by omega) a (by omega);rw[za (n:=(k:Int) - 1),show (k:Int) - 1=((k - 1:Nat):Int) by omega,zb m (k - 1) (by omega)];simp_all
  ·simp_all
 ·simp
theorem zjL (m:List KV) (l:List Op) (a:srtK m) (b: ∀x∈m,kvV x=true) (e:m.length<=100000) (hl:l.length<=1000):zbo m l=some (bif batchV l then (applyK m l,true) else (m,false)):=by
 unfold zbo;rw[zkg m a b (by omega)];rw[ze (by grind) (by grind),zc4 l (by omega)];cases batchV l with
 | false=>rfl
 | true=>
   refine zt (λk (S:Int × List KV)=>S=((k:Int),applyK m (l.take k))) l.length (λr=>r= .go (applyK m l)) rfl ?_ ?_ (λr f=>by simp_all)
   ·rintro k _ c rfl;left;have d:l.take (k+1)=l.take k++ [l[k]]:=by simp
    have g:=zdd (l.take k) m;refine ⟨_,?_,rfl⟩;simp only[zb l k c,Rv];rw[iP,zuC _ _ (zdZ _ a) (by grind),za (n:=(k:Int)+1)];rw[d,show applyK m (l.take k++ [l[k]])=putK (applyK m (l.take k)) l[k] by simp only[applyK,Uv,Vz,Wz]];rfl
   ·simp
def zrz: ∀(f:Nat) (s:J3) (n k:Nat),readN (f+1) s=some (n,k)->s=varN f n++s.drop k
 | _,[],_,_,h=>by trivial
 | f,x::l,n,k,h=>by
   rw[readN]at h;by_cases c:x.toNat<128
   ·rw[dT c]at h;simp only[cT,Vm,Xd]at h;obtain ⟨rfl,rfl⟩:=h;rw[zh6 c,zpv];rfl
   ·rw[dF c]at h;simp only[cF]at h;cases f with
    | zero=>simp[readN]at h
    | succ f=>
      cases a:readN (f+1) l with
      | none=>rw[a]at h;cases h
      | some mk=>
        obtain ⟨m,k'⟩:=mk;rw[a]at h;simp only at h;by_cases b:m=0
        ·simp_all
        ·rw[dF b]at h;simp only[cF,Vm,Xd]at h;obtain ⟨rfl,rfl⟩:=h;have ih:=zrz f l m k' a;have i:=x.toNat_lt;have d:(x.toNat % 128+128*m) % 128=x.toNat % 128:=by omega
         have e:(x.toNat % 128+128*m) / 128=m:=by omega
         have g:128+x.toNat % 128=x.toNat:=by omega
         rw[zkO (by omega),d,e,g,zpv,Uy,List.drop_succ_cons,<-ih]
def ztL (b:(rdN t a false).2.2=false):t.drop a=varV (rdN t a false).1++t.drop (rdN t a false).2.1:=by
 unfold rdN at b |-
 simp only[cF]at b |-
 cases c:readN 7 (t.drop a) with
 | none=>rw[c]at b;cases b
 | some h=>obtain ⟨n,k⟩:=h;have:=zrz 6 _ n k c;obtain ⟨r1,r2,d⟩:=zfG c;simp only;unfold varV;rw[dT];rw[Wf]at this;trivial
theorem ztJ {n:Int} (b:(rdB t a bad n).2.2=false):bad=false/\t.drop a=(rdB t a bad n).1++t.drop (rdB t a bad n).2.1/\(rdB t a bad n).1.length=n.toNat:=by
 unfold rdB at b |-
 cases bad with
 | true=>simp at b
 | false=>
   by_cases c:t.length<a+n.toNat
   ·simp_all
   ·rw[dF c]at b |-
    simp only[Bool.or_false,cF];refine ⟨trivial,?_,by grind⟩;rw[<-Wf,Tv]
theorem zo0 (h:a<=t.length) (b:(rdS t a bad).2.2=false):bad=false/\t.drop a=pieceV (rdS t a bad).1++t.drop (rdS t a bad).2.1:=by
 have c:bad=false:=((zh1 t a bad h).2 b).1;subst c;unfold rdS at b |-
 obtain ⟨d,e,f⟩:=ztJ b;obtain ⟨r1,_,_⟩:=zjD t a false h;have:=ztL d;unfold pieceV;grind
theorem ztK (b:(rdF t a bad).2.2=false):bad=false/\t.drop a=(if (rdF t a bad).1=true then [1] else [0])++t.drop (rdF t a bad).2.1:=by
 unfold rdF at b |-
 simp only[Uo,Bool.and_eq_false_iff,Bool.not_eq_false',decide_eq_true_eq]at b;obtain ⟨d,c⟩:=b;obtain ⟨e,f,_⟩:=ztJ c;grind
def zzh (h:a<=t.length) (b:(rdO t a).2.2=false):t.drop a=opB (rdO t a).1++t.drop (rdO t a).2.1:=by
 obtain ⟨e,_,_⟩:=zoZ t a false h;obtain ⟨i,_⟩:=zh1 t (rdF t a false).2.1 (rdF t a false).2.2 e;unfold rdO at b |-
 cases d:(rdF t a false).1 with
 | true=>rw[d]at b;obtain ⟨f,g⟩:=zo0 e b;obtain ⟨_,c⟩:=ztK f;rw[d,iP rfl]at c;rw[c,g];simp[opB]
 | false=>rw[d]at b;obtain ⟨f,g⟩:=zo0 i b;obtain ⟨j,k⟩:=zo0 e f;obtain ⟨_,c⟩:=ztK j;rw[d,iN (by simp)]at c;rw[c,k,g];simp[opB]
def zvt (t:J3): ∀(f a:Nat) (bad:Bool) (A:List Op),(opsI t f a bad A).2.1=false->bad=false
 | 0,_,_,_,h=>h
 | f+1,a,true,A,h=>by simp[opsI]at h
 | f+1,a,false,A,h=>rfl
def zrs (t:J3): ∀(f a:Nat) (bad:Bool) (A:List Op),a<=t.length->(opsI t f a bad A).2.1=false->∃l,(opsI t f a bad A).2.2=A++l/\l.length=f/\t.drop a=l.flatMap opB++t.drop (opsI t f a bad A).1
 | 0,a,bad,A,_,_=>⟨[],by simp[opsI],rfl,by rfl⟩
 | f+1,a,true,A,_,h=>by trivial
 | f+1,a,false,A,b,h=>by
   simp only[opsI,cF]at h |-
   have c:=zvt t f _ _ _ h;obtain ⟨l,e,g,d⟩:=zrs t f (rdO t a).2.1 (rdO t a).2.2 (A++ [(rdO t a).1]) (ztM t a b) h;refine ⟨(rdO t a).1::l,by simp_all,by simp_all,?_⟩;rw[zzh b c,d];simp
theorem zpW (h:(readB t).2=true):batchV (readB t).1=true/\showB (readB t).1=t:=by
 unfold readB at h |-
 cases a:((!(opsR t).2.1&&Dc ((opsR t).1=t.length))&&(Dc (((opsR t).2.2.length:Int)=(rdN t 0 false).1)&&batchV (opsR t).2.2)) with
 | false=>rw[a]at h;cases h
 | true=>
   simp only[Sg,Wq,decide_eq_true_eq]at a;obtain ⟨⟨b,c⟩,d,e⟩:=a;obtain ⟨r1,r2,g⟩:=zjD t 0 false (Sm _);unfold opsR at b c d e |-
   have f:=zvt t _ _ _ _ b;obtain ⟨l,i,j,k⟩:=zrs t _ _ _ _ r2 b;have m:=ztL f;unfold showB;grind
theorem zpV (h:(readB t).2=false):readB t=([],false):=by
 unfold readB at h |-
 grind
theorem zA1 {s:J3} :(l6V s 1 0).2= -1\/∃(b:Nat) (n:Int),l6V s 1 0=([n],(b:Int))/\b<=s.length/\0<=n/\s≠[]:=by
 rcases (zoQ s 1 0 (Sm _)).1 with e | ⟨b,f,a,c⟩
 ·omega
 ·right;have d:=(zoQ s 1 0 (Sm _)).2
  match hl:(l6V s 1 0).1,c with
  | [n],_=>refine ⟨b,n,by grind,a,(d n (by simp_all)).1,?_⟩;rintro rfl;trivial
def rbStep (k:Nat) (l:List Op) (q:Int × J3) (o:Op):Option (Ctl (Int × Int × List Op) (Ctl (List Op) (List Op × Bool))):=
 if Dc (q.1<0) then (some (.done (.done (([]:List Op),false))))
 else ((app 40 l ([(⟨o.q,o.T,q.2⟩:Op)])).bind λh=>some (.go (q.1,J8 ((k:Int)+1),h)))
theorem zzg (s:J3) (k m:Nat) (l:List Op) (q:Int × J3) (o:Op) (f:k<1000) (hl:l.length=k) (c:q.1= -1\/∃b:Nat,q.1=(b:Int)/\b<=s.length):
 (∃s':Int × Int × List Op,rbStep k l q o=some (.go s')/\s'.2.1=((k+1:Nat):Int)/\(∃a:Nat,s'.1=(a:Int)/\a<=s.length)/\s'.2.2.length=k+1)\/
 (∃r:Ctl (List Op) (List Op × Bool),rbStep k l q o=some (.done r)/\((∃l:List Op,r= .go l/\l.length=m)\/r= .done ([],false))):=by
 rcases c with c | ⟨d,c,e⟩
 ·right;exact ⟨.done ([],false),by unfold rbStep;simp_all,.inr rfl⟩
 ·left;refine ⟨(q.1,((k+1:Nat):Int),l++ [(⟨o.q,o.T,q.2⟩:Op)]),?_,rfl,⟨d,c,e⟩,by simp_all⟩;unfold rbStep;rw[c,dF,ze (by grind) (by simp[hl];omega),za (n:=(k:Int)+1)];rfl
theorem znJ (s:J3) (hs:s.length<=1048576): ∃r,zcV s=some r/\((r.2=true/\batchV r.1=true/\showB r.1=s)\/r=([],false)):=by
 unfold zcV;rw[show zbQ s 0 1=some (l6V s 1 0) from zgY s 0 1 (by omega) (by decide) (by decide)];simp only[Rv];rcases zA1 (s:=s) with e | ⟨b,n,e,u,A,B⟩
 ·simp_all
 ·rw[e];have v:idx [n] (0:Int)=some n:=rfl;rw[dF (by omega: ¬(b:Int)<0)];simp only[Rw,iF,v,Rv];by_cases w:n>6
  ·simp_all
  rw[dF w];obtain ⟨m,rfl⟩: ∃m:Nat,n=(m:Int):=⟨n.toNat,by omega⟩;refine zbx (R:=List Op × Bool) (ρ:=List Op) (λo=>∃r,o=some r/\((r.2=true/\batchV r.1=true/\showB r.1=s)\/r=([],false))) (λk (S:Int × Int × List Op)=>S.2.1=(k:Int)/\(∃a:Nat,S.1=(a:Int)/\a<=s.length)/\S.2.2.length=k) m
   (λr=>(∃l,r= .go l/\l.length=m)\/r= .done ([],false)) ⟨rfl,⟨b,rfl,u⟩,rfl⟩ ?_ ?_ ?_
  ·rintro k ⟨i,c,l⟩ C ⟨x,⟨a,y,D⟩,hl⟩;subst x y;simp only[dT (by omega:(k:Int)<(m:Int)),iT];by_cases d:(a:Int)>=(s.length:Int)
   ·right;exact ⟨.done ([],false),by rw[dT d];rfl,.inr rfl⟩
   ·have z:a<s.length:=by omega
    rw[dF d];simp only[Rw,iF,zc6 s a z,Rv];rw[za (n:=(a:Int)+1),show (a:Int)+1=((a+1:Nat):Int) by omega,zgX s (a+1) (by omega) hs];simp only[Rv];have E:=λq f o=>zzg s k m l q o (by omega) hl f;have j:=zp1 s (a+1) (by omega);generalize takeB s (a+1)=g at j;by_cases F:(s[a].toNat:Int)=1
    ·rw[dT F];exact E (g.2,[]) j ⟨g.1,true,[]⟩
    ·rw[dF F];rcases j with f | ⟨h,f,p⟩
     ·rw[f,zrY];exact E (-1,[]) (.inl rfl) ⟨g.1,false,[]⟩
     ·rw[f,zgX s h p hs];exact E ((takeB s h).2,(takeB s h).1) (zp1 s h p) ⟨g.1,false,[]⟩
  ·simp_all
  ·rintro r (⟨l,rfl,hl⟩ | rfl)
   ·simp only[zd];by_cases t:(l.length:Int)=0
    ·rw[dT t];exact ⟨_,rfl,.inr rfl⟩
    ·rw[dF t,zhc l (by omega)];simp only[Rw,iF,Rv];by_cases d:shownB l=s
     ·rw[dT d];unfold shownB at d;grind
     ·rw[dF d];exact ⟨_,rfl,.inr rfl⟩
   ·exact ⟨_,rfl,.inr rfl⟩
theorem zlr (h:batchV l=true):zcV (showB l)=some (l,true):=by
 obtain ⟨⟨L,M⟩,B⟩:=zbF h;have N:=zjH h;have hs:(showB l).length<=1048576:=by omega
 have C:(showB l).drop 0=varV (l.length:Int)++(l.flatMap opB++ []):=by rw[Wg,Td];rfl
 have D:l6V (showB l) 1 0=([(l.length:Int)],((0+(varV (l.length:Int)).length:Nat):Int)):=by have:=zwW (showB l) [(l.length:Int)] 0 (l.flatMap opB++ []) (λx a=>by rw[Vi]at a;rw[a];omega) (Sm _) (by simpa using C);simp_all
 unfold zcV;rw[show zbQ (showB l) (0:Int) (1:Int)=some (l6V (showB l) 1 0) from zgY (showB l) 0 1 (by omega) (by decide) (by decide),D];have E:idx [(l.length:Int)] 0=some (l.length:Int):=rfl;simp only[Rv];simp only[E];rw[dF];simp only[Rw,iF,Rv];rw[dF (by omega: ¬(l.length:Int)>6)];let p (k:Nat):Nat:=0+(varV (l.length:Int)).length+((l.take k).flatMap opB).length;have V: ∀k (c:k<l.length),(showB l).drop (p k)=opB l[k]++((l.drop (k+1)).flatMap opB++ []):=by
  intro k c;have:(l.flatMap opB++ []:J3)=(l.take k).flatMap opB++(opB l[k]++((l.drop (k+1)).flatMap opB++ [])):=by
   conv=>lhs;rw[<-Tv k l,Sd c,List.flatMap_append,List.flatMap_cons]
   simp only[Ty,Td]
  grind
 refine zt (λk (S:Int × Int × List Op)=>S=(((p k:Nat):Int),(k:Int),l.take k)) l.length (λr=>r= .go l) (by simp[p]) ?_ ?_ ?_
 ·rintro k _ c rfl;left;have F:=B _ (Rx c);obtain ⟨⟨O,P⟩,R,G⟩:=zi9 F;have g:=V k c;have u:l.take (k+1)=l.take k++ [l[k]]:=by rw[List.take_add_one,Th c];rfl
  have v:p (k+1)=p k+(opB l[k]).length:=by grind
  have H:=congrArg Tl g;rw[Sw,Sy]at H;have U:1<=(opB l[k]).length:=by unfold opB;cases l[k].T<;>simp<;>omega
  have w:p k<(showB l).length:=by omega
  simp only[dT (by omega:(k:Int)<(l.length:Int)),iT];rw[dF (by omega: ¬(p k:Int)>=(((showB l).length:Nat):Int))];simp only[Rw,iF,zc6 (showB l) (p k) w,Rv];rw[za (n:=(p k:Int)+1),show (p k:Int)+1=((p k+1:Nat):Int) by omega,zgX (showB l) (p k+1) (by omega) hs];simp only[Rv];refine ⟨(((p (k+1):Nat):Int),((k+1:Nat):Int),l.take (k+1)),?_,rfl⟩;have y:J8 ((k:Int)+1)=((k+1:Nat):Int):=by rw[za];omega
  have z: ∀o:Op,app 40 (l.take k) [o]=some (l.take k++ [o]):=λo=>ze (by simp;omega) (by simp;omega);have A: ∀(x:UInt8) (r:J3),(showB l).drop (p k)=x::r->(showB l)[p k]=x:=by intro x r a;rw[Sd w]at a;exact (Xf a).1
  cases e:l[k].T with
  | true=>
    have I:=G e;have f:opB l[k]= [1]++(pieceV l[k].q++ []):=by unfold opB;rw[e];simp
    have b:=g;rw[f]at b;simp only[Ty,Wa,Td,Uy,Ta]at b;have a:=A _ _ b;have d:(showB l).drop (p k+1)=pieceV l[k].q++(l.drop (k+1)).flatMap opB:=by have:(showB l).drop (p k)= [(1:UInt8)]++(pieceV l[k].q++(l.drop (k+1)).flatMap opB):=b;exact zem this
    have i:=congrArg Tl d;rw[Sw,Sy]at i;have j:=zpc d (by omega) (by omega);have m:(opB l[k]).length=1+(pieceV l[k].q).length:=by rw[f];simp;omega
    rw[j,a];have s:((((1:UInt8)).toNat:Nat):Int)=1:=rfl;simp only[s,decide_true,Si,Rw,iF,zd];rw[dF (by omega: ¬((p k+1+(pieceV l[k].q).length:Nat):Int)<0)];simp only[Rw,iF,z,Rv,y];rw[u,v,m];have t:(⟨l[k].q,true,[]⟩:Op)=l[k]:=by rw[<-e,<-I]
    rw[t,Nat.add_assoc]
  | false=>
    have f:opB l[k]= [0]++(pieceV l[k].q++pieceV l[k].Q):=by unfold opB;rw[e];simp
    have b:=g;rw[f]at b;simp only[Ty,Wa,Td,Uy,Ta]at b;have a:=A _ _ b;have d:(showB l).drop (p k+1)=pieceV l[k].q++(pieceV l[k].Q++(l.drop (k+1)).flatMap opB):=by have:(showB l).drop (p k)= [(0:UInt8)]++(pieceV l[k].q++(pieceV l[k].Q++(l.drop (k+1)).flatMap opB)):=b;exact zem this
    have i:=congrArg Tl d;rw[Sw,Sy,Sy]at i;have J:=zem d;have j:=zpc d (by omega) (by omega);have K:=zpc J (by omega) (by omega);have m:(opB l[k]).length=1+((pieceV l[k].q).length+(pieceV l[k].Q).length):=by rw[f];simp;omega
    rw[j,a];have s:((((0:UInt8)).toNat:Nat):Int)=0:=rfl;simp only[s,dF (by decide: ¬(0:Int)=1),Te,iT];rw[zgX (showB l) (p k+1+(pieceV l[k].q).length) (by omega) hs,K];simp only[Rv,zd];rw[dF];simp only[Rw,iF,z,Rv,y];rw[u,v,m];have t:(⟨l[k].q,false,l[k].Q⟩:Op)=l[k]:=by rw[<-e]
    rw[t];congr 3;omega
 ·rintro _ rfl;exact ⟨.go l,by simp,rfl⟩
 ·rintro r rfl;simp only[zd];rw[dF (by omega: ¬(l.length:Int)=0),zhc l (by omega)];have:shownB l=showB l:=by unfold shownB;simp_all
  simp[this]
def zr7 (s:J3) (hs:s.length<=1048576):zcV s=some (readB s):=by
 obtain ⟨r,a,h | h⟩:=znJ s hs
 ·obtain ⟨c,d,e⟩:=h;rw[a,<-e,zrx d,<-c]
 ·rw[a,h];cases b:(readB s).2 with
  | false=>rw[zpV b]
  | true=>obtain ⟨f,g⟩:=zpW b;have:=zlr f;simp_all
def fstV (p:α->Bool) (l:List α):Int:=match l.findIdx? p with
 | some j=>(j:Int)
 | none=>-1
theorem zcR (p:α->Bool) (l:List α) (hl:l.length<=1048576) {body:Int->Option (Ctl Int (Ctl Unit R))} (g:Int->R) {f:Unit->Option R} (m:f ()=some z) (h: ∀k (a:k<l.length),body (k:Int)=some (if p l[k]=true then .done (.done (g (k:Int))) else .go ((k:Int)+1))) (b:body (l.length:Int)=some (.done (.go ()))):
 bindC (loopO body 0) f=some (match l.findIdx? p with | some j=>g (j:Int) | none=>z):=by
 have key: ∀(n k:Nat),k+n=l.length->(∀i (hi:i<l.length),i<k->p l[i]=false)->bindC (loopO body (k:Int)) f=some (match l.findIdx? p with | some j=>g (j:Int) | none=>z):=by
  intro n;induction n with
  | zero=>
    intro k a c;have:k=l.length:=by omega
    subst this;rw[zE,b];have:l.findIdx? p=none:=by rw[List.findIdx?_eq_none_iff];intro x d;obtain ⟨i,hi,rfl⟩:=Sf d;simp_all
    rw[this];trivial
  | succ n ih=>
    intro k a c;have e:k<l.length:=by omega
    rw[zE,h k e];cases o:p l[k] with
    | true=>
      have:l.findIdx? p=some k:=by rw[To];simp_all
      simp_all
    | false=>have:=ih (k+1) (by omega) (λi hi q=>by grind);trivial
 exact key l.length 0 (by omega) (λi _ h=>by omega)
theorem zn2 (l:List Ar) (id:Int) (h:l.length<=1048576):zei l id=some (fstV (λt=>decide (t.j=id)) l):=by refine zcR (λt:Ar=>decide (t.j=id)) l h (λj=>j) rfl (λk a=>?_) (by simp);simp only[zb l k a,Rv];rw[iP,za];grind
theorem zqm (s:Af) (id:Int) (h:s.a.length<=1048576):zb9 s id=some (fstV (λt=>decide (t.j=id)) s.a):=by
 unfold zb9 zbv fstV;rw[zcR (λt:Ar=>decide (t.j=id)) s.a h (λj=>j) rfl (λk b=>?_) (by simp)]
 ·rfl
 ·simp only[zb s.a k b,Rv,zii];rw[iP,za];grind
theorem zi6 (d:Ba) (t:Int) (h:d.J.length<=1048576):zfD d t=some (fstV (λx=>decide (x.r=t)) d.J):=by
 unfold zfD zbB fstV;rw[zcR (λx:Bb=>decide (x.r=t)) d.J h (λj=>j) rfl (λk a=>?_) (by simp)]
 ·rfl
 ·simp only[zb d.J k a,Rv,zjR];rw[iP,za];grind
def zwj (n:Int):zdV n=some (Dc (0<=n/\n<=1000000)):=by unfold zdV;rw[zY];rfl
def zkf (d:Ba):zdf d=zbq d:=by unfold zdf zbq;simp only[zwj,zpR,zW,ge_iff_le]
def zxm (d:Ba) (h:d.J.length<=1048576): ∃b,zbq d=some b:=by
 unfold zbq;simp only[zW,Rv];have a: ∃B,(if !(Dc ((d.S.length:Int)=32)) then (some true)
  else (if Dc ((d.J.length:Int)>4) then (some true)
 else (some (!Dc (0<=d.L/\d.L<=1000000)))))=some B:=by
  split
  ·trivial
  ·split<;>exact ⟨_,rfl⟩
 obtain ⟨B,a⟩:=a;rw[a];simp only[Rv];cases B with
 | true=>exact ⟨_,rfl⟩
 | false=>
   refine zxo (zxJ (λk s=>s=(k:Int)) d.J.length rfl ?_ ?_) (λ_=>⟨_,rfl⟩)
   ·rintro k _ c rfl;simp only[zb d.J k c,Rv];rw[iP];have e: ∃b,(if !Dc (1<=d.J[k].r/\d.J[k].r<=99) then (some true)
     else (if !(Dc (((d.J[k].q.length:Nat):Int)=32)) then (some true)
 else (if Dc ((k:Int)>0) then ((idx d.J (J8 ((k:Int) - 1))).bind λA=>
 some (Dc (A.r>=d.J[k].r)))
 else (some false))))=some b:=by
     split
     ·trivial
     ·split
      ·trivial
      ·by_cases g:0<k
       ·rw[iP,za (n:=(k:Int) - 1),show (k:Int) - 1=((k - 1:Nat):Int) by omega,zb d.J (k - 1) (by omega)]
        simp
       ·simp_all
    obtain ⟨b,f⟩:=e
    rw[f]
    cases b with
    | true=>exact .inr ⟨_,rfl⟩
    | false=>exact .inl ⟨_,rfl,by rw[za];omega⟩
   ·simp
def keysV (d:Ba):Bool:=(zbq d).getD false
def zhI (d:Ba) (h:d.J.length<=1048576):zbq d=some (keysV d):=by obtain ⟨b,a⟩:=zxm d h;unfold keysV;rw[a];rfl
def keyOfV (d:Ba) (t:Int):J3:=bif keysV d then (match d.J.findIdx? (λx=>decide (x.r=t)) with | some j=>((d.J[j]?).map Bb.q).getD [] | none=>[]) else []
theorem zhs (d:Ba) (t:Int) (h:d.J.length<=1048576):zef d t=some (keyOfV d t):=by
 unfold zef keyOfV;simp only[zhI d h,Rv];cases keysV d with
 | false=>rw[zE];simp
 | true=>
   rw[zcR (λx:Bb=>decide (x.r=t)) d.J h (λj=>((d.J[j.toNat]?).map Bb.q).getD []) (z:=[]) rfl (λk a=>?_) (by simp)]
   ·rfl
   ·simp only[dT (by omega),iT,Rv,zb d.J k a,Sa,Th a,Vh,Up];rw[za];grind
def zjP (d:Ba) (t:Int) (h:d.J.length<=1048576):zia d t=some (keyOfV d t):=by
 unfold zia keyOfV;rw[zi6 d t h,zkf,zhI d h];simp only[Rv];unfold fstV;cases b:d.J.findIdx? (λx=>decide (x.r=t)) with
 | none=>cases keysV d<;>rfl
 | some j=>
   have a:j<d.J.length:=(To.1 b).1;simp only;rw[dF];cases keysV d with
   | false=>rfl
   | true=>simp[zb d.J j a,Th a]
def zvy (t:J3):((readB t).2=true/\batchV (readB t).1=true/\(showB (readB t).1)=t)\/readB t=([],false):=by
 cases h:(readB t).2 with
 | true=>exact .inl ⟨rfl,zpW h⟩
 | false=>exact .inr (zpV h)
theorem zj9 (key:J3) (boot seq:Int) (s:J3) (h:s.length<=1048576):zcU key boot seq s=some (openB key boot seq s):=by
 unfold zcU openB;have hs:=zp0 key 0 (placeN boot seq) s;have f:=zr7 (streamV key 0 (placeN boot seq) s) (by omega);have g: ¬s.length<=300->readB (streamV key 0 (placeN boot seq) s)=([],false):=by
  intro c;rcases zvy (streamV key 0 (placeN boot seq) s) with ⟨_,d,i⟩ | h
  ·have b:=zjH d;have a:=zqx d;rw[i]at b a;unfold streamV at b a;cases e:streamOk key 0 (placeN boot seq) s.length with
   | true=>rw[e,cond_true,zcd]at b;omega
   | false=>rw[e]at a;exact absurd rfl a
  ·exact h
 simp only[zpa,ziK,len32,Rv,zj7 key 0 _ s (by omega)];unfold placeN at f g;unfold placeN;grind
def zqs (key:J3) (boot seq:Int) (s:J3):((openB key boot seq s).2=true/\batchV (openB key boot seq s).1=true)\/openB key boot seq s=([],false):=by
 unfold openB;cases Dc (key.length=32)&&(placeV boot seq&&Dc (s.length<=300)) with
 | false=>exact .inr rfl
 | true=>
   rcases zvy (streamV key 0 (placeN boot seq) s) with ⟨a,b,_⟩ | h
   ·simp_all
   ·simp_all
def repS (key:J3):Aa->List A5->Aa × Bool
 | e,[]=>(e,true)
 | e,r::rs=>bif (openB key r.H r.c r.O).2&&(putR e (openB key r.H r.c r.O).1).2 then repS key (putR e (openB key r.H r.c r.O).1).1 rs else (⟨[],[],0,[]⟩,false)
theorem zgk (h:(putR e l).2=true):engV e=true/\batchV l=true/\okB e l=true/\(putR e l).1=engB e l:=by
 unfold putR at h |-
 grind
theorem zup (key:J3) (tabs:List (List Ac)) (rows:List A5) (p:rows.length<=1048576) (g: ∀r∈rows,r.O.length<=1048576) {body:Int × Int × List Ac->Option (Ctl (Int × Int × List Ac) (Ctl (Int × List Ac) (Aa × Bool)))} (e:body=λ(A:Int × Int × List Ac)=>if Dc (A.2.1<(rows.length:Int)) then ((idx rows A.2.1).bind λB=>
 (zeH key B.H B.c B.O).bind λF=>
 (if !F.2 then (some (A.1,true,A.2.2))
 else ((zd1 (⟨A.2.2,tabs,A.1,[]⟩:Aa) F.1).bind λD=>
 some (D.2.c,!D.1,D.2.G))).bind (λ(E:Int × Bool × List Ac)=>if E.2.1=true then some (.done (.done ((⟨[],[],0,[]⟩:Aa),false)))else some (.go (E.1,J8 (A.2.1+1),E.2.2))))
 else (some (.done (.go (A.1,A.2.2))))):
  ∀(n k:Nat) (seq:Int) (mem:List Ac),k+n=rows.length->engV ⟨mem,tabs,seq,[]⟩=true->
   bindC (loopO body (seq,(k:Int),mem)) (λ(I:Int × List Ac)=>some ((⟨I.2,tabs,I.1,[]⟩:Aa),true))=some (repS key ⟨mem,tabs,seq,[]⟩ (rows.drop k)):=by
 intro n;induction n with
 | zero=>
   intro k seq mem i a;have:k=rows.length:=by omega
   subst this;rw[zE,e];simp[bindC,repS]
 | succ n ih=>
   intro k seq mem i a;have b:k<rows.length:=by omega
   rw[zE,Sd b];have j:body (seq,(k:Int),mem)=some (bif (openB key rows[k].H rows[k].c rows[k].O).2&&(putR ⟨mem,tabs,seq,[]⟩ (openB key rows[k].H rows[k].c rows[k].O).1).2 then
    .go ((putR ⟨mem,tabs,seq,[]⟩ (openB key rows[k].H rows[k].c rows[k].O).1).1.c,(k:Int)+1,(putR ⟨mem,tabs,seq,[]⟩ (openB key rows[k].H rows[k].c rows[k].O).1).1.G)
    else .done (.done (⟨[],[],0,[]⟩,false))):=by
    rw[e]
    simp only[zb rows k b,Rv,zpA key _ _ _ (g _ (Rx b))]
    rw[iP,za (n:=(k:Int)+1)]
    rcases zqs key rows[k].H rows[k].c rows[k].O with ⟨l,d⟩ | h
    ·rw[l];simp only[Si,Rw,iF,Vp,zsq _ _ a d,Rv];unfold putR;grind
    ·simp_all
   rw[j];simp only[repS];cases m:((openB key rows[k].H rows[k].c rows[k].O).2&&(putR ⟨mem,tabs,seq,[]⟩ (openB key rows[k].H rows[k].c rows[k].O).1).2) with
   | false=>rfl
   | true=>
     have d:=(Sg _ _ ▸ m:_/\_).2;obtain ⟨q,s,t,o⟩:=zgk d;have f:=zsD a (openB key rows[k].H rows[k].c rows[k].O).1;rw[o]at f |-
     have:=ih (k+1) _ _ (by omega) f;trivial
def rep0 (t:Ar):Aa:=⟨[],t.m.D,t.F,[]⟩
def zl9 (s:Af) (t:Ar) (rows:List A5) (a:rows.length<=1048576) (b: ∀r∈rows,r.O.length<=1048576) (c:s.A.J.length<=1048576) (d:engV t.m=true) (e:engV (rep0 t)=true):
    zdI s t rows=some (repS (keyOfV s.A t.j) (rep0 t) rows):=by unfold zdI;obtain ⟨g,h,i,k,f⟩:=zce d;rw[zlE t.m (by omega) (by omega) f (by omega),zjP s.A t.j c];have:=zup (keyOfV s.A t.j) t.m.D rows a b rfl rows.length 0 t.F [] (by omega) e;trivial
def rowsV (s:Af) (id:Int):List A5:=s.x.filter λr=>decide (r.r=id)
theorem zij (s:Af) (id:Int) (h:s.x.length<=1048576):zda s id=some (rowsV s id):=by
 unfold zda rowsV;refine zt (λk (S:Int × List A5)=>S=((k:Int),(s.x.take k).filter λr=>decide (r.r=id))) s.x.length (λr=>r= .go (s.x.filter λr=>decide (r.r=id))) rfl ?_ ?_ (λr b=>by simp_all)
 ·rintro k _ a rfl;left;refine ⟨_,?_,rfl⟩;simp only[zb s.x k a,Rv];rw[iP,za (n:=(k:Int)+1),zl7 _ s.x k a];cases c:Dc (s.x[k].r=id) with
  | false=>simp[bindC]
  | true=>rw[iP rfl,ze (by grind) (by grind)];rfl
 ·simp
def chkS (key:J3) (base:Int):Int->Aa->List A5->Aa × Bool
 | _,e,[]=>(e,true)
 | n,e,r::rs=>bif ((openB key r.H r.c r.O).2&&(putR e (openB key r.H r.c r.O).1).2)&&Dc (r.c=base+(n+1)) then chkS key base (n+1) (putR e (openB key r.H r.c r.O).1).1 rs else (⟨[],[],0,[]⟩,false)
theorem zy1 (s:Af) (t:Ar) (key:J3) (w:s.x.length<=1048576) (g: ∀r∈s.x,r.O.length<=1048576) (y:0<=t.F/\t.F<=1000000) {body:Int × Int × Int × List Ac × List (List Ac) × List Int->Option (Ctl (Int × Int × Int × List Ac × List (List Ac) × List Int) (Ctl (Int × Int × List Ac × List (List Ac) × List Int) Bool))} (b:body=λ(J:Int × Int × Int × List Ac × List (List Ac) × List Int)=>if Dc (J.2.2.1<(s.x.length:Int)) then (bindC ((idx s.x J.2.2.1).bind λM=>
 if !(Dc (M.r=t.j)) then (some (.go (J.1,J.2.1,J.2.2.2.1,J.2.2.2.2.1,J.2.2.2.2.2)))
 else ((zcU key M.H M.c M.O).bind λW=>
 (zcq (⟨J.2.2.2.1,J.2.2.2.2.1,J.2.1,J.2.2.2.2.2⟩:Aa) W.1).bind λU=>
 (if !W.2 then (some (true,J.2.2.2.2.1))
 else (if !U.2 then (some (true,J.2.2.2.2.1))
 else (some (!(Dc (M.c=J8 (t.F+(J8 (J.1+1))))),J.2.2.2.2.1)))).bind (λ(Z:Bool × List (List Ac))=>if Z.1=true then some (.done (.done (.done false)))else some (.go (J8 (J.1+1),U.1.c,U.1.G,U.1.D,U.1.u)))))
 (λ(V:Int × Int × List Ac × List (List Ac) × List Int)=>some (.go (V.1,V.2.1,J8 (J.2.2.1+1),V.2.2.1,V.2.2.2.1,V.2.2.2.2))))
 else (some (.done (.go (J.1,J.2.1,J.2.2.2.1,J.2.2.2.2.1,J.2.2.2.2.2))))):
  ∀(n k:Nat) (I:Int) (e:Aa),k+n=s.x.length->smallE e->(0<=I/\I<=(k:Int))->
   loopO body (I,e.c,(k:Int),e.G,e.D,e.u)=some (bif (chkS key t.F I e ((s.x.drop k).filter λr=>decide (r.r=t.j))).2 then
    .go (I+(((s.x.drop k).filter λr=>decide (r.r=t.j)).length:Int),(chkS key t.F I e ((s.x.drop k).filter λr=>decide (r.r=t.j))).1.c,(chkS key t.F I e ((s.x.drop k).filter λr=>decide (r.r=t.j))).1.G,(chkS key t.F I e ((s.x.drop k).filter λr=>decide (r.r=t.j))).1.D,(chkS key t.F I e ((s.x.drop k).filter λr=>decide (r.r=t.j))).1.u)
    else .done false):=by
 intro n;induction n with
 | zero=>
   intro k I e i hs l;have:k=s.x.length:=by omega
   subst this;rw[zE,b];simp[chkS]
 | succ n ih=>
   intro k I e i hs l;have a:k<s.x.length:=by omega
   have d:J8 ((k:Int)+1)=((k+1:Nat):Int):=by rw[za];omega
   have m:J8 (I+1)=I+1:=za;have o:J8 (t.F+(I+1))=t.F+(I+1):=za;rw[zE,Sd a];by_cases c:s.x[k].r=t.j
   ·rw[List.filter_cons_of_pos (by grind)];have p:(openB key s.x[k].H s.x[k].c s.x[k].O).1.length<=1048576:=by
     rcases zqs key s.x[k].H s.x[k].c s.x[k].O with ⟨_,q⟩ | h
     ·have:=(zbF q).1;omega
     ·grind
    obtain ⟨z,A,B,C⟩:=id hs;have v:=zgO e (openB key s.x[k].H s.x[k].c s.x[k].O).1 (by omega) (by omega) (by omega) (by omega) p;have f:body (I,e.c,(k:Int),e.G,e.D,e.u)=some (bif ((openB key s.x[k].H s.x[k].c s.x[k].O).2&&(putR e (openB key s.x[k].H s.x[k].c s.x[k].O).1).2)&&Dc (s.x[k].c=t.F+(I+1)) then
     .go (I+1,(putR e (openB key s.x[k].H s.x[k].c s.x[k].O).1).1.c,((k+1:Nat):Int),(putR e (openB key s.x[k].H s.x[k].c s.x[k].O).1).1.G,(putR e (openB key s.x[k].H s.x[k].c s.x[k].O).1).1.D,(putR e (openB key s.x[k].H s.x[k].c s.x[k].O).1).1.u)
     else .done (.done false)):=by
     rw[b]
     simp only[zb s.x k a,Rv,zj9 key _ _ _ (g _ (Rx a)),v,d,m,o]
     rw[iP (by grind),iN (by grind)]
     cases (openB key s.x[k].H s.x[k].c s.x[k].O).2<;>cases (putR e (openB key s.x[k].H s.x[k].c s.x[k].O).1).2<;>cases Dc (s.x[k].c=t.F+(I+1))<;>rfl
    rw[f];simp only[chkS];cases E:(((openB key s.x[k].H s.x[k].c s.x[k].O).2&&(putR e (openB key s.x[k].H s.x[k].c s.x[k].O).1).2)&&Dc (s.x[k].c=t.F+(I+1))) with
    | false=>rfl
    | true=>simp only[cT];rw[ih (k+1) (I+1) _ (by omega) (zxO hs _) (by omega)];grind
   ·rw[List.filter_cons_of_neg (by grind)];have f:body (I,e.c,(k:Int),e.G,e.D,e.u)=some (.go (I,e.c,((k+1:Nat):Int),e.G,e.D,e.u)):=by rw[b];simp only[zb s.x k a,Rv,d];rw[iP (by grind),iP (by grind)];rfl
    grind
theorem zwG (key:J3) (base:Int): ∀(h:List A5) (n:Int) (e:Aa),chkS key base n e h=bif (repS key e h).2&&((Ul h.length).all λi=>match h[i]? with | some r=>decide (r.c=base+(n+1+i)) | none=>true) then ((repS key e h).1,true) else (⟨[],[],0,[]⟩,false)
 | [],n,e=>rfl
 | r::h,n,e=>by
   have a:((Ul (r::h).length).all λi=>match (r::h)[i]? with | some r=>decide (r.c=base+(n+1+i)) | none=>true)=(Dc (r.c=base+(n+1))&&((Ul h.length).all λi=>match h[i]? with | some r=>decide (r.c=base+(n+1+1+i)) | none=>true)):=by rw[Tf,List.range_succ_eq_map,List.all_cons,List.all_map];grind
   rw[a];simp only[chkS,repS];rw[zwG key base h (n+1)];grind
def seqsV (base:Int) (h:List A5):Bool:=(Ul h.length).all λi=>match h[i]? with | some r=>decide (r.c=base+(0+1+i)) | none=>true
def tenV (s:Af) (t:Ar):Bool:=
 (Dc (0<=t.I/\t.I<=1000000)&&Dc (0<=t.F/\t.F<=1000000))&&((Dc (t.m.u.length<=2)&&Dc (t.m.D.length<=1))&&(engV t.m&&
   ((Dc ((rowsV s t.j).length<=6)&&Dc (t.F+((rowsV s t.j).length:Int)=t.m.c))&&(seqsV t.F (rowsV s t.j)&&(engV (rep0 t)&&((repS (keyOfV s.A t.j) (rep0 t) (rowsV s t.j)).2&&Dc ((repS (keyOfV s.A t.j) (rep0 t) (rowsV s t.j)).1.G=t.m.G)))))))
def zpo (key:J3): ∀(A:List A5) (e:Aa),engV e=true->(repS key e A).2=true->engV (repS key e A).1=true
 | [],e,h,_=>h
 | r::A,e,h,a=>by
   simp only[repS]at a |-
   cases b:(openB key r.H r.c r.O).2&&(putR e (openB key r.H r.c r.O).1).2 with
   | false=>rw[b]at a;cases a
   | true=>rw[b]at a;exact zpo key A _ (zsD h _) a
structure smallT (t:Ar):Prop where
 mem:t.m.G.length<=1048576
 tables:t.m.D.length<=1048576
 total:totalV t.m.D<=1048576
 snaps:t.m.u.length<=1048576
structure smallS (s:Af):Prop where
 each: ∀t∈s.a,smallT t
 rows:s.x.length<=1048576
 text: ∀r∈s.x,r.O.length<=1048576
 tens:s.a.length<=1048576
 slots:s.A.J.length<=1048576
 shares:s.s.t.length<=1048576
 hist:s.P.length<=1048576
def mineV (s:Af) (t:Ar):Bool:=
 Dc (t.m.D.length<=1)&&((Dc ((rowsV s t.j).length<=6)&&Dc (t.F+((rowsV s t.j).length:Int)=t.m.c))&&(seqsV t.F (rowsV s t.j)&&(engV (rep0 t)&&((repS (keyOfV s.A t.j) (rep0 t) (rowsV s t.j)).2&&Dc ((repS (keyOfV s.A t.j) (rep0 t) (rowsV s t.j)).1.G=t.m.G)))))
def zxW (key:J3) (A:List A5) (e:Aa) (h:(repS key e A).2=true) (b:A≠[]):engV e=true:=by
 cases A with
 | nil=>exact absurd rfl b
 | cons r A=>
   simp only[repS]at h;cases a:(openB key r.H r.c r.O).2&&(putR e (openB key r.H r.c r.O).1).2 with
   | false=>rw[a]at h;cases h
   | true=>rw[Sg]at a;exact (zgk a.2).1
theorem zzR {X:Type} (a b:List Ac) (x:X) (hl:a.length=b.length) (h:a.length<=1048576) {body:Int × X->Option (Ctl (Int × X) (Ctl Unit Bool))} (d:body=λ(A:Int × X)=>if Dc (A.1<(a.length:Int)) then ((idx a A.1).bind λB=>
 (idx b A.1).bind λD=>
 if !(Dc (B.q=D.q)&&(Dc (B.c=D.c)&&(Dc (B.T=D.T)&&(Dc (B.Q=D.Q)&&true)))) then (some (.done (.done false)))
 else (some (.go (J8 (A.1+1),A.2))))
 else (some (.done (.go ())))) (f:Unit->Option Bool):bindC (loopO body (0,x)) f=bif Dc (a=b) then f () else some false:=by
 have key: ∀(n k:Nat),k+n=a.length->bindC (loopO body ((k:Int),x)) f=bif Dc (a.drop k=b.drop k) then f () else some false:=by
  intro n;induction n with
  | zero=>
    intro k i;have:k=a.length:=by omega
    subst this;rw[zE,d,Ub,hl,Ub];simp
  | succ n ih=>
    intro k i;have e:k<a.length:=by omega
    have g:k<b.length:=by omega
    have E:(Dc (a[k].q=b[k].q)&&(Dc (a[k].c=b[k].c)&&(Dc (a[k].T=b[k].T)&&(Dc (a[k].Q=b[k].Q)&&true))))=Dc (a[k]=b[k]):=by generalize a[k]=y;generalize b[k]=z;obtain ⟨l,y2,m,o⟩:=y;obtain ⟨p,s,t,u⟩:=z;simp
    have j:body ((k:Int),x)=some (if Dc (a[k]=b[k]) then .go (((k+1:Nat):Int),x) else .done (.done false)):=by rw[d];simp only[zb a k e,zb b k g,Rv,E];rw[iP,za (n:=(k:Int)+1)];grind
    rw[zE,j,Sd e,Sd g];by_cases c:a[k]=b[k]
    ·grind
    ·rw[dF c,dF λh=>c (Xf h).1];rfl
 have:=key a.length 0 (by omega);trivial
def zrV (s:Af) (t:Ar) (hs:smallS s) (f:smallT t) (a:engV t.m=true) (g:0<=t.F/\t.F<=1000000):ziT s t=some (mineV s t):=by
 unfold ziT;obtain ⟨E,k,n,H⟩:=ztY a;have p:smallE (rep0 t):=⟨by simp[rep0],k,n,by simp[rep0]⟩;have hl:=zy1 s t (keyOfV s.A t.j) hs.rows hs.text g rfl s.x.length 0 0 (rep0 t) (by omega) p (by omega);rw[Wg,zwG]at hl;rw[zhs s.A t.j hs.slots,Rv];refine Eq.trans (congrArg (λo=>bindC o _) hl) ?_;have q:((Ul (s.x.filter λr=>decide (r.r=t.j)).length).all λi=>match (s.x.filter λr=>decide (r.r=t.j))[i]? with | some r=>decide (r.c=t.F+(0+1+(i:Int))) | none=>true)=seqsV t.F (rowsV s t.j):=rfl;have v:(s.x.filter λr=>decide (r.r=t.j))=rowsV s t.j:=rfl;rw[q,v];unfold mineV;cases w:(repS (keyOfV s.A t.j) (rep0 t) (rowsV s t.j)).2 with
 | false=>simp[bindC]
 | true=>
 cases I:seqsV t.F (rowsV s t.j) with
 | false=>simp[bindC]
 | true=>
 simp only[Xb,cT,zd];have J:(rowsV s t.j).length<=1048576:=Ue (Tk _ _) hs.rows;by_cases O:(repS (keyOfV s.A t.j) (rep0 t) (rowsV s t.j)).1.G.length=t.m.G.length
 ·rw[dT (by omega:(((repS (keyOfV s.A t.j) (rep0 t) (rowsV s t.j)).1.G.length:Nat):Int)=(t.m.G.length:Int))];simp only[Si,Rw,iF,Rv];by_cases b:t.m.D.length<=1
  ·rw[dF (by omega: ¬(t.m.D.length:Int)>1),dT b];simp only[Rw,iF,Vp];rw[zzR _ _ _ O (by have:=f.mem;omega) rfl];by_cases M:(repS (keyOfV s.A t.j) (rep0 t) (rowsV s t.j)).1.G=t.m.G
   ·rw[dT M];simp only[cT];by_cases d:(rowsV s t.j).length<=6
    ·rw[dT (by omega:(0:Int)+(((rowsV s t.j).length:Nat):Int)<=6),dT d,iP rfl,za,Int.zero_add];by_cases cs:t.F+(((rowsV s t.j).length:Nat):Int)=t.m.c
     ·have y:engV (rep0 t)=true:=by
       cases e:rowsV s t.j with
       | cons r U=>exact zxW _ _ _ w (by rw[e];simp)
       | nil=>
         rw[e]at M cs;have z:t.m.G= []:=M.symm;have B:t.F=t.m.c:=by simpa using cs
         have:=zgw a (l:=[]) (by simp) rfl;have C:rep0 t= {t.m with u:=[]}:=by unfold rep0;rw[B,<-z]
         rw[C];exact this
      rw[dT cs,y];rfl
     ·rw[dF cs];simp
    ·rw[dF (by omega: ¬(0:Int)+(((rowsV s t.j).length:Nat):Int)<=6),dF d];simp
   ·rw[dF M];simp
  ·rw[dT (by omega:(t.m.D.length:Int)>1),dF b];simp
 ·rw[dF (by omega: ¬(((repS (keyOfV s.A t.j) (rep0 t) (rowsV s t.j)).1.G.length:Nat):Int)=(t.m.G.length:Int)),dF (λh=>O (congrArg Tl h): ¬(repS (keyOfV s.A t.j) (rep0 t) (rowsV s t.j)).1.G=t.m.G)];simp
def slotP (s:Af) (i:Nat):Bool:=match s.a[i]?,s.A.J[i]?,s.s.t[i]? with
 | some t,some k,some h=>decide (t.j=k.r)&&(Dc (t.j=h.r)&&tenV s t)
 | _,_,_=>false
def zqy (s:Af) (i:Nat) (b:i<s.a.length) (c:i<s.A.J.length) (d:i<s.s.t.length):slotP s i=(Dc (s.a[i].j=s.A.J[i].r)&&(Dc (s.a[i].j=s.s.t[i].r)&&tenV s s.a[i])):=by unfold slotP;simp_all
def bodyS (s:Af):Bool:=(Ul s.a.length).all (slotP s)&&s.x.all λr=>decide (0<=fstV (λt:Ar=>decide (t.j=r.r)) s.a)
theorem zzB (s:Af) (t:Ar):tenV s t=((Dc (0<=t.I/\t.I<=1000000)&&Dc (0<=t.F/\t.F<=1000000))&&(engV t.m&&(Dc (t.m.u.length<=2)&&mineV s t))):=by unfold tenV mineV;grind
def storeV (s:Af):Bool:=
 (Dc (s.E.length=32)&&(keysV s.A&&(sharesV s.s&&(Dc (0<=s.H/\s.H<=1000)&&(Dc (s.P.length<=120)&&(Dc (s.a.length=s.A.J.length)&&Dc (s.a.length=s.s.t.length)))))))&&bodyS s
theorem zzk (s:Af) (hs:smallS s) {body:Int->Option (Ctl Int (Ctl Unit Bool))} (g:Int->Option Int) (b: ∀id,g id=some (fstV (λt:Ar=>decide (t.j=id)) s.a)) (c:body=λ(h:Int)=>if Dc (h<(s.x.length:Int)) then ((idx s.x h).bind λA=>
 (g A.r).bind λB=>
 if Dc (B<0) then (some (.done (.done false)))
 else (some (.go (J8 (h+1)))))
 else (some (.done (.go ())))):
  bindC (loopO body 0) (λ(_:Unit)=>some true)=some (s.x.all λr=>decide (0<=fstV (λt:Ar=>decide (t.j=r.r)) s.a)):=by
 have e:=hs.rows;rw[passes (ρ:=Unit) s.x (λr=>decide (0<=fstV (λt:Ar=>decide (t.j=r.r)) s.a)) body (λk d=>?_) (by simp_all)]
 ·cases s.x.all λr=>decide (0<=fstV (λt:Ar=>decide (t.j=r.r)) s.a)<;>rfl
 ·rw[c];simp only[zb s.x k d,Rv,b];rw[iP,za (n:=(k:Int)+1)];grind
def lenI (a b:Nat):Dc (((a:Nat):Int)=((b:Nat):Int))=Dc (a=b):=decide_eq_decide.2 (by omega)
theorem histI (a:Nat):Dc (((a:Nat):Int)>120)= !Dc (a<=120):=by grind
theorem snapI (a:Nat):Dc (((a:Nat):Int)>2)= !Dc (a<=2):=by grind
theorem zrO (s:Af) (hs:smallS s):ziL s=some (storeV s):=by
 unfold ziL storeV;simp only[zhI s.A hs.slots,zbg s.s hs.shares,zW,len32,lenI,histI,Rv];cases Dc (s.E.length=32) with
 | false=>rfl
 | true=>
 cases keysV s.A with
 | false=>rfl
 | true=>
 cases sharesV s.s with
 | false=>rfl
 | true=>
 cases e:Dc (s.a.length=s.A.J.length) with
 | false=>simp
 | true=>
 cases f:Dc (s.a.length=s.s.t.length) with
 | false=>simp
 | true=>
 cases Dc (0<=s.H/\s.H<=1000) with
 | false=>rfl
 | true=>
 cases Dc (s.P.length<=120) with
 | false=>rfl
 | true=>
 have g:=of_decide_eq_true e;have h:=of_decide_eq_true f;have i:=hs.tens;rw[zkP (slotP s) s.a.length (λk b=>?_) (by simp)]
 ·unfold bodyS;cases (Ul s.a.length).all (slotP s) with
  | false=>rfl
  | true=>exact zzk s hs (zei s.a) (λid=>zn2 s.a id hs.tens) rfl
 ·have c:k<s.A.J.length:=by omega
  have d:k<s.s.t.length:=by omega
  have B:=hs.each _ (Rx b);rw[zqy s k b c d,zzB];simp only[zb s.a k b,zb s.A.J k c,zb s.s.t k d,Rv,zcb _ B.mem B.tables B.total B.snaps,snapI];rw[iP,za (n:=(k:Int)+1)];cases Dc (s.a[k].j=s.A.J[k].r) with
  | false=>rfl
  | true=>
  cases Dc (s.a[k].j=s.s.t[k].r) with
  | false=>rfl
  | true=>
  cases Dc (0<=s.a[k].I/\s.a[k].I<=1000000) with
  | false=>rfl
  | true=>
  cases D:Dc (0<=s.a[k].F/\s.a[k].F<=1000000) with
  | false=>rfl
  | true=>
  cases G:engV s.a[k].m with
  | false=>rfl
  | true=>
  rw[zrV s _ hs B G (of_decide_eq_true D)];grind
theorem zfB (p:α->Bool) (l:List α):(∃j,∃a:j<l.length,fstV p l=(j:Int)/\p l[j]=true/\∀i (hi:i<j),p (l[i]'(by omega))=false)\/(fstV p l= -1/\∀x∈l,p x=false):=by
 unfold fstV;cases h:l.findIdx? p with
 | none=>exact .inr ⟨rfl,by simp_all⟩
 | some j=>obtain ⟨a,b,c⟩:=To.1 h;grind
def zuy (l:List Am) (id:Int) (h:l.length<=1048576):zcz l id=some (fstV (λt=>decide (t.j=id)) l):=by unfold zcz fstV;refine zcR (λt:Am=>decide (t.j=id)) l h (λj=>j) rfl (λk a=>?_) (by simp);simp only[zb l k a,Rv];rw[iP (by simpa using a),za];cases Dc (l[k].j=id)<;>rfl
def zum (l:List Am) (id:Int) (h:l.length<=1048576):zbW l id=some (fstV (λt=>decide (t.j=id)) l):=by
 unfold zbW zbD fstV;rw[zcR (λt:Am=>decide (t.j=id)) l h (λj=>j) rfl (λk a=>?_) (by simp)]
 ·rfl
 ·simp only[zb l k a,Rv,zk4];rw[iP (by simpa using a),za];cases Dc (l[k].j=id)<;>rfl
def wholeO (l:List α) (k:Nat) (ls:List (Option α)):Prop:=ls.length=l.length/\∀i (hi:i<l.length),k<=i->ls[i]? =some (some l[i])
def ziW (l:List α):wholeO l 0 (l.map some):=⟨by simp,λi hi _=>by simp[hi]⟩
def zg5 {l:List α} (h:wholeO l k ls) (a:k<l.length):idx ls (k:Int)=some (some l[k]):=by unfold idx;exact h.2 k a (Tc _)
def zbR {l:List α} (h:wholeO l k ls):wholeO l (k+1) ls:=⟨h.1,λi hi a=>h.2 i hi (by omega)⟩
def zdl {l:List α} {o:Option α} (h:wholeO l k ls) (b:j<k):wholeO l k (ls.set j o):=
 ⟨by rw[Ww,h.1],λi hi a=>by rw[List.getElem?_set_ne (by omega)];exact h.2 i hi a⟩
theorem zcE (p:α->Bool) (l:List α) (k:Nat) (a:k<l.length):(l.take (k+1)).filter p=(l.take k).filter p++(if p l[k]=true then [l[k]] else []):=by rw[zQ l k a,Ui];grind
theorem ztv (p:α->Bool) (by_:Nat) (h:by_<=100) (l:List α) (hl:l.length<=1048576) {body:Int × List (Option α) × List α->Option (Ctl (Int × List (Option α) × List α) (Ctl (List α) R))} {f:List α->Option R} (e: ∀(k:Nat) ls A,body ((k:Int),ls,A)=if Dc ((k:Int)<(ls.length:Int)) then ((idx ls (k:Int)).bind λF=>
 (F).bind λB=>
 bindC (if p B=true then ((app by_ A ([B])).bind λE=>
 some (.go ((ls.set ((k:Nat):Int).toNat none),E)))
 else (some (.go (ls,A))))
 (λ(D:List (Option α) × List α)=>some (.go (J8 ((k:Int)+1),D.1,D.2))))
 else (some (.done (.go A)))) (j:f (l.filter p)=some z):bindC (loopO body ((0:Int),l.map some,([]:List α))) f=some z:=by
 refine zt (λk (S:Int × List (Option α) × List α)=>S.1=(k:Int)/\wholeO l k S.2.1/\S.2.2=(l.take k).filter p) l.length (λr=>r= .go (l.filter p)) ⟨rfl,ziW l,by simp⟩ ?_ ?_ ?_
 ·rintro k ⟨i,ls,A⟩ b ⟨c,a,d⟩;subst c d;left;have m:((l.take k).filter p).length<=k:=Ue (Tk _ _) (by grind);rw[e,iP (by rw[a.1];simp_all),zg5 a b,Rv,Rv,za (n:=(k:Int)+1)];cases g:p l[k] with
  | true=>rw[iP rfl,ze (by simp only[Ry];have:(((l.take k).filter p).length+1)*by_<=1048577*100:=Xa (by omega) h;omega) (by grind)];refine ⟨_,rfl,rfl,zdl (zbR a) (by simp),?_⟩;rw[zcE p l k b,g];rfl
  | false=>refine ⟨_,rfl,rfl,zbR a,?_⟩;rw[zcE p l k b,g];simp
 ·rintro ⟨i,ls,A⟩ ⟨c,a,d⟩;subst c d;refine ⟨_,?_,rfl⟩;rw[e,iN (by rw[a.1];simp),Tu]
 ·simp_all
def noTen (id:Int) (l:List Am):List Am:=l.filter λt=>!Dc (t.j=id)
def noRow (id:Int) (l:List A7):List A7:=l.filter λt=>!Dc (t.r=id)
def zjI (l:List Am) (id:Int) (h:l.length<=1048576):zeh l id=some (noTen id l):=by unfold zeh;exact ztv (λt:Am=>!Dc (t.j=id)) 72 (by decide) l h (λk ls A=>rfl) rfl
def zlY (l:List A7) (id:Int) (h:l.length<=1048576):zgr l id=some (noRow id l):=by unfold zgr;exact ztv (λt:A7=>!Dc (t.r=id)) 40 (by decide) l h (λk ls A=>rfl) rfl
theorem zlv: ∀s u:J3,(cmpS s u<0↔sLt s u=true)/\(cmpS s u=0↔s=u)
 | [],[]=>by trivial
 | [],_::_=>by simp[cmpS,Lib.compareBytes,sLt,Op.bytesLess]
 | _::_,[]=>by simp[cmpS,Lib.compareBytes,sLt,Op.bytesLess]
 | a::s,b::u=>by
   have ih:=zlv s u;have c:cmpS (a::s) (b::u)=if a<b then -1 else if b<a then 1 else cmpS s u:=rfl
   have d:sLt (a::s) (b::u)=(Dc (a<b)||(a == b&&sLt s u)):=rfl;grind
theorem zm9 (m:List KV) (key:J3) (n:srtK m) (hl:m.length<=1048576): ∃j,∃f:j<=m.length,(∀i (hi:i<m.length),i<j->sLt m[i].q key=true)/\(∀i (hi:i<m.length),j<=i->sLt m[i].q key=false)/\
 zeO m key=some ((j:Int),if h:j<m.length then Dc (m[j].q=key) else false):=by
 obtain ⟨j,f,d,o,p⟩:=bisect (ρ:=Int × Bool) m (λx=>zeP x key) (λx=>cmpS x.q key) (λx _=>rfl) hl;have g: ∀a b (k:a<m.length) (d:b<m.length),a<b->sLt m[a].q m[b].q=true:=λa b k d s=>So.1 n a b k d s;refine ⟨j,f,λi hi t=>?_,λi hi t=>?_,?_⟩
 ·have l:=(zlv _ _).1.1 (o (j - 1) (by omega) (by omega));by_cases e:i=j - 1
  ·simp_all
  ·exact zb3 (g i (j - 1) hi (by omega) (by omega)) l
 ·have c:j<m.length:=by omega
  have l:=p c;cases u:sLt m[i].q key with
  | false=>rfl
  | true=>
    have v:sLt m[j].q key=true:=by
     by_cases e:j=i
     ·simp_all
     ·exact zb3 (g j i c hi (by omega)) u
    have:=(zlv _ _).1.2 v;omega
 ·unfold zeO zbk;rw[d];simp only[zd];by_cases c:j<m.length
  ·rw[dif_pos c,iP,zb m j c];have e:zeP m[j] key=some (cmpS m[j].q key):=rfl;simp only[Rv,e];rw[decide_eq_decide.2 (zlv m[j].q key).2]
  ·grind
def zwL {m:List KV} (a:srtK m) (j:Nat) (b:j<m.length):(m.drop (j+1)).filter (λx=>!Dc (x.q=m[j].q))=m.drop (j+1):=by
 rw[Tq];intro x c;obtain ⟨i,hi,rfl⟩:=Sf c;rw[Sw]at hi;have:=So.1 a j (j+1+i) b (by omega) (by omega);have d: ¬(m[j+1+i]).q=m[j].q:=λh=>by rw[h,zI]at this;trivial
 simp_all
def zsf {m:List KV} (j:Nat) (b: ∀i (hi:i<m.length),j<=i->¬m[i].q=key):(m.drop j).filter (λx=>!Dc (x.q=key))=m.drop j:=by rw[Tq];intro x a;obtain ⟨i,hi,rfl⟩:=Sf a;simp_all
def zoK {m:List KV} (a:srtK m) (j:Nat) (b: ∀i (hi:i<m.length),j<=i->sLt m[i].q key=false) (c: ∀d:j<m.length,¬m[j].q=key): ∀i (hi:i<m.length),j<=i->¬m[i].q=key:=by
 intro i hi f g;by_cases e:i=j
 ·simp_all
 ·have h:=So.1 a j i (by omega) hi (by omega);simp_all
theorem zuU {m:List KV} (b: ∀i (hi:i<m.length),i<j->sLt m[i].q key=true): ∀x∈m.take j,sLt x.q key=true:=by intro x a;obtain ⟨i,hi,rfl⟩:=Sf a;grind
def zuT {m:List KV} (b: ∀i (hi:i<m.length),j<=i->sLt m[i].q key=false): ∀x∈m.drop j,sLt x.q key=false:=by intro x a;obtain ⟨i,hi,rfl⟩:=Sf a;simp_all
theorem zxu (m:List KV) (key:J3) (c:srtK m) (hl:m.length<=1000000):zio m key=some (putK m ⟨key,true,[]⟩):=by
 obtain ⟨j,p,e,d,f⟩:=zm9 m key c (by omega);unfold zio;rw[f,Rv,znC (o:=⟨key,true,[]⟩) j (zuU e) (zuT d)];by_cases a:j<m.length
 ·rw[dif_pos a];by_cases b:m[j].q=key
  ·rw[dT b,iP rfl];unfold zfN;rw[za (n:=(j:Int)+1)];have g:piece m (j:Int) ((j:Int)+1)=some ((m.drop j).take 1):=by unfold piece;grind
   have h:piece m 0 (j:Int)=some (m.take j):=by unfold piece;simp_all
   have k:piece m ((j:Int)+1) (m.length:Int)=some (m.drop (j+1)):=by unfold piece;rw[iP ⟨by omega,by omega,by omega⟩,show ((j:Int)+1).toNat=j+1 by omega,Sa,Tp (by simp)]
   simp only[g,h,k,Rv];rw[dF];have l:=zwL c j a;subst b;simp only[Rw,iF,Rv,newK,cT,Ta];rw[Sd a,Uc,iN (by simp),l]
  ·rw[dF b,iN (by simp),zsf j (zoK c j d λ_=>b)];simp[newK]
 ·rw[dif_neg a,iN (by simp),zsf j (λi hi s=>by omega)];simp[newK]
theorem zzo (m:List KV) (key val:J3) (c:srtK m) (hl:m.length<=1000000):zjp m key val=some (putK m ⟨key,false,val⟩):=by
 obtain ⟨j,l,e,d,f⟩:=zm9 m key c (by omega);unfold zjp;rw[f,Rv,znC (o:=⟨key,false,val⟩) j (zuU e) (zuT d)];have g: ∀h: ∀i (hi:i<m.length),j<=i->¬m[i].q=key,zdO m (j:Int) [(⟨key,val⟩:KV)]=some (m.take j++(newK ⟨key,false,val⟩++(m.drop j).filter λx=>!Dc (x.q=key))):=by intro h;unfold zdO ins;rw[iP ⟨by omega,by omega,by grind,by grind⟩,Sa,zsf j h];rfl
 by_cases a:j<m.length
 ·rw[dif_pos a];by_cases b:m[j].q=key
  ·rw[dT b,iP rfl,zb m j a];have k:=zwL c j a;subst b;simp only[Rv,Sa,newK,cF];rw[Sd a,Uc,iN (by simp),k,List.set_eq_take_append_cons_drop,iP a];rfl
  ·rw[dF b,iN (by simp),g (zoK c j d λ_=>b)];rfl
 ·grind
theorem zim (m:List KV) (l:List Op) (c:srtK m) (hl:m.length<=100000) (e:l.length<=1000):zdv m l=some (applyK m l):=by
 unfold zdv zbw;rw[ze (by grind) (by grind)];refine zt (λk (S:Int × List KV)=>S=((k:Int),applyK m (l.take k))) l.length (λr=>r= .go (applyK m l)) rfl ?_ ?_ (λr f=>by simp_all)
 ·rintro k _ a rfl;left;have d:=zdd (l.take k) m;rw[Tg]at d;simp only[zb l k a,Rv];rw[iP,za (n:=(k:Int)+1),zQ l k a,show applyK m (l.take k++ [l[k]])=putK (applyK m (l.take k)) l[k] by simp only[applyK,Uv,Vz,Wz]];have hs:=zdZ (l.take k) c;cases b:l[k].T with
  | true=>
    rw[iP rfl,zxu _ _ hs (by omega)];have:putK (applyK m (l.take k)) ⟨l[k].q,true,[]⟩=putK (applyK m (l.take k)) l[k]:=by simp only[putK,newK,b,cT]
    simp_all
  | false=>
    rw[iN (by simp),zzo _ _ _ hs (by omega)];have:putK (applyK m (l.take k)) ⟨l[k].q,false,l[k].Q⟩=putK (applyK m (l.take k)) l[k]:=by simp only[putK,newK,b,cF]
    simp_all
 ·simp
theorem zgt {α:Type} (q:α->Bool): ∀l:List α,(l.takeWhile q).length<=l.length/\(∀i (hi:i<l.length),i<(l.takeWhile q).length->q l[i]=true)/\(∀h:(l.takeWhile q).length<l.length,q l[(l.takeWhile q).length]=false)
 | []=>⟨Tc _,λi hi=>absurd hi (by simp),λh=>absurd h (by simp)⟩
 | x::l=>by
   obtain ⟨b,c,d⟩:=zgt q l;cases a:q x with
   | false=>simp_all
   | true=>simp only[Tz,a,iT,Tf];grind
def zxi {α:Type} {p q:α->Bool} : ∀{l:List α},(∀x∈l,p x=q x)->l.takeWhile p=l.takeWhile q
 | [],_=>rfl
 | x::l,h=>by rw[Tz,Tz,h x (by simp),zxi λy a=>h y (by simp_all)]
def placeT (l:List Am) (id:Int):Nat:=(l.takeWhile λx=>decide (x.j<=id)).length
def zoX (l:List Am) (id:Int):placeT l id<=l.length/\(∀i (hi:i<l.length),i<placeT l id->l[i].j<=id)/\(∀h:placeT l id<l.length,id<l[placeT l id].j):=by obtain ⟨a,t2,b⟩:=zgt (λx:Am=>decide (x.j<=id)) l;exact ⟨a,λi hi h=>of_decide_eq_true (t2 i hi h),λh=>by have:=of_decide_eq_false (b h);unfold placeT;omega⟩
def insT (l:List Am) (t:Am):List Am:=l.take (placeT l t.j)++(t::l.drop (placeT l t.j))
theorem znP (p:α->Bool) (l:List α) (hl:l.length<=1048576) {body:Int->Option (Ctl Int (Ctl Int R))} (c: ∀k (b:k<l.length),body (k:Int)=if p l[k]=true then some (.go (J8 ((k:Int)+1))) else some (.done (.go (k:Int)))) (f:body (l.length:Int)=some (.done (.go (l.length:Int)))):
 loopO body 0=some (.go (((l.takeWhile p).length:Nat):Int)):=by
 obtain ⟨d,t2,e⟩:=zgt p l;generalize (l.takeWhile p).length=a at d t2 e;refine zo (λk=>(k:Int)) a rfl (λk b=>?_) ?_
 ·rw[c k (by omega),iP (t2 k (by omega) b),za];rfl
 ·grind
def zmn (l:List Am) (t:Am) (hl:l.length<=1000000) (b: ∀x∈l,¬x.j=t.j):zhe l t=some (insT l t):=by
 unfold zhe;rw[znP (R:=List Am) (λx:Am=>decide (x.j<t.j)) l (by omega) (λk a=>?_) (by simp)]
 ·rw[zxi (q:=λx:Am=>decide (x.j<=t.j)) λx c=>decide_eq_decide.2 ⟨λh=>by omega,λh=>by have:=b x c;omega⟩];have d:placeT l t.j<=l.length:=(zgt _ l).1;simp only[zd];unfold zfQ ins insT;rw[iP ⟨by omega,by exact_mod_cast d,by simp only[Ry];omega,by simp only[Ry];omega⟩,Sa];rfl
 ·simp only[zb l k a,Rv];rw[iP (by simpa using a)];rfl
def zmT (l:List Am) (t:Am) (hl:l.length<=1000000):zhi l t=some (insT l t):=by
 obtain ⟨C,t2,y⟩:=zoX l t.j;have U:(⟨t.j,t.I,t.c,t.M,t.u⟩:Am)=t:=rfl;unfold zhi insT;generalize placeT l t.j=a at C t2 y;have O: ∀(G:List Am) (x:Am),G.length<=1000001->app 72 G [x]=some (G++ [x]):=λG x h=>ze (by simp only[Ry];omega) (by simp only[Ry];omega);refine zt (λk (S:Bool × Int × List (Option Am) × Option (List KV) × Option (List Bf) × List Am)=>S.2.1=(k:Int)/\wholeO l k S.2.2.1/\
  ((k<=a/\S.1=false/\S.2.2.2.1=some t.M/\S.2.2.2.2.1=some t.u/\S.2.2.2.2.2=l.take k)\/(a<k/\S.1=true/\S.2.2.2.2.2=l.take a++(t::(l.drop a).take (k - a))))) l.length
  (λr=>∃p J ts G,r= .go (p,J,ts,G)/\((p=false/\J=some t.M/\ts=some t.u/\G=l/\a=l.length)\/(p=true/\G=l.take a++(t::l.drop a)))) ⟨rfl,ziW l,.inl ⟨Sm _,rfl,rfl,rfl,by simp⟩⟩ ?_ ?_ ?_
 ·rintro k ⟨p,i,ls,J,ts,G⟩ d ⟨e,b,f⟩;simp only at e b f;subst e;left;have g:=zg5 b d;have m:J8 ((k:Int)+1)=((k+1:Nat):Int):=by rw[za];omega
  have n:wholeO l (k+1) (ls.set ((k:Nat):Int).toNat none):=zdl (zbR b) (by simp);have o:(Dc ((k:Int)<(ls.length:Int)))=true:=by rw[b.1];simpa using d
  have z:(l.drop a).take (k+1 - a)=(l.drop a).take (k - a)++(if a<=k then [l[k]] else []):=by
   by_cases A:a<=k
   ·rw[iP A,show k+1 - a=(k - a)+1 by omega,zQ _ _ (by rw[Sw];omega),Wt];congr 3;omega
   ·rw[iN A,show k+1 - a=0 by omega,show k - a=0 by omega];simp
  rcases f with ⟨q,rfl,rfl,rfl,rfl⟩ | ⟨q,rfl,rfl⟩
  ·have B:(l.take k).length<=1000000:=by rw[Tg];omega
   by_cases D:k=a
   ·subst D;have s:Dc (l[k].j>t.j)=true:=by have:=y d;exact dT
    refine ⟨(true,((k+1:Nat):Int),ls.set ((k:Nat):Int).toNat none,none,none,(l.take k++ [t])++ [l[k]]),?_,rfl,n,.inr ⟨by simp,rfl,?_⟩⟩
    ·simp only[o,iT,Te,g,Rv,s,U,O _ _ (show (l.take k).length<=1000001 by omega),zd,m];rw[O _ _ (by simp only[Sy,Ry];omega)];rfl
    ·simp only;rw[z,iP (Tc _)];simp
   ·have s:Dc (l[k].j>t.j)=false:=by have:=t2 k d (by omega);exact dF
    refine ⟨(false,((k+1:Nat):Int),ls.set ((k:Nat):Int).toNat none,some t.M,some t.u,l.take k++ [l[k]]),?_,rfl,n,.inl ⟨by omega,rfl,rfl,rfl,(zQ l k d).symm⟩⟩;simp only[o,iT,Te,g,Rv,s,Rw,iF,O _ _ (show (l.take k).length<=1000001 by omega),zd,m]
  ·have B:(l.take a++(t::(l.drop a).take (k - a))).length<=1000001:=by simp only[Sy,Tf,Tg,Sw];omega
   refine ⟨(true,((k+1:Nat):Int),ls.set ((k:Nat):Int).toNat none,J,ts,(l.take a++(t::(l.drop a).take (k - a)))++ [l[k]]),?_,rfl,n,.inr ⟨by omega,rfl,?_⟩⟩
   ·simp only[o,iT,Si,g,Rv,Rw,iF,O _ _ B,zd,m]
   ·simp only;rw[z,iP (by omega)];simp
 ·rintro ⟨p,i,ls,J,ts,G⟩ ⟨e,b,f⟩;simp only at e b f;subst e;refine ⟨_,iN (by rw[b.1];simp),p,J,ts,G,rfl,?_⟩;rcases f with ⟨q,v,w,E,F⟩ | ⟨q,v,w⟩
  ·exact .inl ⟨v,w,E,by rw[F,Tu],by omega⟩
  ·exact .inr ⟨v,by rw[w,Tp (l:=l.drop a) (by rw[Sw];omega)]⟩
 ·rintro _ ⟨p,J,ts,G,rfl,⟨rfl,rfl,rfl,rfl,rfl⟩ | ⟨rfl,rfl⟩⟩
  ·simp only[zd,Te,iT,Rv,U];rw[O _ _ (by omega)];simp
  ·simp[bindC]
theorem zp8 (p:α->Bool) (l:List α) (hl:l.length<=1048576) (a:Nat) (q:a<l.length) (s:p l[a]=true) (B: ∀i (hi:i<a),p (l[i]'(by omega))=false) {g:α->Option Bool} (t: ∀x,g x=some (p x)) {body:Int × Int × List (Option α)->Option (Ctl (Int × Int × List (Option α)) (Ctl (Int × List (Option α)) R))} {f:Int × List (Option α)->Option R} (j:body=λ(E:Int × Int × List (Option α))=>if Dc (E.2.1<(E.2.2.length:Int)) then ((idx E.2.2 E.2.1).bind λI=>
 (I).bind λF=>
 (g F).bind λJ=>
 bindC (if !J then ((idx E.2.2 E.1).bind λM=>
 (idx (E.2.2.set E.2.1.toNat none) E.1).bind λO=>
 some (.go (J8 (E.1+1),((E.2.2.set E.2.1.toNat none).set E.1.toNat (some F)))))
 else (some (.go (E.1,E.2.2))))
 (λ(G:Int × List (Option α))=>some (.go (G.1,J8 (E.2.1+1),G.2))))
 else (some (.done (.go (E.1,E.2.2))))) (C: ∀(i:Nat) ls,ls.length=l.length->i<=l.length->ls.take i=(l.filter λx=>!p x).map some->f ((i:Int),ls)=some z):bindC (loopO body ((a:Int),J8 ((a:Int)+1),l.map some)) f=some z:=by
 refine zt (λk (S:Int × Int × List (Option α))=>∃i:Nat,S.1=(i:Int)/\S.2.1=((a+1+k:Nat):Int)/\i<a+1+k/\wholeO l (a+1+k) S.2.2/\S.2.2.take i=((l.take (a+1+k)).filter λx=>!p x).map some) (l.length - (a+1))
  (λr=>∃i ls,r= .go (((i:Nat):Int),ls)/\ls.length=l.length/\i<=l.length/\ls.take i=(l.filter λx=>!p x).map some) ?_ ?_ ?_ ?_
 ·refine ⟨a,rfl,by simp only;rw[za];omega,by omega,⟨by simp,λi hi _=>by simp⟩,?_⟩;rw[Nat.add_zero,zcE _ l a q,s];simp only[Si,Rw,iF,Td];rw[Tq.2,Uz];intro x u;obtain ⟨i,hi,rfl⟩:=Sf u;grind
 ·rintro k ⟨v,w,ls⟩ D ⟨i,d,e,m,b,c⟩;subst d e;left;have h:a+1+k<l.length:=by omega
  rw[j];simp only[zg5 b h,Rv,t];rw[iP (dT (by rw[b.1];omega)),za (n:=((a+1+k:Nat):Int)+1),show ((a+1+k:Nat):Int)+1=((a+1+(k+1):Nat):Int) by omega];have y:i<ls.length:=by rw[b.1];omega
  have A:i<(ls.set (a+1+k) none).length:=by simp_all
  cases o:p l[a+1+k] with
  | true=>refine ⟨_,rfl,i,rfl,rfl,by omega,zbR b,?_⟩;rw[c,show a+1+(k+1)=(a+1+k)+1 by omega,zcE _ l (a+1+k) h,o];simp
  | false=>simp only[Te,iT,Sa,zb ls i y,zb (ls.set (a+1+k) none) i A,Rv,zd];rw[za (n:=(i:Int)+1)];refine ⟨_,rfl,i+1,by simp,rfl,by omega,zdl (zdl (zbR b) (by omega)) (by omega),?_⟩;rw[zQ _ i (by simp_all),Vc,Wj (Tc _),Wj (by omega),c,show a+1+(k+1)=(a+1+k)+1 by omega,zcE _ l (a+1+k) h,o];simp
 ·rintro ⟨v,w,ls⟩ ⟨i,d,e,m,b,c⟩;subst d e;have U:a+1+(l.length - (a+1))=l.length:=by omega
  rw[U]at m b c |-
  refine ⟨_,by rw[j];exact iN (by rw[b.1];simp),i,ls,rfl,b.1,by omega,by simp_all⟩
 ·simp_all
def zse (l q:List α) (i:Nat) (ls:List (Option α)) (d:ls.length=l.length) (e:i<=l.length) (a:ls.take i=q.map some):
    ((piece ls (i:Int) (ls.length:Int)).bind λB=>(piece ls 0 (i:Int)).bind λh=>(allO h).bind λA=>some A)=some q:=by
 have b:piece ls (i:Int) (ls.length:Int)=some (ls.drop i):=by unfold piece;rw[iP ⟨by omega,by omega,by omega⟩,Sa,Sa,Tp (by simp)]
 have c:piece ls 0 (i:Int)=some (ls.take i):=by unfold piece;simp_all
 rw[b,c,a];simp[zls]
def zlG (l:List Am) (id:Int) (hl:l.length<=1000000):zgb l id=some (noTen id l):=by
 have hi:zbd l id=some (fstV (λt=>decide (t.j=id)) l):=by unfold zbd fstV;rw[zcR (λt:Am=>decide (t.j=id)) l (by omega) (λj=>j) rfl (λk b=>?_) (by simp)];simp only[zb l k b,Rv,zeN];rw[iP (by simpa using b),za];cases Dc (l[k].j=id)<;>rfl
 have c:zba l id=some (noTen id l):=by
  unfold zba;rw[hi,Rv];rcases zfB (λt:Am=>decide (t.j=id)) l with ⟨j,d,e,a,f⟩ | ⟨e,a⟩
  ·rw[e,dF,iN (by simp)];exact zp8 (λt:Am=>decide (t.j=id)) l (by omega) j d a f (g:=λx=>zeN x id) (λx=>rfl) rfl λi ls h m n=>zse l _ i ls h m n
  ·rw[e];simp only[decide_true,iT];unfold noTen;rw[Tq.2 λx o=>by rw[a x o];rfl]
 unfold zgb;rw[c];rfl
def zpP (l:List A7) (id:Int) (hl:l.length<=1000000):zM l id=some (noRow id l):=by
 have hi:zO l id=some (fstV (λt=>decide (t.r=id)) l):=by unfold zO fstV;rw[zcR (λt:A7=>decide (t.r=id)) l (by omega) (λj=>j) rfl (λk b=>?_) (by simp)];simp only[zb l k b,Rv,zch];rw[iP (by simpa using b),za];cases Dc (l[k].r=id)<;>rfl
 unfold zM;rw[hi,Rv];rcases zfB (λt:A7=>decide (t.r=id)) l with ⟨j,c,e,a,d⟩ | ⟨e,a⟩
 ·rw[e,dF,iN (by simp)];exact zp8 (λt:A7=>decide (t.r=id)) l (by omega) j c a d (g:=λx=>zch x id) (λx=>rfl) rfl λi ls f h m=>zse l _ i ls f h m
 ·rw[e];simp only[decide_true,iT];unfold noRow;rw[Tq.2 λx n=>by rw[a x n];rfl]
def codeR (c:Int):A6:=⟨c,0,[],[]⟩
def quoV (d:Int) (s:Ad) (id:Int):Int:=match s.t.find? (λx=>decide (x.r=id)) with
 | some x=>x.Y
 | none=>d
def bytesN (m:List KV):Nat:=(m.map λx=>x.q.length+x.Q.length).sum
def findR (m:List KV) (key:J3):A6:=match m.find? (λx=>decide (x.q=key)) with
 | some x=>⟨0,0,x.Q,[]⟩
 | none=>codeR 5
def withinV (key lo hi:J3):Bool:=!sLt key lo&&(Dc (hi= [])||sLt key hi)
def scanV (m:List KV) (lo hi:J3):List KV:=m.filter λx=>withinV x.q lo hi
def setR (s:Ad) (t q:Int):Ad × Bool:=(zbr s t q).getD (⟨0,[]⟩,false)
def zeg (s:Ad) (t q:Int) (h:s.t.length<=1048576):zbr s t q=some (setR s t q):=by obtain ⟨r,a,b,_⟩:=znQ s t q h;unfold setR;rw[a];rfl
def zfV (s:Ad) (t q:Int) (h:s.t.length<=1048576):zbN s t q=some (setR s t q):=by obtain ⟨r,a,b,_⟩:=znQ s t q h;unfold setR;rw[a,b];rfl
def atT (l:List Am) (id:Int):Int:=fstV (λt=>decide (t.j=id)) l
def getT (l:List Am) (i:Int):Am:=l.getD i.toNat ⟨0,0,0,[],[]⟩
def ofRow (id:Int) (l:List A7):Nat:=(l.filter λr=>decide (r.r=id)).length
def flushM (m:As) (i:Int):As:=
 ⟨m.E,m.s,m.a,bif Dc (atT m.F (getT m.a i).j>=0) then m.F.set (atT m.F (getT m.a i).j).toNat ⟨(getT m.a i).j,(getT m.a i).I,(getT m.a i).c,(getT m.a i).M,[]⟩ else m.F,noRow (getT m.a i).j m.x⟩
def keepR:Int->List A7->List A7
 | _,[]=>[]
 | n,r::l=>bif r.W then ⟨r.r,r.R,true⟩::keepR n l else bif Dc (n<1) then keepR n l else ⟨r.r,r.R,true⟩::keepR (n - 1) l
def playT (ts:List Am) (r:A7):List Am:=
 bif Dc (atT ts r.r>=0) then ts.set (atT ts r.r).toNat ⟨(getT ts (atT ts r.r)).j,(getT ts (atT ts r.r)).I,(getT ts (atT ts r.r)).c+1,applyK (getT ts (atT ts r.r)).M r.R,(getT ts (atT ts r.r)).u⟩ else ts
def crashM (m:As) (n:Int):As:=⟨m.E,m.s,(keepR n m.x).foldl playT m.F,m.F,keepR n m.x⟩
def syncM (m:As):As:={E:=m.E,s:=m.s,a:=m.a,F:=m.F,x:=m.x.map λr=>⟨r.r,r.R,true⟩}
def newTen (id:Int):Am:=⟨id,0,0,[],[]⟩
def createM (m:As) (c:At):As × A6:=
 bif !Dc (1<=c.r/\c.r<=99)||(!Dc (0<=c.N/\c.N<=40)||(!Dc (c.q.length=32)||decide (atT m.a c.r>=0))) then (m,codeR 1)
 else bif Dc (4<=m.a.length) then (m,codeR 4)
 else bif (setR m.s c.r c.N).2 then (⟨m.E,(setR m.s c.r c.N).1,insT m.a (newTen c.r),insT m.F (newTen c.r),m.x⟩,⟨0,1,mintV m.E c.r 0,[]⟩)
 else (m,codeR 6)
def quotaM (m:As) (c:At):As × A6:=
 bif Dc (0<=c.N/\c.N<=40) then (bif (setR m.s c.r c.N).2 then (⟨m.E,(setR m.s c.r c.N).1,m.a,m.F,m.x⟩,codeR 0) else (m,codeR 6)) else (m,codeR 1)
def removeM (m:As) (id:Int):As:=⟨m.E,(shareDropR m.s id).1,noTen id m.a,noTen id m.F,noRow id m.x⟩
def upEpoch (l:List Am) (i e:Int):List Am:=l.set i.toNat ⟨(getT l i).j,e,(getT l i).c,(getT l i).M,(getT l i).u⟩
def rotateM (m:As) (id:Int):As × A6:=
 bif Dc ((getT m.a (atT m.a id)).I>=1000000) then (m,codeR 4)
 else (⟨m.E,m.s,upEpoch m.a (atT m.a id) ((getT m.a (atT m.a id)).I+1),(bif Dc (atT m.F id>=0) then upEpoch m.F (atT m.F id) ((getT m.a (atT m.a id)).I+1) else m.F),m.x⟩,
  ⟨0,0,mintV m.E id ((getT m.a (atT m.a id)).I+1),[]⟩)
def ownM (m:As) (c:At):As × A6:=
 bif Dc (atT m.a c.r<0) then (m,codeR 5)
 else bif Dc (c.B=2) then quotaM m c
 else bif Dc (c.B=3) then (removeM m c.r,codeR 0)
 else bif Dc (c.B=4) then rotateM m c.r
 else (flushM m (atT m.a c.r),codeR 0)
def writeM (m:As) (i:Int) (ops:List Op):As × A6:=
 bif batchV ops then
  (bif Dc ((bytesN (applyK (getT m.a i).M ops):Int)>quoV (-1) m.s (getT m.a i).j) then (m,codeR 3)
 else (⟨m.E,m.s,m.a.set i.toNat ⟨(getT m.a i).j,(getT m.a i).I,(getT m.a i).c+1,applyK (getT m.a i).M ops,(getT m.a i).u⟩,(bif Dc (6<=ofRow (getT m.a i).j m.x) then flushM m i else m).F,(bif Dc (6<=ofRow (getT m.a i).j m.x) then flushM m i else m).x++ [⟨(getT m.a i).j,ops,false⟩]⟩,
    ⟨0,(getT m.a i).c+1,[],[]⟩))
 else (m,codeR 1)
def lastIs (l:List Bf) (seq:Int):Bool:=match l.getLast? with
 | some s=>decide (s.c=seq)
 | none=>false
def withSnaps (m:As) (i:Int) (l:List Bf):As:=
 ⟨m.E,m.s,m.a.set i.toNat ⟨(getT m.a i).j,(getT m.a i).I,(getT m.a i).c,(getT m.a i).M,l⟩,m.F,m.x⟩
def snapM (m:As) (i:Int):As × A6:=
 bif lastIs (getT m.a i).u (getT m.a i).c then (m,⟨0,(getT m.a i).c,[],[]⟩)
 else bif Dc (2<=(getT m.a i).u.length) then (m,codeR 4)
 else (withSnaps m i ((getT m.a i).u++ [⟨(getT m.a i).c,(getT m.a i).M⟩]),⟨0,(getT m.a i).c,[],[]⟩)
def atS (l:List Bf) (seq:Int):Int:=fstV (λs=>decide (s.c=seq)) l
def heldM (m:As) (i:Int) (c:At):As × A6:=
 bif Dc (atS (getT m.a i).u c.N<0) then (m,codeR 5)
 else bif Dc (c.B=10) then (m,findR ((getT m.a i).u.getD (atS (getT m.a i).u c.N).toNat ⟨0,[]⟩).M c.q)
 else (withSnaps m i ((getT m.a i).u.take (atS (getT m.a i).u c.N).toNat++(getT m.a i).u.drop ((atS (getT m.a i).u c.N).toNat+1)),codeR 0)
def tenM (m:As) (i:Int) (c:At):As × A6:=
 bif Dc (c.B=5) then writeM m i c.R
 else bif Dc (c.B=6) then (m,findR (getT m.a i).M c.q)
 else bif Dc (c.B=7) then (m,⟨0,0,[],scanV (getT m.a i).M c.q c.Z⟩)
 else bif Dc (c.B=8) then snapM m i
 else bif Dc (c.B=11) then (m,⟨0,(bytesN (getT m.a i).M:Int),[],[]⟩)
 else heldM m i c
def callM (m:As) (c:At):As × A6:=
 bif !(tokR m.E c.U).2.2||(Dc (atT m.a (tokR m.E c.U).1<0)|| !Dc ((getT m.a (atT m.a (tokR m.E c.U).1)).I=(tokR m.E c.U).2.1)) then (m,codeR 2)
 else tenM m (atT m.a (tokR m.E c.U).1) c
def doM (m:As) (c:At):As × A6:=
 bif Dc (c.B=1) then createM m c
 else bif Dc (c.B=12) then (syncM m,codeR 0)
 else bif Dc (c.B=14) then (crashM m c.N,codeR 0)
 else bif Dc (2<=c.B/\c.B<=4)||decide (c.B=13) then ownM m c
 else bif Dc (5<=c.B/\c.B<=11) then callM m c
 else (m,codeR 1)
structure okT (n:Nat) (t:Am):Prop where
 srt:srtK t.M
 kv: ∀x∈t.M,kvV x=true
 len:t.M.length<=6*n
 seq:0<=t.c/\t.c<=n
 ep:0<=t.I/\t.I<=1000000
 sn:t.u.length<=2
 each: ∀s∈t.u,srtK s.M/\s.M.length<=6*n/\∀x∈s.M,kvV x=true
structure okM (n:Nat) (m:As):Prop where
 sh:sharesV m.s=true
 ids:m.a.map Am.j=m.s.t.map A9.r
 base:m.F.map Am.j=m.a.map Am.j
 tens: ∀t∈m.a,okT n t
 bases: ∀t∈m.F,okT n t/\t.u= []/\t.M.length+6*ofRow t.j m.x<=6*n/\t.c+(ofRow t.j m.x:Int)<=n
 rows:m.x.length<=n
 ops: ∀r∈m.x,batchV r.R=true
def zrf (n:Int):zbz n=some (Dc (1<=n/\n<=99)):=by unfold zbz;rw[zY];rfl
def zlN (n:Int):zdw n=some (Dc (0<=n/\n<=40)):=by unfold zdw;rw[zY];rfl
def no_R (c:Int):zK c=some (codeR c):=rfl
def zcZ (c:Int):zk c=some (codeR c):=rfl
theorem zot (p:α->Bool) (l:List α) (hl:l.length<=1048576) {body:Int->Option (Ctl Int (Ctl Unit R))} (g:α->R) {f:Unit->Option R} (b:f ()=some z) (h: ∀k (a:k<l.length),body (k:Int)=if p l[k]=true then some (.done (.done (g l[k]))) else some (.go (J8 ((k:Int)+1)))) (c:body (l.length:Int)=some (.done (.go ()))):
 bindC (loopO body 0) f=some (match l.find? p with | some x=>g x | none=>z):=by
 refine zt (λk S=>S=(k:Int)/\∀i (hi:i<l.length),i<k->p l[i]=false) l.length (λr=>(r= .go ()/\l.find? p=none)\/∃x,l.find? p=some x/\r= .done (g x)) ⟨rfl,λi _ h=>by omega⟩ ?_ ?_ ?_
 ·rintro k _ a ⟨rfl,d⟩;rw[h k a];cases m:p l[k] with
  | true=>right;refine ⟨_,iP rfl,.inr ⟨l[k],?_,rfl⟩⟩;rw[Vf];grind
  | false=>left;refine ⟨_,iN (by simp),by rw[za];omega,λi hi n=>?_⟩;grind
 ·rintro _ ⟨rfl,d⟩;refine ⟨_,c,.inl ⟨rfl,?_⟩⟩;rw[Ut];intro x j;obtain ⟨i,hi,rfl⟩:=Sf j;simp_all
 ·rintro r (⟨rfl,e⟩ | ⟨x,e,rfl⟩)
  ·rw[e];exact b
  ·simp_all
theorem zlK (s:Ad) (id:Int) (h:s.t.length<=1048576):zgd s id=some (quoV 0 s id):=by
 unfold zgd quoV;refine (zot (λx:A9=>decide (x.r=id)) s.t h A9.Y rfl (λk a=>?_) (by simp)).trans ?_
 ·simp only[zb s.t k a,Rv];simp_all
 ·grind
theorem zlj (s:Ad) (id:Int) (h:s.t.length<=1048576):zfy s id=some (quoV (-1) s id):=by
 unfold zfy quoV;refine (zot (λx:A9=>decide (x.r=id)) s.t h A9.Y rfl (λk a=>?_) (by simp)).trans ?_
 ·simp only[zb s.t k a,Rv];simp_all
 ·grind
def zvi {x:KV} (h:kvV x=true):x.q.length<=10/\x.Q.length<=16:=by obtain ⟨⟨_,a⟩,b,_⟩:=zi9 (o:=⟨x.q,false,x.Q⟩) h;trivial
def zpM (m:List KV) (k:Nat) (a:k<m.length):bytesN (m.take (k+1))=bytesN (m.take k)+(m[k].q.length+m[k].Q.length):=by unfold bytesN;rw[zQ m k a,Tt,List.sum_append];rfl
theorem zym (m:List KV) (a: ∀x∈m,kvV x=true):bytesN m<=26*m.length:=by
 induction m with
 | nil=>exact Tc _
 | cons x m ih=>have b:=zvi (a x (by simp));have c:bytesN (x::m)=(x.q.length+x.Q.length)+bytesN m:=rfl;grind
theorem znR (m:List KV) (a: ∀x∈m,kvV x=true) (k:Nat):bytesN (m.take k)<=26*m.length:=by have:=zym (m.take k) λx b=>a x (Ug b);grind
def zfX (m:List KV) (b: ∀x∈m,kvV x=true) (h:m.length<=1048576):zeM m=some (bytesN m:Int):=by
 refine zt (λk (S:Int × Int)=>S=((bytesN (m.take k):Int),(k:Int))) m.length (λr=>r= .go (bytesN m:Int)) rfl ?_ ?_ (λr c=>by simp_all)
 ·rintro k _ a rfl;left;refine ⟨_,?_,rfl⟩;have d:=zvi (b m[k] (Rx a));have e:=znR m b k;simp only[zb m k a,Rv];rw[iP,za (n:=(m[k].q.length:Int)+(m[k].Q.length:Int)),za,za (n:=(k:Int)+1),zpM m k a];rfl
 ·simp
theorem zho (m:List KV) (c:srtK m) (a: ∀x∈m,kvV x=true) (h:m.length<=1000000):zgN m=some (bytesN m:Int):=by
 refine zt (λk (S:Int × Int)=>S=((bytesN (m.take k):Int),(k:Int))) m.length (λr=>r= .go (bytesN m:Int)) rfl ?_ ?_ (λr d=>by simp_all)
 ·rintro k _ b rfl;left;have e:=zvi (a m[k] (Rx b));have f:=znR m a k;simp only[zb m k b,Rv,zkg m c a h];rw[iP,Rv,iP rfl,za (n:=(bytesN (m.take k):Int)+(m[k].q.length:Int)) (by omega) (by omega),za,za (n:=(k:Int)+1),zpM m k b];grind
 ·simp
theorem zlV (m:List KV) (key:J3) (h:m.length<=1048576):ze5 m key=some (findR m key):=by
 unfold ze5 findR;refine (zot (λx:KV=>decide (x.q=key)) m h (λx=>(⟨0,0,x.Q,[]⟩:A6)) (z:=codeR 5) rfl (λk a=>?_) (by simp)).trans ?_
 ·simp only[zb m k a,Rv];simp_all
 ·grind
theorem zms (m:List KV) (key:J3) (f:srtK m) (h:m.length<=1048576):zhf m key=some (findR m key):=by
 obtain ⟨j,o,g,k,l⟩:=zm9 m key f h;unfold zhf findR;rw[l,Rv];by_cases b:j<m.length
 ·rw[dif_pos b];by_cases c:m[j].q=key
  ·have:m.find? (λx=>decide (x.q=key))=some m[j]:=by rw[Vf];grind
   rw[this,dT c];simp only[Si,Rw,iF,zb m j b,Rv]
  ·have:m.find? (λx=>decide (x.q=key))=none:=by
    rw[Ut];intro x d;obtain ⟨i,hi,rfl⟩:=Sf d;by_cases n:i<j
    ·have a:=g i hi n;have: ¬m[i].q=key:=λe=>by rw[e,zI]at a;cases a
     simp_all
    ·simpa using zoK f j k (λ_=>c) i hi (by omega)
   rw[this,dF c];rfl
 ·have:m.find? (λx=>decide (x.q=key))=none:=by
   rw[Ut];intro x d;obtain ⟨i,hi,rfl⟩:=Sf d;have a:=g i hi (by omega);have: ¬m[i].q=key:=λe=>by rw[e,zI]at a;cases a
   simp_all
  rw[this,dif_neg b];rfl
theorem zAI (key lo hi:J3):zhg key lo hi=some (withinV key lo hi):=by unfold zhg withinV;grind
theorem zxG (key lo hi:J3):zfA key lo hi=some (withinV key lo hi):=by unfold zfA withinV;grind
theorem ztX (p:KV->Bool) (l:List KV) (hl:l.length<=1048576) {body:Int × List KV->Option (Ctl (Int × List KV) (Ctl (List KV) R))} {f:List KV->Option R} {g:KV->Option Bool} (b: ∀x,g x=some (p x)) (c:body=λ(S1:Int × List KV)=>if Dc (S1.1<(l.length:Int)) then ((idx l S1.1).bind λD=>
 (g D).bind λE=>
 bindC (if E=true then ((app 32 S1.2 ([D])).bind λA=>
 some (.go A))
 else (some (.go S1.2)))
 (λ(B:List KV)=>some (.go (J8 (S1.1+1),B))))
 else (some (.done (.go S1.2)))) (d:f (l.filter p)=some z):bindC (loopO body ((0:Int),([]:List KV))) f=some z:=by
 refine zt (λk (S:Int × List KV)=>S=((k:Int),(l.take k).filter p)) l.length (λr=>r= .go (l.filter p)) rfl ?_ ?_ (λr e=>by simp_all)
 ·rintro k _ a rfl;left;refine ⟨_,?_,rfl⟩;rw[c];simp only[zb l k a,Rv,b];rw[iP,za (n:=(k:Int)+1),zcE p l k a];cases h:p l[k] with
  | true=>rw[ze (by grind) (by grind)];rfl
  | false=>simp
 ·simp_all
def zlD (m:List KV) (lo hi:J3) (h:m.length<=1048576):zin m lo hi=some (scanV m lo hi):=by exact ztX (λx=>withinV x.q lo hi) m h (g:=λx=>zhg x.q lo hi) (λx=>zAI _ _ _) rfl rfl
def zlZ (m:List KV) (lo hi:J3) (h:m.length<=1048576):ziQ m lo hi=some (scanV m lo hi):=by exact ztX (λx=>withinV x.q lo hi) m h (g:=λx=>zfA x.q lo hi) (λx=>zxG _ _ _) rfl rfl
theorem zqT (l:List α) (hl:l.length<=1048576) (by_:Nat) (b:by_<=100) (h:α->β) {body:Int × List β->Option (Ctl (Int × List β) (Ctl (List β) R))} (c: ∀k (a:k<l.length) A,body ((k:Int),A)=(app by_ A [h l[k]]).bind λE=>some (.go (J8 ((k:Int)+1),E))) (d: ∀A,body ((l.length:Int),A)=some (.done (.go A))):
 loopO body ((0:Int),([]:List β))=some (.go (l.map h)):=by
 obtain ⟨r,e,rfl⟩:=z7 (body:=body) (s0:=((0:Int),([]:List β))) (λk (S:Int × List β)=>S=((k:Int),(l.take k).map h)) l.length (λr=>r= .go (l.map h)) rfl (by
  rintro k _ a rfl;left;refine ⟨_,?_,rfl⟩;have f:((l.take k).map h).length<=1048576:=by grind
  rw[c k a,ze (by simp only[Ry];have:(((l.take k).map h).length+1)*by_<=1048577*100:=Xa (by omega) b;omega) (by grind),za (n:=(k:Int)+1),zQ l k a,Tt];rfl) (by
  simp_all)
 trivial
def zoq (l:List α) (hl:l.length<=1048576) (by_:Nat) (a:by_<=100) (h:α->β) {body:Int × List β->Option (Ctl (Int × List β) (Ctl (List β) R))} {f:List β->Option R} (b: ∀k (d:k<l.length) A,body ((k:Int),A)=(app by_ A [h l[k]]).bind λE=>some (.go (J8 ((k:Int)+1),E))) (c: ∀A,body ((l.length:Int),A)=some (.done (.go A))) (e:f (l.map h)=some z):
    bindC (loopO body ((0:Int),([]:List β))) f=some z:=by rw[zqT l hl by_ a h b c];trivial
def ziy (m:List KV) (h:m.length<=1048576):zcA m=some m:=by unfold zcA;rw[ze (by simp only[Ss];omega) (by simp only[Ss];omega)];rfl
theorem zop (m:List KV) (h:m.length<=1048576):zbw m=some m:=by unfold zbw;rw[ze (by grind) (by grind)];rfl
def ztb (m:List Op) (h:m.length<=1048576):zeD m=some m:=by unfold zeD;rw[ze (by simp only[Ss];omega) (by simp only[Ss];omega)];rfl
def smT (t:Am):Prop:=t.M.length<=1048576/\t.u.length<=1048576/\∀s∈t.u,s.M.length<=1048576
def okT.sm {t:Am} (h:okT n t) (a:n<=1000):smT t:=⟨by have:=h.len;omega,by have:=h.sn;omega,λs hs=>by have:=(h.each s hs).2.1;omega⟩
def zlF (t:Am) (h:smT t):zga t=some t:=by obtain ⟨b,c,d⟩:=h;unfold zga;rw[zop _ b,Rv];refine zoq t.u c 32 (by decide) id (λk a A=>?_) (λA=>by simp) (by rw[Vj]);simp only[zb t.u k a,Rv,zop _ (d _ (Rx a))];rw[iP (by simpa using a)];rfl
def zqn (l:List Am) (hl:l.length<=1048576) (h: ∀t∈l,smT t):zhn l=some l:=by unfold zhn;refine zoq l hl 72 (by decide) id (λk a A=>?_) (λA=>by simp) (by rw[Vj]);simp only[zb l k a,Rv,zlF _ (h _ (Rx a))];rw[iP (by simpa using a)];rfl
def zok (l:List Am) (hl:l.length<=1048576) (h: ∀t∈l,smT t):zfr l=some l:=by
 unfold zfr;refine zoq l hl 72 (by decide) id (λk a A=>?_) (λA=>by simp) (by rw[Vj]);obtain ⟨c,d,e⟩:=h _ (Rx a);simp only[zb l k a,Rv,ziy _ c];rw[iP (by simpa using a)];refine (congrArg (λo=>bindC o _) (zqT l[k].u d 32 (by decide) id (λk' b A=>?_) (λA=>by simp))).trans ?_
 ·simp only[zb l[k].u k' b,Rv,ziy _ (e _ (Rx b))];rw[iP (by simpa using b)];rfl
 ·rw[Vj];rfl
def zbi (l:List Am) (id:Int):(∃j,∃b:j<l.length,atT l id=(j:Int)/\l[j].j=id/\∀i (hi:i<j),¬(l[i]'(by omega)).j=id)\/(atT l id= -1/\∀x∈l,¬x.j=id):=by
 rcases zfB (λt:Am=>decide (t.j=id)) l with ⟨j,b,e,a,c⟩ | ⟨e,a⟩
 ·exact .inl ⟨j,b,e,of_decide_eq_true a,λi hi=>of_decide_eq_false (c i hi)⟩
 ·exact .inr ⟨e,λx d=>of_decide_eq_false (a x d)⟩
def zcs (l:List Am) (j:Nat) (a:j<l.length):getT l (j:Int)=l[j]:=by unfold getT;rw[Sa,Uq,Th a];rfl
def zkL (l:List Am) (id:Int) (h:l.length<=1048576):zcz l id=some (atT l id):=zuy l id h
def zh5 (l:List Am) (id:Int) (h:l.length<=1048576):zbW l id=some (atT l id):=zum l id h
structure smM (m:As):Prop where
 tens:m.a.length<=1000
 base:m.F.length<=1000
 rows:m.x.length<=1000
 each: ∀t∈m.a,smT t
def ziZ (m:As) (id:Int) (h:smM m) (j:Nat) (b:j<m.a.length) (c:atT m.a id=(j:Int)) (d:m.a[j].j=id):zdu m id=some (codeR 0,flushM m (j:Int)):=by
 have g:=h.tens;have i:=h.base;have l:=h.rows;unfold zdu zcP flushM;rw[zpP m.x id (by omega),zcs _ j b];simp only[Rv,zh5 _ _ (show m.a.length<=1048576 by omega),zh5 _ _ (show m.F.length<=1048576 by omega),c,zb m.a j b,zlF _ (h.each _ (Rx b)),d];rcases zbi m.F id with ⟨k,f,e,_,_⟩ | ⟨e,_⟩
 ·rw[e,dT (by omega:(k:Int)>=0)];simp only[iT,zb m.F k f,Rv,zd,cT];rfl
 ·rw[e];rfl
def zli (m:As) (h:smM m) (j:Nat) (b:j<m.a.length):zfx m (j:Int)=some (flushM m (j:Int)):=by
 have d:=h.tens;have f:=h.base;have g:=h.rows;unfold zfx flushM;rw[zcs _ j b];simp only[Rv,zkL _ _ (show m.F.length<=1048576 by omega),zb m.a j b,ziy _ (h.each _ (Rx b)).1,zlY _ _ (show m.x.length<=1048576 by omega)];rcases zbi m.F m.a[j].j with ⟨k,c,e,_,_⟩ | ⟨e,_⟩
 ·rw[e,dT (by omega:(k:Int)>=0)];simp only[iT,zb m.F k c,Rv,zd,cT]
 ·rw[e];rfl
def keepI:Int->List A7->List A7
 | _,[]=>[]
 | n,r::l=>bif r.W then ⟨r.r,r.R,true⟩::keepI n l else bif Dc (n - 1>=0) then ⟨r.r,r.R,true⟩::keepI (n - 1) l else keepI (n - 1) l
def znm: ∀(l:List A7) (n k:Int),(k=n/\0<=n)\/(n<1/\k<1)->keepI k l=keepR n l
 | [],_,_,_=>rfl
 | r::l,n,k,h=>by
   unfold keepI keepR;cases r.W with
   | true=>simp only[cT];rw[znm l n k h]
   | false=>
     simp only[cF];by_cases a:n<1
     ·have b:k<1:=by omega
      rw[dT a,dF (by omega: ¬k - 1>=0)];simp only[cT,cF];exact znm l n (k - 1) (.inr ⟨a,by omega⟩)
     ·have b:k=n:=by omega
      subst b;rw[dF a,dT (by omega:k - 1>=0)];simp only[cT,cF];rw[znm l (k - 1) (k - 1) (.inl ⟨rfl,by omega⟩)]
def zhU: ∀(l:List A7) (n:Int),(keepR n l).length<=l.length
 | [],_=>Tc _
 | r::l,n=>by
   unfold keepR;cases r.W with
   | true=>simp only[cT,Tf];have:=zhU l n;omega
   | false=>
     cases Dc (n<1) with
     | true=>simp only[cT,cF,Tf];have:=zhU l n;omega
     | false=>simp only[cF,Tf];have:=zhU l (n - 1);omega
def zno: ∀(l:List A7) (n:Int) (r:A7),r∈keepR n l->∃s∈l,r=⟨s.r,s.R,true⟩
 | [],_,r,h=>by cases h
 | s::l,n,r,h=>by
   unfold keepR at h;have A: ∀k,r∈keepR k l->∃s'∈s::l,r=⟨s'.r,s'.R,true⟩:=λk h=>by obtain ⟨s',b,c⟩:=zno l k r h;exact ⟨s',Tw _ b,c⟩
   cases hs:s.W with
   | true=>
     rw[hs]at h;rcases Tn.1 h with rfl | h
     ·exact ⟨s,by simp,rfl⟩
     ·exact A _ h
   | false=>
     rw[hs]at h;cases a:Dc (n<1) with
     | true=>rw[a]at h;exact A _ h
     | false=>
       rw[a]at h;rcases Tn.1 h with rfl | h
       ·exact ⟨s,by simp,rfl⟩
       ·exact A _ h
def zz5 (n:Int):goMax n 0=max n 0:=by unfold goMax;split<;>omega
def zyJ (l:List A7) (n:Int) (hl:l.length<=1000) (t: -9223372036854775808<=n/\n<=9223372036854775807) {body:Int × Int × List (Option A7) × List A7->Option (Ctl (Int × Int × List (Option A7) × List A7) (Ctl (List (Option A7) × List A7) R))} {f:List (Option A7) × List A7->Option R} (g:body=λ(A:Int × Int × List (Option A7) × List A7)=>if Dc (A.2.1<(l.length:Int)) then ((idx A.2.2.1 A.2.1).bind λJ=>
 (J).bind λB=>
 bindC (if !B.W then (some (.go (J8 (A.1 - 1))))
 else (some (.go A.1)))
 (λ(E:Int)=>Bd0 (if B.W=true then some true else some (Dc (E>=0))) (λ(I:Bool)=>bindC (if I=true then Bd0 (app 40 A.2.2.2 ([(⟨B.r,B.R,true⟩:A7)])) λG=>some (.go ((A.2.2.1.set A.2.1.toNat none),G))else some (.go (A.2.2.1,A.2.2.2))) (λ(F:List (Option A7) × List A7)=>some (.go (E,J8 (A.2.1+1),F.1,F.2))))))
 else (some (.done (.go (A.2.2.1,A.2.2.2))))) (p: ∀ls,f (ls,keepR n l)=some z):bindC (loopO body (goMax n 0,(0:Int),l.map some,([]:List A7))) f=some z:=by
 have q:keepI (max n 0) l=keepR n l:=znm l n (max n 0) (by omega);rw[zz5];refine zt (λk (S:Int × Int × List (Option A7) × List A7)=>(-(k:Int)<=S.1/\S.1<=9223372036854775807)/\S.2.1=(k:Int)/\wholeO l k S.2.2.1/\S.2.2.2.length<=k/\S.2.2.2++keepI S.1 (l.drop k)=keepR n l) l.length
  (λr=>∃ls,r= .go (ls,keepR n l)) ⟨by simp only;omega,rfl,ziW l,by simp,by simpa using q⟩ ?_ ?_ ?_
 ·rintro k ⟨c,i,ls,D⟩ e ⟨h,d,b,j,a⟩;simp only at h d b j a;subst d;left;have s:J8 ((k:Int)+1)=((k+1:Nat):Int):=by rw[za];omega
  have m: ∀x:A7,app 40 D [x]=some (D++ [x]):=λx=>ze (by simp only[Ry];omega) (by simp only[Ry];omega);rw[Sd e,keepI]at a;rw[g];simp only[zg5 b e,Rv];rw[iP (by simpa using e),s];cases hs:l[k].W with
  | true=>rw[hs]at a;simp only[Si,Rw,iF,zd,iT,Rv,m];exact ⟨_,rfl,by simp only;omega,rfl,zdl (zbR b) (by simp),by simp;omega,by simpa using a⟩
  | false=>
    rw[hs]at a;rw[za (n:=c - 1)];simp only[Te,iT,zd,Rw,iF,Rv];simp only[cF]at a;cases o:Dc (c - 1>=0) with
    | true=>rw[o]at a;simp only[iT,m,Rv,zd];exact ⟨_,rfl,by simp only;omega,rfl,zdl (zbR b) (by simp),by simp;omega,by simpa using a⟩
    | false=>rw[o]at a;simp only[Rw,iF,zd];exact ⟨_,rfl,by simp only;omega,rfl,zbR b,by simp only;omega,by simpa using a⟩
 ·rintro ⟨c,i,ls,D⟩ ⟨h,d,b,j,a⟩;simp only at d a;subst d;rw[Ub,keepI,Td]at a;exact ⟨.go (ls,keepR n l),by rw[g];simp[a],ls,rfl⟩
 ·rintro _ ⟨ls,rfl⟩;exact p ls
def zzu (l:List A7) (n:Int) (hl:l.length<=1000) (p: -9223372036854775808<=n/\n<=9223372036854775807) {body:Int × Int × List (Option A7) × List A7->Option (Ctl (Int × Int × List (Option A7) × List A7) (Ctl (List (Option A7) × List A7) R))} {f:List (Option A7) × List A7->Option R} (j:body=λ(A:Int × Int × List (Option A7) × List A7)=>if Dc (A.2.1<(A.2.2.1.length:Int)) then (bindC ((idx A.2.2.1 A.2.1).bind λE=>
 (E).bind λB=>
 bindC (if !B.W then (if Dc (A.1<1) then (some (.done (.go (A.1,A.2.2.1,A.2.2.2))))
 else (some (.go (J8 (A.1 - 1)))))
 else (some (.go A.1)))
 (λ(G:Int)=>Bd0 (app 40 A.2.2.2 ([(⟨B.r,B.R,true⟩:A7)])) λF=>some (.go (G,(A.2.2.1.set A.2.1.toNat none),F))))
 (λ(I:Int × List (Option A7) × List A7)=>some (.go (I.1,J8 (A.2.1+1),I.2.1,I.2.2))))
 else (some (.done (.go (A.2.2.1,A.2.2.2))))) (q: ∀ls,f (ls,keepR n l)=some z):bindC (loopO body (n,(0:Int),l.map some,([]:List A7))) f=some z:=by
 refine zt (λk (S:Int × Int × List (Option A7) × List A7)=>(-9223372036854775808<=S.1/\S.1<=9223372036854775807)/\S.2.1=(k:Int)/\wholeO l k S.2.2.1/\S.2.2.2.length<=k/\S.2.2.2++keepR S.1 (l.drop k)=keepR n l) l.length
  (λr=>∃ls,r= .go (ls,keepR n l)) ⟨p,rfl,ziW l,by simp,by simp⟩ ?_ ?_ ?_
 ·rintro k ⟨c,i,ls,D⟩ g ⟨e,d,b,m,a⟩;simp only at e d b m a;subst d;left;have s:J8 ((k:Int)+1)=((k+1:Nat):Int):=by rw[za];omega
  have o: ∀x:A7,app 40 D [x]=some (D++ [x]):=λx=>ze (by simp only[Ry];omega) (by simp only[Ry];omega);rw[Sd g,keepR]at a;rw[j];simp only[zg5 b g,Rv];rw[iP (by rw[b.1];simpa using g),s];cases hs:l[k].W with
  | true=>rw[hs]at a;simp only[Si,Rw,iF,zd,Rv,o];exact ⟨_,rfl,e,rfl,zdl (zbR b) (by simp),by simp;omega,by simpa using a⟩
  | false=>
    rw[hs]at a;simp only[cF]at a;cases h:Dc (c<1) with
    | true=>rw[h]at a;simp only[Te,iT,zxn,zd];exact ⟨_,rfl,e,rfl,zbR b,by simp only;omega,by simpa using a⟩
    | false=>rw[h]at a;have t:=of_decide_eq_false h;rw[za (n:=c - 1)];simp only[Te,iT,Rw,iF,zd,Rv,o];exact ⟨_,rfl,by simp only;omega,rfl,zdl (zbR b) (by simp),by simp;omega,by simpa using a⟩
 ·rintro ⟨c,i,ls,D⟩ ⟨e,d,b,m,a⟩;simp only at d b a;subst d;rw[Ub,keepR,Td]at a;exact ⟨.go (ls,keepR n l),by rw[j];simp[a,b.1],ls,rfl⟩
 ·rintro _ ⟨ls,rfl⟩;exact q ls
structure okU (B:Nat) (t:Am):Prop where
 srt:srtK t.M
 kv: ∀x∈t.M,kvV x=true
 len:t.M.length<=B
 seq:0<=t.c/\t.c<=B
def okU.up {A B:Nat} {t:Am} (h:okU A t) (a:A<=B):okU B t:=⟨h.srt,h.kv,Ue h.len a,h.seq.1,by have:=h.seq.2;omega⟩
def okT.w {t:Am} (h:okT n t):okU (6*n) t:=⟨h.srt,h.kv,h.len,h.seq.1,by have:=h.seq;omega⟩
def ze9 (h:batchV l=true):l.length<=6:=(zbF h).1.2
def zhY (ts:List Am) (r:A7) (j:Nat) (a:j<ts.length) (b:atT ts r.r=(j:Int)):playT ts r=ts.set j ⟨ts[j].j,ts[j].I,ts[j].c+1,applyK ts[j].M r.R,ts[j].u⟩:=by unfold playT;rw[b,dT,cond_true,zcs ts j a,Sa]
def zgK (ts:List Am) (r:A7) (a:atT ts r.r= -1):playT ts r=ts:=by unfold playT;rw[a];rfl
def zy9 (ts:List Am) (r:A7):(playT ts r).map Am.j=ts.map Am.j:=by
 rcases zbi ts r.r with ⟨j,a,e,b,_⟩ | ⟨e,_⟩
 ·rw[zhY ts r j a e,Xg];refine Ur (by simp) λi b c=>?_;rw[Wu];split
  ·rename_i h;subst h;simp
  ·rfl
 ·rw[zgK ts r e]
def zza {B:Nat} {r:A7} (h: ∀t∈ts,okU B t) (c:batchV r.R=true): ∀t∈playT ts r,okU (B+6) t:=by
 rcases zbi ts r.r with ⟨j,d,e,f,_⟩ | ⟨e,_⟩
 ·rw[zhY ts r j d e];intro t a;rcases Vq a with a | rfl
  ·exact (h t a).up (by omega)
  ·have b:=h _ (Rx d);have hl:=zdd r.R ts[j].M;have:=ze9 c;have:=b.len;have:=b.seq;exact ⟨zdZ _ b.srt,zf5 b.kv c,by simp only;omega,by simp only;omega,by simp only;omega⟩
 ·rw[zgK ts r e];exact λt a=>(h t a).up (by omega)
def ztE (h:List A7): ∀ts:List Am,(h.foldl playT ts).map Am.j=ts.map Am.j:=by
 induction h with
 | nil=>intro ts;rfl
 | cons r h ih=>intro ts;rw[Vz,ih,zy9]
def ztF (h:List A7) (ts:List Am):(h.foldl playT ts).length=ts.length:=by have:=congrArg Tl (ztE h ts);simpa using this
def ztH (B:Nat): ∀(A:List A7) (ts:List Am),(∀t∈ts,okU B t)->(∀r∈A,batchV r.R=true)->∀t∈A.foldl playT ts,okU (B+6*A.length) t:=by
 intro A;induction A generalizing B with
 | nil=>intro ts h _ t a;exact (h t a).up (by simp)
 | cons r A ih=>intro ts h b t a;exact (ih (B+6) (playT ts r) (zza h (b r (by simp))) (λx c=>b x (by simp[c])) t a).up (by simp only[Tf];omega)
def zly (f:β->α->β) (l:List α) (b:β) (k:Nat) (a:k<l.length):(l.take (k+1)).foldl f b=f ((l.take k).foldl f b) l[k]:=by rw[zQ l k a,Uv];rfl
def zyK (D:List A7) (ts:List Am) (B:Nat) (V:B<=10000) (h: ∀t∈ts,okU B t) (hl:ts.length<=1000) (a:D.length<=1000) (i: ∀r∈D,batchV r.R=true) {body:Int × List Am->Option (Ctl (Int × List Am) (Ctl (List Am) R))} {f:List Am->Option R} (l:body=λ(A:Int × List Am)=>if Dc (A.1<(D.length:Int)) then ((idx D A.1).bind λG=>
 (zbW A.2 G.r).bind λF=>
 bindC (if Dc (F>=0) then ((idx A.2 F).bind λE=>
 (zdv E.M G.R).bind λJ=>
 some (.go (A.2.set F.toNat (⟨E.j,E.I,J8 (E.c+1),J,E.u⟩:Am))))
 else (some (.go A.2)))
 (λ(O:List Am)=>some (.go (J8 (A.1+1),O))))
 else (some (.done (.go A.2)))) (o:f (D.foldl playT ts)=some z):bindC (loopO body ((0:Int),ts)) f=some z:=by
 refine zt (λk (S:Int × List Am)=>S=((k:Int),(D.take k).foldl playT ts)) D.length (λr=>r= .go (D.foldl playT ts)) rfl ?_ ?_ (λr a=>by rw[a];exact o)
 ·rintro k _ b rfl;left;refine ⟨_,?_,rfl⟩;have m:=ztH B (D.take k) ts h λr a=>i r (Ug a);have p:=ztF (D.take k) ts;rw[zly _ _ _ k b];generalize (D.take k).foldl playT ts=us at m p;have U:B+6*(D.take k).length<=20000:=by rw[Tg];omega
  have s:=ze9 (i _ (Rx b));rw[l];simp only[zb D k b,Rv,zh5 us _ (by omega)];rw[iP (by simpa using b),za (n:=(k:Int)+1)];rcases zbi us D[k].r with ⟨j,d,e,v,_⟩ | ⟨e,_⟩
  ·have g:=m _ (Rx d);have w:=g.seq;have x:=g.len;rw[e,dT,zhY us _ j d e];have q:=zim us[j].M D[k].R g.srt (by omega) (by omega);simp only[iT,zb us j d,Rv,q,zd,Sa];rw[za (n:=us[j].c+1)];rfl
  ·rw[e,zgK us _ e];rfl
 ·rintro _ rfl;exact ⟨.go (D.foldl playT ts),by rw[l];simp[Tu],rfl⟩
def zzv (D:List A7) (ts:List Am) (B:Nat) (V:B<=10000) (h: ∀t∈ts,okU B t) (hl:ts.length<=1000) (a:D.length<=1000) (i: ∀r∈D,batchV r.R=true) {body:Int × List Am->Option (Ctl (Int × List Am) (Ctl (List Am) R))} {f:List Am->Option R} (l:body=λ(A:Int × List Am)=>if Dc (A.1<(D.length:Int)) then ((idx D A.1).bind λG=>
 (zcz A.2 G.r).bind λF=>
 bindC (if Dc (F>=0) then ((idx A.2 F).bind λE=>
 (zbo E.M G.R).bind λJ=>
 some (.go (A.2.set F.toNat (⟨E.j,E.I,J8 (E.c+1),J.1,E.u⟩:Am))))
 else (some (.go A.2)))
 (λ(O:List Am)=>some (.go (J8 (A.1+1),O))))
 else (some (.done (.go A.2)))) (p:f (D.foldl playT ts)=some z):bindC (loopO body ((0:Int),ts)) f=some z:=by
 refine zt (λk (S:Int × List Am)=>S=((k:Int),(D.take k).foldl playT ts)) D.length (λr=>r= .go (D.foldl playT ts)) rfl ?_ ?_ (λr a=>by rw[a];exact p)
 ·rintro k _ b rfl;left;refine ⟨_,?_,rfl⟩;have m:=ztH B (D.take k) ts h λr a=>i r (Ug a);have q:=ztF (D.take k) ts;rw[zly _ _ _ k b];generalize (D.take k).foldl playT ts=us at m q;have U:B+6*(D.take k).length<=20000:=by rw[Tg];omega
  have o:=i _ (Rx b);have v:=ze9 o;rw[l];simp only[zb D k b,Rv,zkL us _ (by omega)];rw[iP (by simpa using b),za (n:=(k:Int)+1)];rcases zbi us D[k].r with ⟨j,g,e,w,_⟩ | ⟨e,_⟩
  ·have d:=m _ (Rx g);have x:=d.seq;have y:=d.len;rw[e,dT,zhY us _ j g e];have s:=zjL us[j].M D[k].R d.srt d.kv (by omega) (by omega);simp only[iT,zb us j g,Rv,s,o,cT,zd,Sa];rw[za (n:=us[j].c+1)];rfl
  ·rw[e,zgK us _ e];rfl
 ·rintro _ rfl;exact ⟨.go (D.foldl playT ts),by rw[l];simp[Tu],rfl⟩
def zjd {s:Ad} (h:sharesV s=true):s.t.length<=4:=((zfI s).1 h).2.1
def okM.n4 (h:okM n m):m.a.length=m.s.t.length/\m.a.length<=4/\m.F.length=m.a.length:=by have b:=congrArg Tl h.ids;have c:=congrArg Tl h.base;simp only[Uk]at b c;have:=zjd h.sh;omega
def okM.sm {n:Nat} {m:As} (h:okM n m) (a:n<=1000):smM m:=by have c:=h.n4;have d:=h.rows;exact ⟨by omega,by omega,by omega,λt b=>(h.tens t b).sm a⟩
theorem zwZ {f:α->β} {l:List α} {k:List β} (h:l.map f=k) (i:Nat) (hi:i<l.length) (a:i<k.length):f l[i]=k[i]:=by grind
def okM.id (h:okM n m) (i:Nat) (hi:i<m.a.length):m.a[i].j=(m.s.t[i]'(by have:=h.n4;omega)).r:=by have b:=h.n4;have:=zwZ h.ids i hi (by simp;omega);simpa using this
def okM.lt (h:okM n m) (i j:Nat) (b:i<j) (c:j<m.a.length):(m.a[i]'(by omega)).j<m.a[j].j:=by have d:=h.n4;rw[h.id i (by omega),h.id j c];exact zo4 h.sh j (by omega) i b
def zzM (h:okM n m) (j:Nat) (b:j<m.a.length):atT m.a m.a[j].j=(j:Int):=by
 rcases zbi m.a m.a[j].j with ⟨i,hi,e,c,_⟩ | ⟨_,c⟩
 ·rcases Uw i j with hl | rfl | hl
  ·have:=h.lt i j hl b;omega
  ·exact e
  ·have:=h.lt j i hl hi;omega
 ·exact absurd rfl (c _ (Rx b))
def zzc (h:okM n m) (j:Nat) (c:j<m.a.length) (d:Int):quoV d m.s m.a[j].j=quoV (-1) m.s m.a[j].j:=by
 unfold quoV;cases b:m.s.t.find? (λx=>decide (x.r=m.a[j].j)) with
 | some x=>rfl
 | none=>exfalso;rw[Ut]at b;have e:=h.n4;refine b _ (Rx (show j<m.s.t.length by omega)) ?_;rw[decide_eq_true_eq];exact (h.id j c).symm
def zqU (l:List A7) (id:Int) (hl:l.length<=1000) {body:Int × Int->Option (Ctl (Int × Int) (Ctl Int R))} {f:Int->Option R} (b:body=λ(S:Int × Int)=>if Dc (S.2<(l.length:Int)) then ((idx l S.2).bind λA=>
 bindC (if Dc (A.r=id) then (some (.go (J8 (S.1+1))))
 else (some (.go S.1)))
 (λ(B:Int)=>some (.go (B,J8 (S.2+1)))))
 else (some (.done (.go S.1)))) (c:f (ofRow id l:Int)=some z):bindC (loopO body ((0:Int),(0:Int))) f=some z:=by
 refine zt (λk (S:Int × Int)=>S=((ofRow id (l.take k):Int),(k:Int))) l.length (λr=>r= .go (ofRow id l:Int)) rfl ?_ ?_ (λr d=>by rw[d];exact c)
 ·rintro k _ a rfl;left;refine ⟨_,?_,rfl⟩;have g:ofRow id (l.take k)<=k:=Ue (Tk _ _) (by simp;omega);rw[b];simp only[zb l k a,Rv];rw[iP (by simpa using a),za (n:=(k:Int)+1)];have e:ofRow id (l.take (k+1))=ofRow id (l.take k)+(if l[k].r=id then 1 else 0):=by unfold ofRow;rw[zcE _ l k a,Sy];by_cases h:l[k].r=id<;>simp[h]
  rw[e];by_cases h:l[k].r=id
  ·rw[dT h,iP rfl,iP h,za];rfl
  ·rw[dF h,iN (by simp),iN h];rfl
 ·rintro _ rfl;exact ⟨.go (ofRow id l:Int),by rw[b];simp[Tu],rfl⟩
def zoU (id:Int) (l:List A7):(noRow id l).length<=l.length:=Tk _ _
def zkK (m:As) (j:Nat) (b:j<m.a.length) (ops:List Op):writeM m (j:Int) ops=
    (bif batchV ops then
 (bif Dc ((bytesN (applyK m.a[j].M ops):Int)>quoV (-1) m.s m.a[j].j) then (m,codeR 3)
 else (⟨m.E,m.s,m.a.set j ⟨m.a[j].j,m.a[j].I,m.a[j].c+1,applyK m.a[j].M ops,m.a[j].u⟩,(bif Dc (6<=ofRow m.a[j].j m.x) then flushM m (j:Int) else m).F,(bif Dc (6<=ofRow m.a[j].j m.x) then flushM m (j:Int) else m).x++ [⟨m.a[j].j,ops,false⟩]⟩,
      ⟨0,m.a[j].c+1,[],[]⟩))
 else (m,codeR 1)):=by unfold writeM;rw[zcs _ j b,Sa]
def zq0 (m:As) (i:Int):(flushM m i).x.length<=m.x.length:=zoU _ _
def zuo (m:As) (c:At) (h:okM n m) (q:n<=500) (e:c.R.length<=1048576) (j:Nat) (b:j<m.a.length):zbU m (j:Int) c=some ((writeM m (j:Int) c.R).2,(writeM m (j:Int) c.R).1):=by
 have hs:=h.sm (by omega);have d:=h.tens _ (Rx b);have u:=h.n4;have v:=h.rows;have hl:=d.len;have w:=d.seq;have k:=ziZ m _ hs j b (zzM h j b) rfl;unfold zbU;rw[zkK m j b,zb m.a j b];simp only[Rv,zd0 _ e,no_R];cases f:batchV c.R with
 | false=>rfl
 | true=>
   have y:=ze9 f;have z:=zdd c.R m.a[j].M;have o:=zim m.a[j].M c.R d.srt (by omega) (by omega);have p:=zfX (applyK m.a[j].M c.R) (zf5 d.kv f) (by omega);simp only[Si,Rw,iF,o,p,zlK m.s _ (show m.s.t.length<=1048576 by omega),zzc h j b 0,Rv,cT];cases Dc ((bytesN (applyK m.a[j].M c.R):Int)>quoV (-1) m.s m.a[j].j) with
   | true=>rfl
   | false=>
     simp only[Rw,iF,cF];refine zqU m.x m.a[j].j (by omega) rfl ?_;have g: ∀l:List A7,l.length<=1000->∀x:A7,app 40 l [x]=some (l++ [x]):=λl hl x=>ze (by simp only[Ry];omega) (by simp only[Ry];omega);by_cases i:6<=ofRow m.a[j].j m.x
     ·rw[dT (by omega:(ofRow m.a[j].j m.x:Int)>=6),dT i];have A:=zq0 m (j:Int);simp only[iT,k,Rv,zd,ztb _ e,g _ (show (flushM m (j:Int)).x.length<=1000 by omega),Sa,cT];rw[za (n:=m.a[j].c+1)];rfl
     ·rw[dF (by omega: ¬(ofRow m.a[j].j m.x:Int)>=6),dF i];simp only[Rw,iF,Rv,zd,ztb _ e,g _ (show m.x.length<=1000 by omega),Sa,cF];rw[za (n:=m.a[j].c+1)]
def zqH (m:As) (ops:List Op) (h:okM n m) (v:n<=500) (k:ops.length<=1048576) (j:Nat) (d:j<m.a.length):zhz m (j:Int) ops=some (writeM m (j:Int) ops):=by
 have hs:=h.sm (by omega);have b:=h.tens _ (Rx d);have w:=h.n4;have y:=h.rows;have hl:=b.len;have z:=b.seq;have o:=zli m hs j d;unfold zhz;rw[zkK m j d,zb m.a j d];have p:zbo m.a[j].M ops=some (bif batchV ops then (applyK m.a[j].M ops,true) else (m.a[j].M,false)):=by
  by_cases f:ops.length<=1000
  ·exact zjL _ _ b.srt b.kv (by omega) f
  ·have e:batchV ops=false:=by
    cases e:batchV ops with
    | false=>rfl
    | true=>have:=ze9 e;omega
   unfold zbo;rw[zkg m.a[j].M b.srt b.kv (by omega)];simp only[Rv,Si,Rw,iF];rw[ze (by simp only[Ss];omega) (by simp only[Ss];omega),zc4 ops k,e];rfl
 simp only[Rv,p,zcZ];cases e:batchV ops with
 | false=>rfl
 | true=>
   have A:=ze9 e;have B:=zdd ops m.a[j].M;have q:=zho (applyK m.a[j].M ops) (zdZ _ b.srt) (zf5 b.kv e) (by omega);simp only[Si,Rw,iF,q,zlj m.s _ (show m.s.t.length<=1048576 by omega),Rv,cT];cases Dc ((bytesN (applyK m.a[j].M ops):Int)>quoV (-1) m.s m.a[j].j) with
   | true=>rfl
   | false=>
     simp only[Rw,iF,cF];refine zqU m.x m.a[j].j (by omega) rfl ?_;have g: ∀l:List A7,l.length<=1000->∀x:A7,app 40 l [x]=some (l++ [x]):=λl hl x=>ze (by simp only[Ry];omega) (by simp only[Ry];omega);have i:app 40 ([]:List Op) ops=some ops:=by rw[ze (by simp only[Ss];omega) (by simp only[Ss];omega)];rfl
     by_cases f:6<=ofRow m.a[j].j m.x
     ·rw[dT (by omega:(ofRow m.a[j].j m.x:Int)>=6),dT f];have C:=zq0 m (j:Int);have u:(flushM m (j:Int)).a=m.a:=rfl;simp only[iT,o,Rv,zd,i,u,zb m.a j d,g _ (show (flushM m (j:Int)).x.length<=1000 by omega),Sa,cT];rw[za (n:=m.a[j].c+1)];rfl
     ·rw[dF (by omega: ¬(ofRow m.a[j].j m.x:Int)>=6),dF f];simp only[Rw,iF,Rv,zd,i,zb m.a j d,g _ (show m.x.length<=1000 by omega),Sa,cF];rw[za (n:=m.a[j].c+1)]
def zpS (l:List Bf) (q:Int) (hl:l.length<=1000):(if Dc ((l.length:Int)>0) then ((idx l (J8 ((l.length:Int) - 1))).bind λE=>some (Dc (E.c=q))) else (some false))=some (lastIs l q):=by
 unfold lastIs;by_cases h:0<l.length
 ·rw[iP (by simpa using h),za,show (l.length:Int) - 1=((l.length - 1:Nat):Int) by omega,zb l _ (by omega),List.getLast?_eq_getElem?,Th (by omega)];rfl
 ·have:l= []:=List.eq_nil_of_length_eq_zero (by omega);subst this;rfl
def zdY (m:As) (j:Nat) (b:j<m.a.length) (l:List Bf):withSnaps m (j:Int) l=⟨m.E,m.s,m.a.set j ⟨m.a[j].j,m.a[j].I,m.a[j].c,m.a[j].M,l⟩,m.F,m.x⟩:=by unfold withSnaps;rw[zcs _ j b,Sa]
def zlU (m:As) (j:Nat) (b:j<m.a.length):snapM m (j:Int)=
    (bif lastIs m.a[j].u m.a[j].c then (m,⟨0,m.a[j].c,[],[]⟩)
 else bif Dc (2<=m.a[j].u.length) then (m,codeR 4)
 else (withSnaps m (j:Int) (m.a[j].u++ [⟨m.a[j].c,m.a[j].M⟩]),⟨0,m.a[j].c,[],[]⟩)):=by unfold snapM;rw[zcs _ j b]
def zva (m:As) (h:okM n m) (f:n<=500) (j:Nat) (b:j<m.a.length):zcN m.a (j:Int)=some ((snapM m (j:Int)).2,(snapM m (j:Int)).1.a):=by
 have d:=h.tens _ (Rx b);have g:=d.sn;have hl:=d.len;unfold zcN;rw[zlU m j b,zdY m j b,zb m.a j b];simp only[Rv,zpS _ _ (show m.a[j].u.length<=1000 by omega),no_R];cases lastIs m.a[j].u m.a[j].c with
 | true=>rfl
 | false=>
   simp only[Rw,iF,cF];by_cases e:2<=m.a[j].u.length
   ·rw[dT (by omega:(m.a[j].u.length:Int)>=2),dT e];rfl
   ·rw[dF (by omega: ¬(m.a[j].u.length:Int)>=2),dF e];simp only[Rw,iF,cF,zop _ (show m.a[j].M.length<=1048576 by omega),Rv];rw[ze (by simp only[Ry];omega) (by simp only[Ry];omega)];simp only[Rv,Sa]
def zvV (m:As) (h:okM n m) (f:n<=500) (j:Nat) (b:j<m.a.length):ziR m (j:Int)=some (snapM m (j:Int)):=by
 have d:=h.tens _ (Rx b);have g:=d.sn;have hl:=d.len;unfold ziR;rw[zlU m j b,zdY m j b,zb m.a j b];simp only[Rv,zpS _ _ (show m.a[j].u.length<=1000 by omega),zcZ];cases lastIs m.a[j].u m.a[j].c with
 | true=>rfl
 | false=>
   simp only[Rw,iF,cF];by_cases e:2<=m.a[j].u.length
   ·rw[dT (by omega:(m.a[j].u.length:Int)>=2),dT e];rfl
   ·rw[dF (by omega: ¬(m.a[j].u.length:Int)>=2),dF e];simp only[Rw,iF,cF,ziy _ (show m.a[j].M.length<=1048576 by omega),Rv];rw[ze (by simp only[Ss];omega) (by simp only[Ss];omega)];simp only[Rv,Ta,Sa];rw[ze (by simp only[Ry];omega) (by simp only[Ry];omega)];rfl
def zyh (l:List Bf) (q:Int):(∃j,∃a:j<l.length,atS l q=(j:Int))\/atS l q= -1:=by
 rcases zfB (λs:Bf=>decide (s.c=q)) l with ⟨j,a,e,_,_⟩ | ⟨e,_⟩
 ·exact .inl ⟨j,a,e⟩
 ·exact .inr e
def zsu (m:As) (h:okM n m) (j:Nat) (b:j<m.a.length) (q:Int):zcn m.a (j:Int) q=some (atS m.a[j].u q):=by
 have e:=(h.tens _ (Rx b)).sn;unfold zcn;rw[zb m.a j b];have:zV m.a[j].u q=some (atS m.a[j].u q):=by unfold zV atS fstV;rw[zcR (λs:Bf=>decide (s.c=q)) m.a[j].u (by omega) (λj=>j) rfl (λk d=>?_) (by simp)];simp only[zb m.a[j].u k d,Rv,zf7];rw[iP (by simpa using d),za];cases Dc (m.a[j].u[k].c=q)<;>rfl
 simp only[Rv,this]
def zzX (l:List Bf) (k:Nat) (d:k<l.length) (hl:l.length<=1000):zdK l (k:Int) (J8 ((k:Int)+1))=some (l.take k++l.drop (k+1)):=by
 unfold zdK;rw[za (n:=(k:Int)+1)];have a:piece l (k:Int) ((k:Int)+1)=some ((l.drop k).take 1):=by unfold piece;rw[iP ⟨by omega,by omega,by omega⟩,Sa,show ((k:Int)+1).toNat - k=1 by omega]
 have b:piece l 0 (k:Int)=some (l.take k):=by unfold piece;rw[iP ⟨by omega,by omega,by omega⟩];simp
 have c:piece l ((k:Int)+1) (l.length:Int)=some (l.drop (k+1)):=by unfold piece;rw[iP ⟨by omega,by omega,by omega⟩,show ((k:Int)+1).toNat=k+1 by omega,Sa,Tp (by rw[Sw];omega)]
 simp only[a,b,c,Rv];rw[dF (by omega: ¬(k:Int)=(k:Int)+1)];rfl
def zlA (m:As) (j:Nat) (b:j<m.a.length) (c:At):heldM m (j:Int) c=
    (bif Dc (atS m.a[j].u c.N<0) then (m,codeR 5)
 else bif Dc (c.B=10) then (m,findR (m.a[j].u.getD (atS m.a[j].u c.N).toNat ⟨0,[]⟩).M c.q)
 else (withSnaps m (j:Int) (m.a[j].u.take (atS m.a[j].u c.N).toNat++m.a[j].u.drop ((atS m.a[j].u c.N).toNat+1)),codeR 0)):=by unfold heldM;rw[zcs _ j b]
def zqW (l:List α) (k:Nat) (a:k<=l.length):cutO (l.map some) (0:Int) (k:Int)=some (l.take k,Ud k none++(l.drop k).map some):=by unfold cutO;rw[iP ⟨by omega,by omega,by simp_all⟩];simp only[Sa,Int.toNat_zero,Nat.sub_zero,Wg,List.take_zero,Ta,<-Uz,zls,Vh,<-Vd,List.map_nil,Ta]
theorem zpO (l:List α) (k:Nat) (a:k<l.length): ∃h,cutO (Ud k none++(l.drop k).map some) ((k:Int)+1) (l.length:Int)=some (l.drop (k+1),h):=by
 unfold cutO;rw[iP ⟨by omega,by omega,by grind⟩];have e:((Ud k (none:Option α)++(l.drop k).map some).drop ((k:Int)+1).toNat).take ((l.length:Int).toNat - ((k:Int)+1).toNat)=(l.drop (k+1)).map some:=by rw[show ((k:Int)+1).toNat=k+1 by omega,Sa,List.drop_append,Vy (by simp),Ta,List.length_replicate,show k+1 - k=1 by omega,<-Vd,Wf,Tp (by simp)]
 rw[e,zls];simp
def zvK (m:As) (h:okM n m) (o:n<=500) (j:Nat) (d:j<m.a.length) (c:At):
    bindC (loopO (λ(A:Int)=>if Dc (A<(m.a[j].u.length:Int))then Bd0 (idx m.a[j].u A) λG=>if !(Dc (G.c=c.N))then some (.go (J8 (A+1)))else if Dc (c.B=10)then Bd0 (ze5 G.M c.q) λV=>some (.done (.done (m,V)))else Bd0 (piece m.a[j].u (0:Int) A) λZ=>Bd0 (cutO (m.a[j].u.map some) (0:Int) A) λD=>Bd0 (app 32 ([]:List Bf) D.1) λJ=>Bd0 (piece D.2 (J8 (A+1)) (D.2.length:Int)) λE60=>Bd0 (cutO D.2 (J8 (A+1)) (D.2.length:Int)) λO=>Bd0 (app 32 J O.1) λU=>some (.done (.done ((⟨m.E,m.s,m.a.set ((j:Nat):Int).toNat (⟨m.a[j].j,m.a[j].I,m.a[j].c,m.a[j].M,U⟩),m.F,m.x⟩:As),(⟨0,0,[],[]⟩:A6))))else some (.done (.go ())))
 (0:Int))
 (λ(T40:Unit)=>(zk 5).bind λW=>
 some (m,W))=some (heldM m (j:Int) c):=by
 have f:=h.tens _ (Rx d);have p:=f.sn;refine (zcR (λs:Bf=>decide (s.c=c.N)) m.a[j].u (by omega) (λk=>(bif Dc (c.B=10) then (m,findR (m.a[j].u.getD k.toNat ⟨0,[]⟩).M c.q)
  else (withSnaps m (j:Int) (m.a[j].u.take k.toNat++m.a[j].u.drop (k.toNat+1)),codeR 0))) (z:=(m,codeR 5)) rfl (λk b=>?_) (by simp)).trans ?_
 ·simp only[zb m.a[j].u k b,Rv];rw[iP (by simpa using b),za (n:=(k:Int)+1)];have hE:=(f.each _ (Rx b)).2.1;cases Dc (m.a[j].u[k].c=c.N) with
  | false=>rfl
  | true=>
    simp only[Si,Rw,iF,iT,Sa];cases Dc (c.B=10) with
    | true=>simp only[iT,zlV _ _ (show m.a[j].u[k].M.length<=1048576 by omega),Rv,cT,Uq,Th b,Up]
    | false=>
      have g:piece m.a[j].u (0:Int) (k:Int)=some (m.a[j].u.take k):=by unfold piece;rw[iP ⟨by omega,by omega,by omega⟩];simp
      have i:(Ud k (none:Option Bf)++(m.a[j].u.drop k).map some).length=m.a[j].u.length:=by simp;omega
      have e: ∃z,piece (Ud k (none:Option Bf)++(m.a[j].u.drop k).map some) ((k:Int)+1) (m.a[j].u.length:Int)=some z:=by unfold piece;rw[iP ⟨by omega,by omega,by omega⟩];exact ⟨_,rfl⟩
      obtain ⟨z,e⟩:=e;obtain ⟨ms,l⟩:=zpO m.a[j].u k b;simp only[Rw,iF,g,Rv,zqW m.a[j].u k (by omega),i,e,l,cF];rw[ze (by simp only[Ss,Tg];omega) (by simp only[Ss,Tg];omega)];simp only[Rv,Ta];rw[ze (by simp only[Tg,Sw];omega) (by simp only[Tg,Sw];omega),zdY m j d];rfl
 ·rw[zlA m j d];unfold atS fstV;cases m.a[j].u.findIdx? (λs:Bf=>decide (s.c=c.N)) with
  | none=>rfl
  | some k=>simp only;rw[dF (by omega: ¬(k:Int)<0)];rfl
theorem set_loop (g:α->α) (l:List α) (hl:l.length<=1000000) {body:Int × List α->Option (Ctl (Int × List α) (Ctl (List α) R))} {f:List α->Option R} (b: ∀k (us:List α),k<l.length->us.length=l.length->body ((k:Int),us)=(idx us (k:Int)).bind λE=>some (.go (J8 ((k:Int)+1),us.set ((k:Nat):Int).toNat (g E)))) (e: ∀us:List α,us.length=l.length->body ((l.length:Int),us)=some (.done (.go us))) (h:f (l.map g)=some z):bindC (loopO body ((0:Int),l)) f=some z:=by
 refine zt (λk (S:Int × List α)=>S=((k:Int),(l.take k).map g++l.drop k)) l.length (λr=>r= .go (l.map g)) rfl ?_ ?_ (λr i=>by simp_all)
 ·rintro k _ a rfl;left;have c:((l.take k).map g++l.drop k).length=l.length:=by grind
  have d:((l.take k).map g++l.drop k)[k]'(by omega)=l[k]:=by grind
  rw[b k _ a c,zb _ k (by omega),Rv,d,Sa,za (n:=(k:Int)+1)];congr 3;rw[zQ l k a,Tt,List.set_append_right _ _ (by grind),Uk,Tg,show k - min k l.length=0 by omega,Sd a,List.set_cons_zero];simp
 ·simp_all
def zt9 (m:As) (i:Int) (ops:List Op):(writeM m i ops).1.s=m.s:=by
 unfold writeM;cases batchV ops with
 | false=>rfl
 | true=>cases Dc ((bytesN (applyK (getT m.a i).M ops):Int)>quoV (-1) m.s (getT m.a i).j)<;>rfl
def zrB (m:As) (i:Int):(snapM m i).1=⟨m.E,m.s,(snapM m i).1.a,m.F,m.x⟩:=by
 unfold snapM;cases lastIs (getT m.a i).u (getT m.a i).c with
 | true=>rfl
 | false=>cases Dc (2<=(getT m.a i).u.length)<;>rfl
def zqO (m:As) (j:Nat) (b:j<m.a.length) (c:At):tenM m (j:Int) c=
    (bif Dc (c.B=5) then writeM m (j:Int) c.R
 else bif Dc (c.B=6) then (m,findR m.a[j].M c.q)
 else bif Dc (c.B=7) then (m,⟨0,0,[],scanV m.a[j].M c.q c.Z⟩)
 else bif Dc (c.B=8) then snapM m (j:Int)
 else bif Dc (c.B=11) then (m,⟨0,(bytesN m.a[j].M:Int),[],[]⟩)
 else heldM m (j:Int) c):=by unfold tenM;rw[zcs _ j b]
def zkh (m:As) (c:At) (b:atT m.a (tokR m.E c.U).1= -1):callM m c=(m,codeR 2):=by unfold callM;rw[b];cases (tokR m.E c.U).2.2<;>rfl
def zlu (m:As) (c:At) (j:Nat) (b:j<m.a.length) (d:atT m.a (tokR m.E c.U).1=(j:Int)):
    callM m c=(bif !(tokR m.E c.U).2.2|| !Dc (m.a[j].I=(tokR m.E c.U).2.1) then (m,codeR 2) else tenM m (j:Int) c):=by unfold callM;rw[d,zcs _ j b,dF,Wk]
def zu6 (m:As) (c:At) (h:okM n m) (f:n<=500) (i:c.U.length<=1048576) (g:c.R.length<=1048576):zdG m c=some ((callM m c).2,(callM m c).1):=by
 have l:=h.n4;unfold zdG;rw[zj4 m.E c.U (by omega)];simp only[Rv,zh5 _ _ (show m.a.length<=1048576 by omega),no_R];rcases zbi m.a (tokR m.E c.U).1 with ⟨j,b,e,_,_⟩ | ⟨e,_⟩
 ·rw[zlu m c j b e,e,dF (by omega: ¬(j:Int)<0)];simp only[zb m.a j b,Rv];cases (tokR m.E c.U).2.2 with
  | false=>rfl
  | true=>
    cases Dc (m.a[j].I=(tokR m.E c.U).2.1) with
    | false=>rfl
    | true=>
      simp only[Si,Rw,iF,Rv,Wp,cF];rw[zqO m j b c];have A:=h.tens _ (Rx b);have hl:=A.len;have o:=A.sn;cases Dc (c.B=5) with
      | true=>simp only[iT,zuo m c h f g j b,Rv,cT];have:=zt9 m (j:Int) c.R;rw[<-this]
      | false=>
        cases Dc (c.B=6) with
        | true=>simp only[Rw,iF,iT,zms _ _ A.srt (show m.a[j].M.length<=1048576 by omega),Rv,cT,cF]
        | false=>
          cases Dc (c.B=7) with
          | true=>simp only[Rw,iF,iT,zlD _ _ _ (show m.a[j].M.length<=1048576 by omega),Rv,cT,cF]
          | false=>
            cases Dc (c.B=8) with
            | true=>simp only[Rw,iF,iT,zva m h f j b,Rv,cT,cF];rw[<-zrB m (j:Int)]
            | false=>
              cases Dc (c.B=11) with
              | true=>simp only[Rw,iF,iT,zfX _ A.kv (show m.a[j].M.length<=1048576 by omega),Rv,cT,cF]
              | false=>
                simp only[Rw,iF,zsu m h j b,Rv,cF];rw[zlA m j b];rcases zyh m.a[j].u c.N with ⟨k,d,D⟩ | D
                ·rw[D,dF (by omega: ¬(k:Int)<0)];simp only[Rw,iF,cF,zb m.a[j].u k d,Rv,zzX m.a[j].u k d (by omega),Sa];have F:=A.each _ (Rx d);cases Dc (c.B=10) with
                 | true=>simp only[iT,zms _ _ F.1 (show m.a[j].u[k].M.length<=1048576 by omega),Rv,cT,Uq,Th d,Up]
                 | false=>rw[zdY m j b];rfl
                ·rw[D];rfl
 ·rw[zkh m c e,e];cases (tokR m.E c.U).2.2<;>rfl
def zs1 (m:As) (c:At) (h:okM n m) (d:n<=500) (e:c.R.length<=1048576) (j:Nat) (b:j<m.a.length):zgT m (j:Int) c=some (tenM m (j:Int) c):=by
 have A:=h.tens _ (Rx b);have hl:=A.len;have f:=A.sn;unfold zgT;rw[zqO m j b c,zb m.a j b];simp only[Rv];cases Dc (c.B=5) with
 | true=>simp only[iT,zqH m c.R h d e j b,Rv,cT]
 | false=>
   cases Dc (c.B=6) with
   | true=>simp only[Rw,iF,iT,zlV _ _ (show m.a[j].M.length<=1048576 by omega),Rv,cT,cF]
   | false=>
     cases Dc (c.B=7) with
     | true=>simp only[Rw,iF,iT,zlZ _ _ _ (show m.a[j].M.length<=1048576 by omega),Rv,cT,cF]
     | false=>
       cases Dc (c.B=8) with
       | true=>simp only[Rw,iF,iT,zvV m h d j b,Rv,cT,cF]
       | false=>
         cases Dc (c.B=11) with
         | true=>simp only[Rw,iF,iT,zho _ A.srt A.kv (show m.a[j].M.length<=1000000 by omega),Rv,cT,cF]
         | false=>simp only[Rw,iF,cF];exact zvK m h d j b c
def zso (m:As) (c:At) (h:okM n m):zex m c=some ((createM m c).2,(createM m c).1):=by
 have v:=h.n4;have w:=zjd h.sh;unfold zex createM;simp only[zrf,zlN,zh5 _ _ (show m.a.length<=1048576 by omega),no_R,zfV m.s _ _ (show m.s.t.length<=1048576 by omega),zcC,len32,Rv];cases Dc (1<=c.r/\c.r<=99) with
 | false=>rfl
 | true=>
 cases Dc (0<=c.N/\c.N<=40) with
 | false=>rfl
 | true=>
 cases Dc (c.q.length=32) with
 | false=>rfl
 | true=>
 rcases zbi m.a c.r with ⟨j,z,e,_,_⟩ | ⟨e,b⟩
 ·rw[e,dT (by omega:(j:Int)>=0)];rfl
 ·have k: ∀x∈m.F,¬x.j=c.r:=by intro x l o;have d:x.j∈m.F.map Am.j:=Ua l;rw[h.base]at d;obtain ⟨y,p,u⟩:=Uu.1 d;exact b y p (u.trans o)
  rw[e];simp only[Si,Rw,iF,Rv,Wk,show Dc ((-1:Int)>=0)=false from rfl,cF];by_cases f:4<=m.a.length
  ·rw[dT (by omega:(m.a.length:Int)>=4),dT f];rfl
  ·rw[dF (by omega: ¬(m.a.length:Int)>=4),dF f];have g:=zmn m.a (newTen c.r) (by omega) b;have i:=zmn m.F (newTen c.r) (by omega) k;unfold newTen at g i;simp only[Rw,iF,cF,g,i,Rv];cases (setR m.s c.r c.N).2<;>rfl
def zsS (m:As) (c:At) (h:okM n m):zgR m c=some (createM m c):=by
 have f:=h.n4;have g:=zjd h.sh;unfold zgR createM;simp only[zW,zkL _ _ (show m.a.length<=1048576 by omega),zcZ,zeg m.s _ _ (show m.s.t.length<=1048576 by omega),zcD,len32,Rv];cases Dc (1<=c.r/\c.r<=99) with
 | false=>rfl
 | true=>
 cases Dc (0<=c.N/\c.N<=40) with
 | false=>rfl
 | true=>
 cases Dc (c.q.length=32) with
 | false=>rfl
 | true=>
 cases Dc (atT m.a c.r>=0) with
 | true=>rfl
 | false=>
   simp only[Si,Rw,iF,Rv,Wk,cF];have b:=zmT m.a (newTen c.r) (by omega);have d:=zmT m.F (newTen c.r) (by omega);unfold newTen at b d;by_cases e:4<=m.a.length
   ·rw[dT (by omega:(m.a.length:Int)>=4),dT e];rfl
   ·rw[dF (by omega: ¬(m.a.length:Int)>=4),dF e];simp only[Rw,iF,cF,b,d,Rv];cases (setR m.s c.r c.N).2<;>rfl
def zdn (l:List Am) (j:Nat) (a:j<l.length) (e:Int):upEpoch l (j:Int) e=l.set j ⟨l[j].j,e,l[j].c,l[j].M,l[j].u⟩:=by unfold upEpoch;rw[zcs _ j a,Sa]
def zwq (m:As) (c:At):(quotaM m c).1=⟨(quotaM m c).1.E,(quotaM m c).1.s,m.a,m.F,m.x⟩:=by
 unfold quotaM;cases Dc (0<=c.N/\c.N<=40) with
 | false=>rfl
 | true=>cases (setR m.s c.r c.N).2<;>rfl
def zjr (m:As) (id:Int) (j:Nat) (b:j<m.a.length) (c:atT m.a id=(j:Int)):rotateM m id=
    (bif Dc (m.a[j].I>=1000000) then (m,codeR 4)
 else (⟨m.E,m.s,upEpoch m.a (j:Int) (m.a[j].I+1),(bif Dc (atT m.F id>=0) then upEpoch m.F (atT m.F id) (m.a[j].I+1) else m.F),m.x⟩,
 ⟨0,0,mintV m.E id (m.a[j].I+1),[]⟩)):=by unfold rotateM;rw[c,zcs _ j b]
def zst (m:As) (id:Int) (h:okM n m) (j:Nat) (b:j<m.a.length) (c:atT m.a id=(j:Int)):zez m id=some ((rotateM m id).2,(rotateM m id).1):=by
 have i:=h.n4;have l:=(h.tens _ (Rx b)).ep;unfold zez;rw[zjr m id j b c];simp only[zh5 _ _ (show m.a.length<=1048576 by omega),zh5 _ _ (show m.F.length<=1048576 by omega),c,zb m.a j b,no_R,zcC,Rv,Sa];by_cases d:m.a[j].I>=1000000
 ·rw[dT d];rfl
 ·rw[dF d,za (n:=m.a[j].I+1),zdn m.a j b];have g: ∀t:Am,idx (m.a.set j t) (j:Int)=some t:=λt=>by rw[zb _ j (by rw[Ww];exact b),Vc]
  simp only[Rw,iF,cF,g,Rv];rcases zbi m.F id with ⟨k,f,e,_,_⟩ | ⟨e,_⟩
  ·rw[e,dT (by omega:(k:Int)>=0),zdn m.F k f];simp only[iT,zb m.F k f,Rv,zd,Sa,cT]
  ·rw[e];rfl
def zss (m:As) (id:Int) (h:okM n m) (b:n<=500):zey m id=some (codeR 0,removeM m id):=by have c:=h.n4;have d:=zjd h.sh;have e:=h.rows;unfold zey zcP removeM;simp only[zlG m.a id (by omega),zlG m.F id (by omega),zj6 m.s id (by omega),zpP m.x id (by omega),Rv];rfl
def zuk (m:As) (c:At) (h:okM n m):zfi m c=some ((quotaM m c).2,(quotaM m c).1):=by
 have a:=zjd h.sh;unfold zfi quotaM;simp only[zlN,no_R,zfV m.s _ _ (show m.s.t.length<=1048576 by omega),Rv];cases Dc (0<=c.N/\c.N<=40) with
 | false=>rfl
 | true=>cases (setR m.s c.r c.N).2<;>rfl
def zx0 (m:As) (id:Int):(rotateM m id).1.s=m.s/\(rotateM m id).1.x=m.x:=by unfold rotateM;cases Dc ((getT m.a (atT m.a id)).I>=1000000)<;>exact ⟨rfl,rfl⟩
def zwh (m:As) (c:At) (h:okM n m) (d:n<=500):zd2 m c=some ((ownM m c).2,(ownM m c).1):=by
 have k:=h.n4;unfold zd2 ownM;simp only[zh5 _ _ (show m.a.length<=1048576 by omega),no_R,Rv];rcases zbi m.a c.r with ⟨j,b,e,f,_⟩ | ⟨e,_⟩
 ·rw[e,dF (by omega: ¬(j:Int)<0)];simp only[Rw,iF,cF];cases Dc (c.B=2) with
  | true=>simp only[iT,zuk m c h,Rv,cT];rw[<-zwq m c]
  | false=>
    cases Dc (c.B=3) with
    | true=>simp only[Rw,iF,iT,zss m _ h d,Rv,cT,cF]
    | false=>
      cases Dc (c.B=4) with
      | true=>simp only[Rw,iF,iT,zst m _ h j b e,Rv,cT,cF];obtain ⟨g,i⟩:=zx0 m c.r;rw[<-g,<-i]
      | false=>simp only[Rw,iF,ziZ m _ (h.sm (by omega)) j b e f,Rv,cF];rfl
 ·rw[e];rfl
def zvb (m:As) (h:okM n m) (c:n<=500):zfU m=some (codeR 0,syncM m):=by
 have d:=h.rows;unfold zfU syncM;refine set_loop (λr:A7=>⟨r.r,r.R,true⟩) m.x (by omega) (λk us a b=>?_) (λus b=>?_) rfl
 ·simp only;rw[iP (by simpa using a)]
 ·simp
def zuh (m:As) (c:Int) (h:okM n m) (u:n<=500) (l: -9223372036854775808<=c/\c<=9223372036854775807):zfh m c=some (codeR 0,crashM m c):=by
 have v:=h.n4;have i:=h.rows;have y:=zhU m.x c;unfold zfh crashM;refine zyJ m.x c (by omega) l rfl λls=>?_;simp only[zqn m.F (by omega) λt g=>(h.bases t g).1.sm (by omega),Rv];have o:m.F.map (λt:Am=>(⟨t.j,t.I,t.c,t.M,[]⟩:Am))=m.F:=by
  conv=>rhs;rw[<-Vj m.F]
  refine List.map_congr_left λt g=>?_;have:=(h.bases t g).2.1;obtain ⟨a,b,d,e,f⟩:=t;simp only at this;subst this;rfl
 refine set_loop (λt:Am=>⟨t.j,t.I,t.c,t.M,[]⟩) m.F (by omega) (λk us p q=>?_) (λus q=>?_) ?_
 ·simp only;rw[iP (by simpa using p)]
 ·simp
 ·rw[o];refine zyK (keepR c m.x) m.F (6*n) (by omega) (λt g=>(h.bases t g).1.w) (by omega) (by omega) (λr i=>?_) rfl rfl;obtain ⟨s,hs,rfl⟩:=zno _ _ _ i;exact h.ops s hs
def zuu (m:As) (c:Int) (h:okM n m) (e:n<=500) (d: -9223372036854775808<=c/\c<=9223372036854775807):zhx m c=some (crashM m c):=by have f:=h.n4;have b:=h.rows;have g:=zhU m.x c;unfold zhx crashM;refine zzu m.x c (by omega) d rfl λls=>?_;simp only[zok m.F (by omega) λt a=>(h.bases t a).1.sm (by omega),Rv];refine zzv (keepR c m.x) m.F (6*n) (by omega) (λt a=>(h.bases t a).1.w) (by omega) (by omega) (λr b=>?_) rfl rfl;obtain ⟨s,hs,rfl⟩:=zno _ _ _ b;exact h.ops s hs
def zuG (m:As) (c:At) (h:okM n m) (l:n<=500) (o: -9223372036854775808<=c.N/\c.N<=9223372036854775807):zhy m c=some
    (bif Dc (c.B=1) then createM m c else bif Dc (c.B=12) then (syncM m,codeR 0) else bif Dc (c.B=14) then (crashM m c.N,codeR 0) else ownM m c):=by
 have q:=h.n4;have u:=h.rows;have v:=zjd h.sh;unfold zhy;cases Dc (c.B=1) with
 | true=>simp only[iT,zsS m c h,Rv,cT]
 | false=>
 cases Dc (c.B=12) with
 | true=>
   simp only[Rw,iF,iT,cT,cF];unfold syncM;refine set_loop (λr:A7=>⟨r.r,r.R,true⟩) m.x (by omega) (λk us d f=>?_) (λus f=>?_) rfl
   ·simp only;rw[iP (by rw[f];simpa using d)]
   ·simp[f]
 | false=>
 cases Dc (c.B=14) with
 | true=>simp only[Rw,iF,iT,zuu m c.N h l o,Rv,cT,cF];rfl
 | false=>
 simp only[Rw,iF,cF,zkL _ _ (show m.a.length<=1048576 by omega),zcZ,Rv];unfold ownM;rcases zbi m.a c.r with ⟨j,b,e,w,_⟩ | ⟨e,_⟩
 ·rw[e,dF (by omega: ¬(j:Int)<0)];simp only[Rw,iF,cF];cases Dc (c.B=2) with
  | true=>
    simp only[iT,zW,zeg m.s _ _ (show m.s.t.length<=1048576 by omega),Rv,cT];unfold quotaM;cases Dc (0<=c.N/\c.N<=40) with
    | false=>rfl
    | true=>cases p:(setR m.s c.r c.N).2<;>simp[p,bindC]<;>rfl
  | false=>
    cases Dc (c.B=3) with
    | true=>simp only[Rw,iF,iT,zkc m.s c.r (by omega),zjI m.a c.r (by omega),zjI m.F c.r (by omega),zlY m.x c.r (by omega),Rv,zd,cT,cF];rfl
    | false=>
      cases Dc (c.B=4) with
      | true=>
        have y:=(h.tens _ (Rx b)).ep;simp only[Rw,iF,iT,zb m.a j b,Rv,cT,cF,zkL _ _ (show m.F.length<=1048576 by omega),zcD];rw[zjr m c.r j b e];by_cases i:m.a[j].I>=1000000
        ·rw[dT i];rfl
        ·rw[dF i,za (n:=m.a[j].I+1),zdn m.a j b];simp only[Rw,iF,cF];rcases zbi m.F c.r with ⟨k,d,g,_,_⟩ | ⟨g,_⟩
         ·rw[g,dT (by omega:(k:Int)>=0),zdn m.F k d];simp only[iT,zb m.F k d,Rv,zd,Sa,cT];rfl
         ·rw[g];rfl
      | false=>simp only[Rw,iF,zli m (h.sm (by omega)) j b,Rv,cF];rfl
 ·rw[e];rfl
structure smC (c:At):Prop where
 tok:c.U.length<=1048576
 ops:c.R.length<=1048576
 num: -9223372036854775808<=c.N/\c.N<=9223372036854775807
def zra (m:As) (c:At) (h:okM n m) (b:n<=500) (d:smC c):zd3 m c=some ((doM m c).2,(doM m c).1):=by
 unfold zd3 doM;simp only[zY,no_R,Rv];cases g:Dc (c.B=1) with
 | true=>
   have i:(createM m c).1.x=m.x:=by
    unfold createM;cases (!Dc (1<=c.r/\c.r<=99)||(!Dc (0<=c.N/\c.N<=40)||(!Dc (c.q.length=32)||decide (atT m.a c.r>=0)))) with
    | true=>rfl
    | false=>
      cases Dc (4<=m.a.length) with
      | true=>rfl
      | false=>cases (setR m.s c.r c.N).2<;>rfl
   simp only[iT,zso m c h,Rv,cT];rw[<-i]
 | false=>
   simp only[Rw,iF,cF];have l:=of_decide_eq_false g;by_cases e:c.B=12
   ·rw[dT e,dF (by omega: ¬(2<=c.B/\c.B<=4)),dF (by omega: ¬c.B=13),dF (by omega: ¬(5<=c.B/\c.B<=11))];simp only[Rw,iF,iT,Rv,zvb m h b,cT];rfl
   ·by_cases f:c.B=14
    ·rw[dF e,dT f,dF (by omega: ¬(2<=c.B/\c.B<=4)),dF (by omega: ¬c.B=13),dF (by omega: ¬(5<=c.B/\c.B<=11))];simp only[Rw,iF,iT,Rv,zuh m c.N h b d.num,cT,cF];rfl
    ·rw[dF e,dF f];have j:((if Dc (2<=c.B/\c.B<=4)=true then (some true) else (some (Dc (c.B=13)))):Option Bool)=some (Dc (2<=c.B/\c.B<=4)||decide (c.B=13)):=by cases Dc (2<=c.B/\c.B<=4)<;>rfl
     rw[j];simp only[Rv,cF];cases Dc (2<=c.B/\c.B<=4)||decide (c.B=13) with
     | true=>simp only[iT,zwh m c h b,Rv,cT]
     | false=>
       simp only[Rw,iF,cF];cases Dc (5<=c.B/\c.B<=11) with
       | true=>
         have k:(callM m c).1.s=m.s:=by
          unfold callM;cases (!(tokR m.E c.U).2.2||(Dc (atT m.a (tokR m.E c.U).1<0)|| !Dc ((getT m.a (atT m.a (tokR m.E c.U).1)).I=(tokR m.E c.U).2.1))) with
          | true=>rfl
          | false=>
            unfold tenM;cases Dc (c.B=5) with
            | true=>exact zt9 _ _ _
            | false=>
            cases Dc (c.B=6) with
            | true=>rfl
            | false=>
            cases Dc (c.B=7) with
            | true=>rfl
            | false=>
            cases Dc (c.B=8) with
            | true=>simp only[cT,cF];rw[zrB]
            | false=>
            cases Dc (c.B=11) with
            | true=>rfl
            | false=>
              simp only[cF];unfold heldM;cases Dc (atS (getT m.a (atT m.a (tokR m.E c.U).1)).u c.N<0) with
              | true=>rfl
              | false=>cases Dc (c.B=10)<;>rfl
         simp only[iT,zu6 m c h b d.tok d.ops,Rv,cT];rw[<-k]
       | false=>rfl
def zuz (m:As) (c:At) (h:okM n m) (g:n<=500) (b:smC c):zkB m c=some (doM m c):=by
 have q:=h.n4;unfold zkB doM;have k:(((zn c.B 1 4).bind λD=>if D=true then (some true) else ((zn c.B 12 14).bind λA=>some A)):Option Bool)=some (Dc (1<=c.B/\c.B<=4)||decide (12<=c.B/\c.B<=14)):=by simp only[zW,Rv];cases Dc (1<=c.B/\c.B<=4)<;>rfl
 rw[k];simp only[zW,Rv,zcZ];by_cases i:(1<=c.B/\c.B<=4)\/(12<=c.B/\c.B<=14)
 ·have d:(Dc (1<=c.B/\c.B<=4)||decide (12<=c.B/\c.B<=14))=true:=by simpa using i
  rw[d];simp only[iT,zuG m c h g b.num,Rv];cases l:Dc (c.B=1) with
  | true=>rfl
  | false=>
  cases o:Dc (c.B=12) with
  | true=>rfl
  | false=>
  cases p:Dc (c.B=14) with
  | true=>rfl
  | false=>
    have s:=of_decide_eq_false l;have t:=of_decide_eq_false o;have u:=of_decide_eq_false p;have:(Dc (2<=c.B/\c.B<=4)||decide (c.B=13))=true:=by rw[Bool.or_eq_true,decide_eq_true_eq,decide_eq_true_eq];omega
    rw[this];rfl
 ·have d:(Dc (1<=c.B/\c.B<=4)||decide (12<=c.B/\c.B<=14))=false:=by simpa using i
  rw[d,dF (by omega: ¬c.B=1),dF (by omega: ¬c.B=12),dF (by omega: ¬c.B=14),dF (by omega: ¬(2<=c.B/\c.B<=4)),dF (by omega: ¬c.B=13)];simp only[Rw,iF,Wp,cF];cases Dc (5<=c.B/\c.B<=11) with
  | false=>rfl
  | true=>
    rw[zka m.E c.U (by have:=b.tok;omega)];simp only[Si,Rw,iF,Rv,zkL _ _ (show m.a.length<=1048576 by omega),cT];rcases zbi m.a (tokR m.E c.U).1 with ⟨j,f,e,_,_⟩ | ⟨e,_⟩
    ·rw[zlu m c j f e,e,dF (by omega: ¬(j:Int)<0)];simp only[zb m.a j f,Rv];cases (tokR m.E c.U).2.2 with
     | false=>rfl
     | true=>
       cases Dc (m.a[j].I=(tokR m.E c.U).2.1) with
       | false=>rfl
       | true=>simp only[Si,Rw,iF,Rv,zs1 m c h g b.ops j f,Wp,cF]
    ·rw[zkh m c e,e];cases (tokR m.E c.U).2.2<;>rfl
def okT.up {t:Am} (h:okT n t) (d:n<=k):okT k t:=
 ⟨h.srt,h.kv,by have:=h.len;omega,by have:=h.seq;omega,h.ep,h.sn,λs hs=>by obtain ⟨a,b,c⟩:=h.each s hs;exact ⟨a,by omega,c⟩⟩
def okM.up {n k:Nat} {m:As} (h:okM n m) (f:n<=k):okM k m:=
 ⟨h.sh,h.ids,h.base,λt e=>(h.tens t e).up f,λt e=>by obtain ⟨a,b,c,d⟩:=h.bases t e;exact ⟨a.up f,b,by omega,by omega⟩,by have:=h.rows;omega,h.ops⟩
theorem zo3 {s:Ad} (t:Int) (a:sharesV s=true):sharesV {s with t:=dropT s.t t} =true:=by
 obtain ⟨b,g,c,d,e⟩:=(zfI s).1 a;have hs:=zpU (λx=>!Dc (x.r=t)) s.t;have hl:(dropT s.t t).length<=s.t.length:=Tk _ _;rw[zfI];refine ⟨b,by grind,λx f=>c x (Sp.1 f).1,d.filter _,?_⟩;unfold allNeed at e |-
 simp only;unfold dropT at hl |-
 omega
def zm7 {s:Ad} (t:Int) (a:sharesV s=true):(shareDropR s t).1= {s with t:=dropT s.t t}:=by
 unfold shareDropR;rw[iP a];split
 ·rename_i h;have:dropT s.t t=s.t:=Tq.2 (List.length_filter_eq_length_iff.1 h);simp_all
 ·rfl
def zc5 {α β:Type} (f:α->β) (p:α->Bool) (q:β->Bool) (h: ∀x,p x=q (f x)): ∀l:List α,(l.filter p).map f=(l.map f).filter q
 | []=>rfl
 | x::l=>by
   rw[Uc,Uf,Uc,<-h x];cases p x with
   | true=>simp only[iT,Uf,zc5 f p q h l]
   | false=>simp only[Rw,iF,zc5 f p q h l]
def zoV (id:Int) (l:List Am):(noTen id l).map Am.j=(l.map Am.j).filter λx=>!Dc (x=id):=zc5 Am.j (λx=>!Dc (x.j=id)) (λx=>!Dc (x=id)) (λ_=>rfl) l
def ztc (id:Int) (l:List A9):(dropT l id).map A9.r=(l.map A9.r).filter λx=>!Dc (x=id):=zc5 A9.r (λx=>!Dc (x.r=id)) (λx=>!Dc (x=id)) (λ_=>rfl) l
def ztD {id:Int} {k l:List A7} (h:k.Sublist l):ofRow id k<=ofRow id l:=(h.filter _).length_le
def zvr (id:Int) (l:List A7):ofRow id (noRow id l)=0:=by unfold ofRow noRow;rw[Wm,List.length_eq_zero_iff,Uj];intro x _;simp
def ztC (id:Int) (l:List A7):ofRow id l<=l.length:=Tk _ _
def zy3 (id:Int) (l k:List A7):ofRow id (l++k)=ofRow id l+ofRow id k:=by unfold ofRow;rw[Ui,Sy]
def zty (id:Int) (l:List A7):(noRow id l).Sublist l:=List.filter_sublist
def set_ids {l:List Am} (a:j<l.length) (t:Am) (h:t.j=l[j].j):(l.set j t).map Am.j=l.map Am.j:=by
 rw[Xg];refine Ur (by simp) λi b c=>?_;rw[Wu];split
 ·rename_i e;subst e;simp[h]
 ·rfl
theorem set_all {P:α->Prop} {l:List α} {t:α} (h: ∀x∈l,P x) (a:P t): ∀x∈l.set j t,P x:=by grind
def zy6 {R:List A9} {id:Int} (h:ts.map Am.j=(L++R).map A9.r) (A: ∀y∈L,y.r<id) (B: ∀y∈R,id<y.r):placeT ts id=L.length:=by
 obtain ⟨f,t2,d⟩:=zoX ts id;have g:ts.length=L.length+R.length:=by have:=congrArg Tl h;simpa using this
 have c: ∀i (hi:i<ts.length),ts[i].j=((L++R)[i]'(by simp;omega)).r:=by intro i hi;have:=zwZ h i hi (by simp;omega);simpa only[Ve] using this
 rcases Uw (placeT ts id) L.length with hl | e | hl
 ·have a:placeT ts id<ts.length:=by omega
  have b:=d a;rw[c _ a,Vu hl]at b;have:=A _ (Rx hl);omega
 ·exact e
 ·have a:L.length<ts.length:=by omega
  have b:=t2 L.length a hl;rw[c _ a,Vo (Tc _)]at b;have:=B _ (Rx (show L.length - L.length<R.length by omega));omega
def zve {R:List A9} {t:Am} (q:Int) (h:ts.map Am.j=(L++R).map A9.r) (A: ∀y∈L,y.r<t.j) (B: ∀y∈R,t.j<y.r):
    (insT ts t).map Am.j=(L++(⟨t.j,q⟩::R)).map A9.r:=by unfold insT;rw[zy6 h A B,Tt,Uf,Uz,Vd,h,Tt,List.take_left' (by simp),List.drop_left' (by simp)];simp
def zvg {t x:Am} (h:x∈insT ts t):x=t\/x∈ts:=by
 unfold insT at h;rcases Sx.1 h with h | h
 ·exact .inr (Ug h)
 ·rcases Tn.1 h with h | h
  ·exact .inl h
  ·exact .inr (Wh h)
theorem zjG (s:Ad) (t q:Int) (a:sharesV s=true) (g:(setR s t q).2=true): ∃L M R:List A9,s.t=L++(M++R)/\(∀y∈L,y.r<t)/\(∀y∈R,t<y.r)/\(M= []\/∃m:A9,M= [m]/\m.r=t)/\
 sharesV (setR s t q).1=true/\(setR s t q).1.t=L++(⟨t,q⟩::R)/\(setR s t q).1.K=s.K:=by have h:=zjd a;obtain ⟨L,M,R,b,c,d,e,f⟩:=zua s t q a (by omega);refine ⟨L,M,R,b,c,d,e,?_⟩;rw[zeg s t q (by omega)]at f;grind
def ztw (n:Nat) (id:Int):okT n (newTen id):=
 ⟨List.Pairwise.nil,λx a=>(by cases a),Sm _,⟨by simp[newTen],by simp only[newTen];omega⟩,⟨by simp[newTen],by simp[newTen]⟩,Sm _,λs hs=>by cases hs⟩
def zxq (h:okM n m) (c:At):okM n (createM m c).1:=by
 unfold createM;cases i:(!Dc (1<=c.r/\c.r<=99)||(!Dc (0<=c.N/\c.N<=40)||(!Dc (c.q.length=32)||decide (atT m.a c.r>=0)))) with
 | true=>exact h
 | false=>
   cases Dc (4<=m.a.length) with
   | true=>exact h
   | false=>
     cases v:(setR m.s c.r c.N).2 with
     | false=>exact h
     | true=>
       simp only[cT,cF];obtain ⟨L,M,R,f,k,l,d,w,o,D⟩:=zjG m.s c.r c.N h.sh v;have E: ¬atT m.a c.r>=0:=by simp only[Uo]at i;exact of_decide_eq_false i.2.2.2
       have z: ∀x∈m.a,¬x.j=c.r:=by
        rcases zbi m.a c.r with ⟨j,_,e,_,_⟩ | ⟨_,g⟩
        ·omega
        ·exact g
       have G:M= []:=by
        rcases d with d | ⟨y,d,p⟩
        ·exact d
        ·exfalso;have A:y.r∈m.a.map Am.j:=by rw[h.ids,f,d];exact Ua (by simp)
         obtain ⟨x,B,C⟩:=Uu.1 A;exact z x B (C.trans p)
       subst G;rw[Ta]at f;have u:(insT m.a (newTen c.r)).map Am.j=(setR m.s c.r c.N).1.t.map A9.r:=by rw[o];exact zve c.N (by rw[h.ids,f]) k l
       refine ⟨w,u,?_,λt b=>?_,λt b=>?_,h.rows,h.ops⟩
       ·rw[u,o];exact zve c.N (by rw[h.base,h.ids,f]) k l
       ·rcases zvg b with rfl | b
        ·exact ztw n _
        ·exact h.tens t b
       ·rcases zvg b with rfl | b
        ·have p:=ztC c.r m.x;have F:=h.rows;exact ⟨ztw n _,rfl,by simp only[newTen,Ss];omega,by simp only[newTen];omega⟩
        ·exact h.bases t b
def zzd (h:okM n m) (c:At) (f: ∃x∈m.a,x.j=c.r):okM n (quotaM m c).1:=by
 unfold quotaM;cases Dc (0<=c.N/\c.N<=40) with
 | false=>exact h
 | true=>
   cases g:(setR m.s c.r c.N).2 with
   | false=>exact h
   | true=>
     simp only[cT];obtain ⟨L,M,R,d,i,k,l,o,p,u⟩:=zjG m.s c.r c.N h.sh g;refine ⟨o,?_,h.base,h.tens,h.bases,h.rows,h.ops⟩;simp only;rw[h.ids,p,d];rcases l with rfl | ⟨y,rfl,q⟩
     ·exfalso;obtain ⟨x,t,v⟩:=f;have e:x.j∈m.a.map Am.j:=Ua t;rw[h.ids,d,Ta]at e;obtain ⟨y,b,w⟩:=Uu.1 e;rcases Sx.1 b with b | b
      ·have:=i y b;omega
      ·have:=k y b;omega
     ·simp[q]
def zxT (h:okM n m) (id:Int):okM n (removeM m id):=by
 unfold removeM;rw[zm7 id h.sh];refine ⟨zo3 id h.sh,?_,?_,λt e=>h.tens t (Sp.1 e).1,λt e=>?_,?_,λr f=>h.ops r (Sp.1 f).1⟩
 ·simp only;rw[zoV,ztc,h.ids]
 ·rw[zoV,zoV,h.base]
 ·obtain ⟨a,b,c,d⟩:=h.bases t (Sp.1 e).1;have:=ztD (id:=t.j) (zty id m.x);exact ⟨a,b,by simp only;omega,by simp only;omega⟩
 ·have:=zoU id m.x;have:=h.rows;simp only;omega
def zxZ (h:okM n m) (id:Int) (j:Nat) (f:j<m.a.length) (o:atT m.a id=(j:Int)):okM n (rotateM m id).1:=by
 rw[zjr m id j f o];by_cases i:m.a[j].I>=1000000
 ·rw[dT i];exact h
 ·rw[dF i,zdn m.a j f];simp only[cF];have A:=h.tens _ (Rx f);have p:=A.ep;have l:(∀t∈(bif Dc (atT m.F id>=0) then upEpoch m.F (atT m.F id) (m.a[j].I+1) else m.F),okT n t/\t.u= []/\t.M.length+6*ofRow t.j m.x<=6*n/\t.c+(ofRow t.j m.x:Int)<=n)/\(bif Dc (atT m.F id>=0) then upEpoch m.F (atT m.F id) (m.a[j].I+1) else m.F).map Am.j=m.F.map Am.j:=by
   rcases zbi m.F id with ⟨k,g,e,_,_⟩ | ⟨e,_⟩
   ·rw[e,dT (by omega:(k:Int)>=0),cond_true,zdn m.F k g];obtain ⟨a,b,c,d⟩:=h.bases _ (Rx g);refine ⟨set_all h.bases ⟨⟨a.srt,a.kv,a.len,a.seq,by simp only;omega,a.sn,a.each⟩,b,c,d⟩,set_ids g _ rfl⟩
   ·rw[e];exact ⟨h.bases,rfl⟩
  refine ⟨h.sh,?_,?_,set_all h.tens ⟨A.srt,A.kv,A.len,A.seq,by simp only;omega,A.sn,A.each⟩,l.1,h.rows,h.ops⟩
  ·simp only;rw[set_ids f,h.ids];rfl
  ·simp only;rw[l.2,h.base,set_ids f];rfl
def zti (h:okM n m) (j:Nat) (f:j<m.a.length):okM n (flushM m (j:Int)):=by
 have A:=h.tens _ (Rx f);unfold flushM;rw[zcs _ j f];have o:=zty m.a[j].j m.x;have g: ∀t∈m.F,okT n t/\t.u= []/\t.M.length+6*ofRow t.j (noRow m.a[j].j m.x)<=6*n/\t.c+(ofRow t.j (noRow m.a[j].j m.x):Int)<=n:=by intro t p;obtain ⟨a,b,c,d⟩:=h.bases t p;have:=ztD (id:=t.j) o;exact ⟨a,b,by omega,by omega⟩
 have i:(noRow m.a[j].j m.x).length<=n:=Ue (zoU _ _) h.rows;have l: ∀r∈noRow m.a[j].j m.x,batchV r.R=true:=λr q=>h.ops r (Sp.1 q).1;rcases zbi m.F m.a[j].j with ⟨k,v,e,w,_⟩ | ⟨e,_⟩
 ·rw[e,dT (by omega:(k:Int)>=0),cond_true,Sa];have hl:=A.len;have y:=A.seq;refine ⟨h.sh,h.ids,by simp only;rw[set_ids v,h.base];exact w.symm,h.tens,set_all g ⟨⟨A.srt,A.kv,A.len,A.seq,A.ep,Sm _,λs hs=>by cases hs⟩,rfl,?_,?_⟩,i,l⟩
  ·simp only[zvr];omega
  ·simp only[zvr];omega
 ·rw[e];exact ⟨h.sh,h.ids,h.base,h.tens,g,i,l⟩
def zA6 (h:okM n m) (c:At):okM n (ownM m c).1:=by
 unfold ownM;rcases zbi m.a c.r with ⟨j,b,e,d,_⟩ | ⟨e,_⟩
 ·rw[e,dF (by omega: ¬(j:Int)<0),cond_false];cases Dc (c.B=2) with
  | true=>exact zzd h c ⟨_,Rx b,d⟩
  | false=>
  cases Dc (c.B=3) with
  | true=>exact zxT h _
  | false=>
  cases Dc (c.B=4) with
  | true=>exact zxZ h _ j b e
  | false=>exact zti h j b
 ·rw[e];exact h
def zAz (h:okM n m):okM n (syncM m):=by
 have e: ∀id,ofRow id (m.x.map λr=>(⟨r.r,r.R,true⟩:A7))=ofRow id m.x:=by intro id;unfold ofRow;rw[Wy,Uk];rfl
 refine ⟨h.sh,h.ids,h.base,h.tens,λt f=>?_,by have:=h.rows;unfold syncM;simp only[Uk];omega,λr g=>?_⟩
 ·obtain ⟨a,b,c,d⟩:=h.bases t f;unfold syncM;simp only[e];exact ⟨a,b,c,d⟩
 ·obtain ⟨s,hs,rfl⟩:=Uu.1 g;exact h.ops s hs
def ziu (id:Int): ∀(l:List A7) (n:Int),ofRow id (keepR n l)<=ofRow id l
 | [],_=>Tc _
 | r::l,n=>by
   have a: ∀(x:A7) (k:List A7),x.r=r.r->ofRow id (x::k)=ofRow id k+(if r.r=id then 1 else 0):=by intro x k c;unfold ofRow;rw[Uc,c];by_cases h:r.r=id<;>simp[h]
   have b:=a r l rfl;unfold keepR;cases r.W with
   | true=>simp only[cT];rw[a (⟨r.r,r.R,true⟩:A7) _ rfl,b];have:=ziu id l n;omega
   | false=>
     cases Dc (n<1) with
     | true=>simp only[cT,cF];have:=ziu id l n;omega
     | false=>simp only[cF];rw[a (⟨r.r,r.R,true⟩:A7) _ rfl,b];have:=ziu id l (n - 1);omega
def okP (n:Nat) (h:List A7) (t:Am):Prop:=okT n t/\t.u= []/\t.M.length+6*ofRow t.j h<=6*n/\t.c+(ofRow t.j h:Int)<=n
def zzb (n:Nat): ∀(A:List A7) (ts:List Am),(∀t∈ts,okP n A t)->(∀r∈A,batchV r.R=true)->∀t∈A.foldl playT ts,okP n [] t:=by
 intro A;induction A with
 | nil=>intro ts h _ t f;exact h t f
 | cons r A ih=>
   intro ts h g;refine ih (playT ts r) ?_ (λx m=>g x (by simp[m]));have i: ∀id,ofRow id (r::A)=ofRow id A+(if r.r=id then 1 else 0):=by intro id;unfold ofRow;rw[Uc];by_cases h:r.r=id<;>simp[h]
   have k: ∀t∈ts,okP n A t:=by intro t f;obtain ⟨a,b,c,d⟩:=h t f;rw[i]at c d;exact ⟨a,b,by omega,by omega⟩
   rcases zbi ts r.r with ⟨j,l,e,o,_⟩ | ⟨e,_⟩
   ·rw[zhY ts r j l e];refine set_all k ?_;obtain ⟨a,b,c,d⟩:=h _ (Rx l);rw[i,iP o.symm]at c d;have hl:=zdd r.R ts[j].M;have p:=ze9 (g r (by simp));have q:=a.seq;exact ⟨⟨zdZ _ a.srt,zf5 a.kv (g r (by simp)),by simp only;omega,by simp only;omega,a.ep,a.sn,a.each⟩,b,by simp only;omega,by simp only;omega⟩
   ·rw[zgK ts r e];exact k
def zyp (h:okM n m) (c:Int):okM n (crashM m c):=by
 have g: ∀t∈m.F,okP n (keepR c m.x) t:=by intro t f;obtain ⟨a,b,d,e⟩:=h.bases t f;have:=ziu t.j m.x c;exact ⟨a,b,by omega,by omega⟩
 have i: ∀r∈keepR c m.x,batchV r.R=true:=by intro r k;obtain ⟨s,hs,rfl⟩:=zno _ _ _ k;exact h.ops s hs
 have l:=zzb n (keepR c m.x) m.F g i;have hi:=ztE (keepR c m.x) m.F;unfold crashM;refine ⟨h.sh,by simp only;rw[hi,h.base,h.ids],by simp only;rw[hi],λt f=>(l t f).1,g,?_,i⟩;have:=zhU m.x c;have:=h.rows;simp only;omega
def zzp (h:okM n m) (j:Nat) (b:j<m.a.length) (t:Am) (c:t.j=m.a[j].j) (d:okT n t):okM n ⟨m.E,m.s,m.a.set j t,m.F,m.x⟩:=
 ⟨h.sh,by simp only;rw[set_ids b _ c,h.ids],by simp only;rw[set_ids b _ c,h.base],set_all h.tens d,h.bases,h.rows,h.ops⟩
def zzH (h:okM n m) (j:Nat) (f:j<m.a.length) (ops:List Op):okM (n+1) (writeM m (j:Int) ops).1:=by
 rw[zkK m j f];cases i:batchV ops with
 | false=>exact h.up (by omega)
 | true=>
   cases Dc ((bytesN (applyK m.a[j].M ops):Int)>quoV (-1) m.s m.a[j].j) with
   | true=>exact h.up (by omega)
   | false=>
     simp only[cT,cF];have g:okM n (bif Dc (6<=ofRow m.a[j].j m.x) then flushM m (j:Int) else m):=by
      cases Dc (6<=ofRow m.a[j].j m.x) with
      | true=>exact zti h j f
      | false=>exact h
     have l:(bif Dc (6<=ofRow m.a[j].j m.x) then flushM m (j:Int) else m).a=m.a:=by cases Dc (6<=ofRow m.a[j].j m.x)<;>rfl
     generalize (bif Dc (6<=ofRow m.a[j].j m.x) then flushM m (j:Int) else m)=o at g l;have A:=h.tens _ (Rx f);have hl:=zdd ops m.a[j].M;have q:=ze9 i;have v:=A.len;have w:=A.seq;have p:okT (n+1) ⟨m.a[j].j,m.a[j].I,m.a[j].c+1,applyK m.a[j].M ops,m.a[j].u⟩:=
      ⟨zdZ _ A.srt,zf5 A.kv i,by simp only;omega,by simp only;omega,A.ep,A.sn,(A.up (Us n)).each⟩
     refine ⟨h.sh,by simp only;rw[set_ids f,h.ids];rfl,by simp only;rw[g.base,l,set_ids f];rfl,set_all (λt k=>(h.tens t k).up (Us n)) p,λt k=>?_,?_,λr e=>?_⟩
     ·obtain ⟨a,b,c,d⟩:=g.bases t k;have y:ofRow t.j (o.x++ [(⟨m.a[j].j,ops,false⟩:A7)])<=ofRow t.j o.x+1:=by rw[zy3];have:=ztC t.j [(⟨m.a[j].j,ops,false⟩:A7)];simp only[Ry]at this;omega
      exact ⟨a.up (Us n),b,by simp only;omega,by simp only;omega⟩
     ·have:=g.rows;simp only[Sy,Ry];omega
     ·rcases Sx.1 e with e | e
      ·exact g.ops r e
      ·rw[Vi]at e;subst e;exact i
def zpg (h:okM n m) (j:Nat) (b:j<m.a.length) (l:List Bf) (hl:l.length<=2) (c: ∀s∈l,srtK s.M/\s.M.length<=6*n/\∀x∈s.M,kvV x=true):okM n (withSnaps m (j:Int) l):=by rw[zdY m j b];have A:=h.tens _ (Rx b);exact zzp h j b _ rfl ⟨A.srt,A.kv,A.len,A.seq,A.ep,hl,c⟩
def zBh (h:okM n m) (j:Nat) (b:j<m.a.length) (c:At):okM (n+1) (tenM m (j:Int) c).1:=by
 have d:=h.up (Us n);have A:=h.tens _ (Rx b);rw[zqO m j b];cases Dc (c.B=5) with
 | true=>exact zzH h j b _
 | false=>
 cases Dc (c.B=6) with
 | true=>exact d
 | false=>
 cases Dc (c.B=7) with
 | true=>exact d
 | false=>
 cases Dc (c.B=8) with
 | true=>
   simp only[cT,cF];rw[zlU m j b];cases lastIs m.a[j].u m.a[j].c with
   | true=>exact d
   | false=>
     by_cases e:2<=m.a[j].u.length
     ·rw[dT e];exact d
     ·rw[dF e];refine (zpg h j b _ (by simp;omega) λs hs=>?_).up (Us n);rcases Sx.1 hs with hs | hs
      ·exact A.each s hs
      ·rw[Vi]at hs;subst hs;exact ⟨A.srt,A.len,A.kv⟩
 | false=>
 cases Dc (c.B=11) with
 | true=>exact d
 | false=>
   simp only[cF];rw[zlA m j b];cases Dc (atS m.a[j].u c.N<0) with
   | true=>exact d
   | false=>
     cases Dc (c.B=10) with
     | true=>exact d
     | false=>
       have f:=A.sn;refine (zpg h j b _ ?_ λs hs=>?_).up (Us n)
       ·simp only[Sy,Tg,Sw];omega
       ·rcases Sx.1 hs with hs | hs
        ·exact A.each s (Ug hs)
        ·exact A.each s (Wh hs)
def zyw (h:okM n m) (c:At):okM (n+1) (doM m c).1:=by
 have b:=λ{x:As} (h:okM n x)=>h.up (Us n);unfold doM;cases Dc (c.B=1) with
 | true=>exact b (zxq h c)
 | false=>
 cases Dc (c.B=12) with
 | true=>exact b (zAz h)
 | false=>
 cases Dc (c.B=14) with
 | true=>exact b (zyp h _)
 | false=>
 cases Dc (2<=c.B/\c.B<=4)||decide (c.B=13) with
 | true=>exact b (zA6 h c)
 | false=>
 cases Dc (5<=c.B/\c.B<=11) with
 | false=>exact b h
 | true=>
   simp only[cT,cF];rcases zbi m.a (tokR m.E c.U).1 with ⟨j,d,e,_,_⟩ | ⟨e,_⟩
   ·rw[zlu m c j d e];cases (!(tokR m.E c.U).2.2|| !Dc (m.a[j].I=(tokR m.E c.U).2.1)) with
    | true=>exact b h
    | false=>exact zBh h j d c
   ·rw[zkh m c e];exact b h
def runM:As->List At->List A6
 | _,[]=>[]
 | m,c::l=>(doM m c).2::runM (doM m c).1 l
def newM (secret:J3) (size:Int):As:=⟨secret,⟨size,[]⟩,[],[],[]⟩
def newOk (secret:J3) (size:Int):Bool:=Dc (secret.length=32)&&Dc (0<=size/\size<=1000)
def playM (secret:J3) (size:Int) (l:List At):List A6:=bif newOk secret size&&Dc (l.length<=120) then runM (newM secret size) l else []
def zw0 (secret:J3) (size:Int) (h:newOk secret size=true):okM 0 (newM secret size):=by unfold newOk at h;rw[Sg]at h;have b:=of_decide_eq_true h.2;refine ⟨?_,rfl,rfl,λt a=>(by cases a),λt a=>(by cases a),Tc _,λr c=>(by cases c)⟩;rw[zfI];exact ⟨b,by simp[newM],λx d=>(by cases d),List.Pairwise.nil,by simp[allNeed,newM];omega⟩
def zrn (secret:J3) (size:Int):zhl secret size=some (bif newOk secret size then (newM secret size,true) else (newM [] 0,false))/\zht secret size=some (bif newOk secret size then (newM secret size,true) else (newM [] 0,false)):=by
 unfold zhl zht newOk;simp only[zY,zW,len32,Rv];cases Dc (secret.length=32) with
 | false=>exact ⟨rfl,rfl⟩
 | true=>cases Dc (0<=size/\size<=1000)<;>exact ⟨rfl,rfl⟩
def zxc (l:List At) (m:As) (k:Nat) (a:k<l.length):runM m (l.drop k)=(doM m l[k]).2::runM (doM m l[k]).1 (l.drop (k+1)):=by rw[Sd a,runM]
def zpy (secret:J3) (size:Int) (l:List At) (hl:l.length<=1048576) (h: ∀c∈l,smC c):zgz secret size l=some (playM secret size l):=by
 unfold zgz playM;rw[(zrn secret size).1,Rv];cases i:newOk secret size with
 | false=>rfl
 | true=>
   simp only[cT,Si,Rw,iF,Rv,Vp];by_cases f:l.length<=120
   ·rw[dF (by omega: ¬(l.length:Int)>120),dT f];simp only[Rw,iF,cT];refine zt (λk (S:J3 × Int × Int × List A9 × List Am × List Am × List A7 × List A6)=>∃m A,S=(m.E,m.s.K,(k:Int),m.s.t,m.a,m.F,m.x,A)/\okM k m/\A.length=k/\A++runM m (l.drop k)=runM (newM secret size) l) l.length
     (λr=>r= .go (runM (newM secret size) l)) ⟨newM secret size,[],rfl,zw0 _ _ i,rfl,by simp⟩ ?_ ?_ (λr j=>by rw[j];rfl)
    ·rintro k _ d ⟨m,A,rfl,e,g,b⟩;left;rw[zxc l m k d]at b;have o:=zra m l[k] e (by omega) (h _ (Rx d));have B:(⟨m.E,⟨m.s.K,m.s.t⟩,m.a,m.F,m.x⟩:As)=m:=rfl;refine ⟨_,?_,(doM m l[k]).1,A++ [(doM m l[k]).2],rfl,zyw e _,by simp[g],by simpa using b⟩;simp only[zb l k d,Rv,B,o];rw[iP (by simpa using d),ze (by simp only[Ry];omega) (by simp only[Ry];omega),za (n:=(k:Int)+1)];rfl
    ·rintro _ ⟨m,A,rfl,e,g,b⟩;refine ⟨.go (runM (newM secret size) l),?_,rfl⟩;rw[Ub,runM,Td]at b;simp[b]
   ·rw[dT (by omega:(l.length:Int)>120),dF f];rfl
def zpI (secret:J3) (size:Int) (l:List At) (hl:l.length<=1048576) (h: ∀c∈l,smC c):zgP secret size l=some (playM secret size l):=by
 unfold zgP playM;rw[(zrn secret size).2,Rv];cases i:newOk secret size with
 | false=>rfl
 | true=>
   simp only[cT,Si,Rw,iF,Rv,Vp];by_cases f:l.length<=120
   ·rw[dF (by omega: ¬(l.length:Int)>120),dT f];simp only[Rw,iF,cT];refine zt (λk (S:J3 × Int × Int × List A6 × List A9 × List Am × List Am × List A7)=>∃m A,S=(m.E,m.s.K,(k:Int),A,m.s.t,m.a,m.F,m.x)/\okM k m/\A.length=k/\A++runM m (l.drop k)=runM (newM secret size) l) l.length
     (λr=>r= .go (runM (newM secret size) l)) ⟨newM secret size,[],rfl,zw0 _ _ i,rfl,by simp⟩ ?_ ?_ (λr j=>by rw[j];rfl)
    ·rintro k _ d ⟨m,A,rfl,e,g,b⟩;left;rw[zxc l m k d]at b;have o:=zuz m l[k] e (by omega) (h _ (Rx d));have B:(⟨m.E,⟨m.s.K,m.s.t⟩,m.a,m.F,m.x⟩:As)=m:=rfl;refine ⟨_,?_,(doM m l[k]).1,A++ [(doM m l[k]).2],rfl,zyw e _,by simp[g],by simpa using b⟩;simp only[zb l k d,Rv,B,o];rw[iP (by simpa using d),ze (by simp only[Ry];omega) (by simp only[Ry];omega),za (n:=(k:Int)+1)];rfl
    ·rintro _ ⟨m,A,rfl,e,g,b⟩;refine ⟨.go (runM (newM secret size) l),?_,rfl⟩;rw[Ub,runM,Td]at b;simp[b]
   ·rw[dT (by omega:(l.length:Int)>120),dF f];rfl
def zA {t:T} (h:Q t):goO Q (some (.go t):Option (Ctl T R)):=⟨t,rfl,h⟩
def zbG {c:Bool} {x y:Option (Ctl T R)} (a:goO Q x) (b:goO Q y):goO Q (if c=true then x else y):=by cases c<;>assumption
def zbC {τ:Type} {m:Option (Ctl τ (Ctl T R))} {k:τ->Option (Ctl T R)} (A:τ->Prop) (h:goO A m) (a: ∀t,A t->goO Q (k t)):goO Q (bindC m k):=zhJ (P:=goO Q) A h a
def inB (b:J3) (i:Int):Prop:=0<=i/\i<=(b.length:Int)
def smN (n:Int):Prop:=-1000<=n/\n<=1000
def drQ5 (b:J3) (t:Int × Int × Int × Int × List Op):Prop:=inB b t.1/\smN t.2.2.2.1/\t.2.2.2.2.length<=1000
def drQ6 (b:J3) (t:Int × Int × Int × Int × J3 × List Op):Prop:=inB b t.1/\smN t.2.2.2.1/\t.2.2.2.2.2.length<=1000
def drQ7 (b:J3) (t:Int × Int × Int × Int × J3 × J3 × List Op):Prop:=inB b t.1/\smN t.2.2.2.1/\t.2.2.2.2.2.2.length<=1000
def litC (c:At):Prop:=c.U.length<=2000/\c.R.length<=1000/\smN c.N
def litC.sm {c:At} (h:litC c):smC c:=⟨by have:=h.1;omega,by have:=h.2.1;omega,by have:=h.2.2;unfold smN at this;omega⟩
def drC (b:J3) (o:Option (At × A8)):Prop:=∃c h a,o=some (c,(⟨b,h,a⟩:A8))/\litC c/\inB b h
def drO (b:J3) (o:Option (List Op × A8)):Prop:=∃l h a,o=some (l,(⟨b,h,a⟩:A8))/\l.length<=1000/\inB b h
def drL (b:J3) (o:Option (List At × A8)):Prop:=∃l h a,o=some (l,(⟨b,h,a⟩:A8))/\l.length<=2000/\(∀c∈l,litC c)/\inB b h
def zoN (x:UInt8):ze4 x=some (Ud 32 x):=by
 refine zt (λk (S:Int × J3)=>S=((k:Int),Ud k x)) 32 (λr=>r= .go (Ud 32 x)) rfl ?_ ?_ (λr a=>by rw[a];rfl)
 ·rintro k _ b rfl;left;refine ⟨_,?_,rfl⟩;rw[iP (by simp only[decide_eq_true_eq];omega),ze (by simp;omega) (by simp;omega),za (n:=(k:Int)+1),List.replicate_succ'];rfl
 ·simp
def zwk (b:J3) (i h:Int) (hi:inB b i) (d:b.length<=1048576):drO b (zhw ⟨b,i,h⟩):=by
 unfold zhw;obtain ⟨v,m,o,w,s⟩:=zcF b i h 8 hi d;simp only[w,Rv];cases v with
 | true=>obtain ⟨l,x,y,g,z,j⟩:=zxF b m o s d;simp only[iT,g,Rv];exact ⟨_,_,_,rfl,by omega,j⟩
 | false=>
   obtain ⟨e,x,y,g,z,j⟩:=zZ b m o 2 s d;simp only[Rw,iF,g,Rv];rw[za (n:=1+e)];refine zbx (R:=List Op × A8) (ρ:=Int × Int × List Op) (drO b) (λk (S:Int × Int × Int × List Op)=>inB b S.1/\S.2.2.1=1+e - (k:Int)/\S.2.2.2.length=k) (1+e).toNat (λr=>∃t:Int × Int × List Op,r= .go t/\inB b t.1/\t.2.2.length<=1000) ⟨j,by simp,rfl⟩ ?_ ?_ ?_
   ·rintro k ⟨p,q,c,l⟩ J ⟨a,f,hl⟩;simp only at a f hl;subst f;left;obtain ⟨K,A,B,C,L,k2⟩:=zgi b p q [[97],[98],[97,98],[99],[100]] (by simp) a d;obtain ⟨D,E,F,G,u⟩:=zcF b A B 4 k2 d;simp only[C,G,Rv];rw[iP (by simp only[decide_eq_true_eq];omega),za (n:=1+e - (k:Int) - 1)];cases D with
    | true=>simp only[iT,zd];rw[ze (by simp only[Ry];omega) (by simp only[Ry];omega)];exact ⟨_,rfl,u,by simp only;omega,by simp[hl]⟩
    | false=>obtain ⟨M,N,O,H,P,I⟩:=zlQ b E F 3 (by omega) u d;simp only[Rw,iF,H,Rv,zd];rw[ze (by simp only[Ry];omega) (by simp only[Ry];omega)];exact ⟨_,rfl,I,by simp only;omega,by simp[hl]⟩
   ·rintro ⟨p,q,c,l⟩ ⟨a,f,hl⟩;simp only at a f hl;exact ⟨.go (p,q,l),by simp only;rw[iN (by simp only[decide_eq_true_eq];omega)],(p,q,l),rfl,a,by simp only;omega⟩
   ·rintro _ ⟨⟨p,q,l⟩,rfl,a,hl⟩;exact ⟨_,_,_,rfl,hl,a⟩
theorem zxM (secret:J3) (t e:Int):(mintV secret t e).length<=100:=by
 unfold mintV;cases mintOk secret t e with
 | false=>exact Sm _
 | true=>have a:=zc9 t;have b:=zc9 e;grind
def zxE (b:J3) (i h:Int) (secret:J3) (hi:inB b i) (e:b.length<=1048576):drC b (ziP ⟨b,i,h⟩ secret):=by
 unfold ziP;obtain ⟨C,F,G,H,g1,I⟩:=zZ b i h 3 hi e;obtain ⟨D,J,K,L,g2,k2⟩:=zeS b F G [0,0,0,0,0,1] (by simp) I e;obtain ⟨x3,m,o,M,g3,f⟩:=zZ b J K 24 k2 e;simp only[H,L,M,zcD,Rv];have N:=zxM secret (J8 (1+C)) D;generalize mintV secret (J8 (1+C)) D=tok at N;have ps: ∀{y:Int} {l:List Int},y∈l->(∀z∈l,-1000<=z/\z<=1000)->smN y:=λO hl=>hl _ O;refine zhJ (P:=drC b) (λ_=>True) ?_ λT16 _=>?_
 ·exact zbG (zA trivial) (zA trivial)
 refine zhJ (P:=drC b) (drQ7 b) ?_ λT19 hT=>?_
 ·refine zbG ?_ ?_
  ·obtain ⟨s,g,j,d,k,c⟩:=zeS b m o [40,40,20,0,41] (by simp) f e;obtain ⟨w,x,A,u,B,v⟩:=zZ b g j 250 c e;simp only[d,u,zoN,Rv];exact zA ⟨v,ps k (by simp),Sm _⟩
  refine zbC (drQ7 b) (zbG ?_ ?_) λt a=>zA a
  ·obtain ⟨s,g,j,d,k,c⟩:=zeS b m o [40,10,30,-1,41] (by simp) f e;simp only[d,Rv];exact zA ⟨c,ps k (by simp),Sm _⟩
  refine zbC (drQ7 b) (zbG ?_ ?_) λt a=>zA a
  ·obtain ⟨s,g,j,d,c⟩:=zcF b m o 2 f e;simp only[d,Rv];exact zbC (λ_=>True) (zbG (zA trivial) (zA trivial)) λt _=>zA ⟨c,by unfold smN;simp,Sm _⟩
  refine zbC (drQ7 b) (zbG ?_ ?_) λt a=>zA a
  ·obtain ⟨s,g,j,d,c⟩:=zcF b m o 4 f e;simp only[d,Rv];exact zbC (λ_=>True) (zbG (zA trivial) (zA trivial)) λt _=>zA ⟨c,by unfold smN;simp,Sm _⟩
  refine zbC (λ_=>True) (zbG (zA trivial) (zbC (λ_=>True) (zbG (zA trivial) (zA trivial)) λt _=>zA trivial)) λT57 _=>?_;refine zbC (drQ7 b) (zbG ?_ ?_) λt a=>zA a
  ·obtain ⟨s,g,j,d,k,c⟩:=zgi b m o [[97],[98],[97,98],[99],[100],[122,122]] (by simp) f e;simp only[d,Rv];exact zA ⟨c,by unfold smN;simp,Sm _⟩
  refine zbC (λ_=>True) (zbG (zA trivial) (zA trivial)) λT70 _=>?_;refine zbC (drQ7 b) (zbG ?_ ?_) λt a=>zA a
  ·obtain ⟨s,g,j,d,k,c⟩:=zgi b m o [[],[97],[98]] (by simp) f e;obtain ⟨w,x,A,u,B,v⟩:=zgi b g j [[],[99],[98]] (by simp) c e;simp only[d,u,Rv];exact zA ⟨v,by unfold smN;simp,Sm _⟩
  refine zbC (drQ6 b) (zbG ?_ ?_) λt a=>zA a
  ·exact zA ⟨f,by unfold smN;simp,Sm _⟩
  refine zbC (drQ6 b) (zbG ?_ ?_) λt a=>zA a
  ·obtain ⟨s,g,j,d,k,c⟩:=zZ b m o 5 f e;simp only[d,Rv];exact zA ⟨c,by unfold smN;simp only;omega,Sm _⟩
  refine zbC (λ_=>True) (zbG (zA trivial) (zA trivial)) λT93 _=>?_;refine zbC (drQ6 b) (zbG ?_ ?_) λt a=>zA a
  ·obtain ⟨s,g,j,d,k,c⟩:=zZ b m o 5 f e;obtain ⟨w,x,A,u,B,v⟩:=zgi b g j [[97],[98],[97,98],[99]] (by simp) c e;simp only[d,u,Rv];exact zA ⟨v,by unfold smN;simp only;omega,Sm _⟩
  refine zbC (drQ5 b) (zbG ?_ ?_) λt a=>zA a
  ·exact zA ⟨f,by unfold smN;simp,Sm _⟩
  refine zbC (drQ5 b) (zbG ?_ ?_) λt a=>zA a
  ·exact zA ⟨f,by unfold smN;simp,Sm _⟩
  refine zbC (drQ5 b) (zbG ?_ ?_) λt a=>zA a
  ·exact zA ⟨f,by unfold smN;simp,Sm _⟩
  refine zbC (drQ5 b) (zbG ?_ ?_) λt a=>zA a
  ·obtain ⟨s,g,j,d,k,c⟩:=zeS b m o [0,0,1,2,9,-1] (by simp) f e;simp only[d,Rv];exact zA ⟨c,ps k (by simp),Sm _⟩
  ·obtain ⟨l,g,j,d,k,c⟩:=zwk b m o f e;simp only[d,Rv];exact zA ⟨c,by unfold smN;simp,k⟩
 ·obtain ⟨p,q,kd,n,key,to,ops⟩:=T19;obtain ⟨Q,R,S⟩:=hT;obtain ⟨s,g,j,d,c⟩:=zcF b p q 30 Q e;simp only[d,Rv];refine zhJ (P:=drC b) (λt:Int × Int × Int=>inB b t.1) (zbG ?_ ?_) λT128 hT=>?_
  ·obtain ⟨w,x,A,u,B,v⟩:=zeS b g j [0,15] (by simp) c e;simp only[u,Rv];exact zA v
  ·exact zA c
  obtain ⟨T,U,kd2⟩:=T128;obtain ⟨x6,V,W,X,E⟩:=zcF b T U 25 hT e;simp only[X,Rv];refine zhJ (P:=drC b) (λt:J3 × Int × Int=>t.1.length<=2000/\inB b t.2.1) (zbG ?_ ?_) λT138 hT2=>?_
  ·obtain ⟨x7,i7,h7,Y,g7,Z⟩:=zxD b V W tok (by omega) E e;simp only[Y,Rv];exact zA ⟨by simp only;omega,Z⟩
  ·exact zA ⟨by simp only;omega,E⟩
  exact ⟨_,_,_,rfl,⟨hT2.1,S,R⟩,hT2.2⟩
theorem zwl (b:J3) (i h:Int) (secret:J3) (most:Int) (I:most<=1000) (hi:inB b i) (e:b.length<=1048576):drL b (zjW ⟨b,i,h⟩ secret most):=by
 have U: ∀k t n key W,smN n->litC ⟨k,[],t,n,key,W,[]⟩:=λk t n key W C=>⟨Sm _,Sm _,C⟩;have m: ∀(l:List At) (c:At),l.length<=10000->app 96 l [c]=some (l++ [c]):=λl c hl=>ze (by simp only[Ry];omega) (by simp only[Ry];omega);have o: ∀{l:List At} {c:At},(∀x∈l,litC x)->litC c->∀x∈l++ [c],litC x:=by grind
 refine zbx (R:=List At × A8) (ρ:=Int × Int × List At) (drL b) (λk (S:Int × Int × Int × List At)=>inB b S.1/\S.2.2.1=1+(k:Int)/\S.2.2.2.length<=k/\∀c∈S.2.2.2,litC c) 2 (λr=>∃t:Int × Int × List At,r= .go t/\inB b t.1/\t.2.2.length<=2/\∀c∈t.2.2,litC c) ⟨hi,by simp,Sm _,λc d=>by cases d⟩ ?_ ?_ ?_
 ·rintro k ⟨p,q,c,l⟩ w ⟨a,d,hl,O⟩;simp only at a d hl O;subst d;left;obtain ⟨y,s,f,g,k2⟩:=zcF b p q 8 a e;simp only[g,Rv];rw[iP (by simp only[decide_eq_true_eq];omega),za (n:=1+(k:Int)+1)];cases y with
  | true=>exact ⟨_,rfl,k2,by simp only;omega,by simp only;omega,O⟩
  | false=>simp only[Te,iT,zoN,Rv,m l _ (show l.length<=10000 by omega),zd];exact ⟨_,rfl,k2,by simp only;omega,by simp;omega,o O (U _ _ _ _ _ (by unfold smN;omega))⟩
 ·rintro ⟨p,q,c,l⟩ ⟨a,d,hl,O⟩;subst d;exact ⟨.go (p,q,l),by simp only;rw[iN (by simp only[decide_eq_true_eq];omega)],(p,q,l),rfl,a,hl,O⟩
 rintro _ ⟨⟨p,q,l⟩,rfl,a,hl,O⟩;obtain ⟨j,J,z,D,A,E⟩:=zZ b p q most a e;simp only[zd,D,Rv];have K:j<=1000:=by
  rcases Int.lt_or_le 0 most with u | u
  ·have:=A.2.1 u;omega
  ·have:=A.2.2 u;omega
 refine zbx (R:=List At × A8) (ρ:=Int × Int × List At) (drL b) (λk (S:Int × Int × Int × List At)=>inB b S.1/\S.2.2.1=j - (k:Int)/\S.2.2.2.length<=2+k/\∀c∈S.2.2.2,litC c) j.toNat (λr=>∃t:Int × Int × List At,r= .go t/\inB b t.1/\t.2.2.length<=1500/\∀c∈t.2.2,litC c) ⟨E,by simp,by simp only;omega,O⟩ ?_ ?_ ?_
 ·rintro k ⟨p,q,c,l⟩ w ⟨a,d,hl,O⟩;simp only at a d hl O;subst d;left;obtain ⟨Z,s,f,g,F,k2⟩:=zxE b p q secret a e;simp only[g,Rv,m l _ (show l.length<=10000 by omega)];rw[iP (by simp only[decide_eq_true_eq];omega),za (n:=j - (k:Int) - 1)];exact ⟨_,rfl,k2,by simp only;omega,by simp;omega,o O F⟩
 ·rintro ⟨p,q,c,l⟩ ⟨a,d,hl,O⟩;simp only at a d hl O;exact ⟨.go (p,q,l),by simp only;rw[iN (by simp only[decide_eq_true_eq];omega)],(p,q,l),rfl,a,by simp only;omega,O⟩
 rintro _ ⟨⟨p,q,l⟩,rfl,a,hl,O⟩;simp only at a hl O;obtain ⟨y,s,f,g,k2⟩:=zcF b p q 60 a e;simp only[zd,g,Rv];refine zhJ (P:=drL b) (λt:Int × Int × List At=>inB b t.1/\t.2.2.length<=2000/\∀c∈t.2.2,litC c) (zbG ?_ ?_) λt v=>⟨_,_,_,rfl,v.2.1,v.2.2,v.1⟩
 ·obtain ⟨B,L,M,G,N,H⟩:=zZ b s f 2 k2 e;simp only[G,Rv];rw[za (n:=120+B)];refine zbx (ρ:=List At) (goO λt:Int × Int × List At=>inB b t.1/\t.2.2.length<=2000/\∀c∈t.2.2,litC c) (λk (S:List At)=>S.length=l.length+k/\∀c∈S,litC c) (120+B - (l.length:Int)).toNat (λr=>∃t:List At,r= .go t/\t.length<=2000/\∀c∈t,litC c) ⟨rfl,O⟩ ?_ ?_ ?_
  ·rintro k S w ⟨hs,V⟩;left;simp only[m S _ (show S.length<=10000 by omega),Rv];rw[iP (by simp only[decide_eq_true_eq];omega)];exact ⟨_,rfl,by simp;omega,o V (U _ _ _ _ _ (by unfold smN;omega))⟩
  ·rintro S ⟨hs,V⟩;exact ⟨.go S,by rw[iN (by simp only[decide_eq_true_eq];omega)],S,rfl,by omega,V⟩
  ·rintro _ ⟨t,rfl,z,f⟩;exact zA ⟨H,z,f⟩
 ·exact zA ⟨k2,by simp only;omega,O⟩
theorem zsG (a b:List A6) (g:a.length<=1048576) (d: ∀r∈a,r.t.length<=1048576):zcc a b=some (Dc (a=b)):=by
 unfold zcc;have:=zyB a b (λx y=>some (Dc (x=y))) (λx y _ _=>rfl) (by omega);rw[<-this];refine congrArg (λo=>if !Dc ((a.length:Int)=(b.length:Int)) then some false else bindC (loopO o 0) (λ_=>some true)) ?_;funext S2;by_cases c:Dc (S2<(a.length:Int))=true
 ·rw[iP c,iP c];cases e:idx a S2 with
  | none=>rfl
  | some x=>
    cases h:idx b S2 with
    | none=>rfl
    | some y=>
      have f:x∈a:=by obtain ⟨i,j,k⟩:=zbT e;grind
      simp only[Rv,zx3 x.t y.t (d x f)];obtain ⟨l,m,n,p⟩:=x;obtain ⟨q,y2,s,u⟩:=y;grind
 ·grind
def keyP (l:List Bb) (k:Nat):Bool:=match l[k]? with
 | some x=>decide (1<=x.r/\x.r<=99)&&(Dc (x.q.length=32)&&(match k with | 0=>true | j+1=>match l[j]? with | some d=>decide (d.r<x.r) | none=>true))
 | none=>true
theorem zpm (l:List Bb) (k:Nat) (h:k<l.length):keyP l k=(Dc (1<=l[k].r/\l[k].r<=99)&&(Dc (l[k].q.length=32)&&(if a:0<k then Dc ((l[k - 1]'(by omega)).r<l[k].r) else true))):=by unfold keyP;grind
def keysC (d:Ba):Bool:=Dc (d.S.length=32)&&(Dc (d.J.length<=4)&&(Dc (0<=d.L/\d.L<=1000000)&&(Ul d.J.length).all (keyP d.J)))
theorem zr6 (d:Ba):zbq d=some (keysC d):=by
 unfold zbq keysC;simp only[zW,Rv,len32];cases Dc (d.S.length=32) with
 | false=>rfl
 | true=>
 by_cases f:d.J.length<=4
 ·rw[dT f,dF];by_cases g:0<=d.L/\d.L<=1000000
  ·rw[dT g];rw[zkP (keyP d.J) d.J.length ?hp ?hq]
   case hq=>simp
   case hp=>
    intro k b
    simp only[zb d.J k b,Rv]
    rw[iP,za (n:=(k:Int)+1),zpm d.J k b]
    by_cases a:1<=d.J[k].r/\d.J[k].r<=99
    ·by_cases c:d.J[k].q.length=32
     ·rw[dT a,dT c];by_cases h:0<k
      ·have i:J8 ((k:Int) - 1)=((k - 1:Nat):Int):=by rw[za];omega
       rw[dif_pos h,iN (by simp),iN (by simp),iP];simp only[i,zb d.J (k - 1) (by omega),Rv];by_cases e:(d.J[k - 1]'(by omega)).r<d.J[k].r
       ·simp[e,show ¬d.J[k].r<=(d.J[k - 1]'(by omega)).r by omega]
       ·simp[e,show d.J[k].r<=(d.J[k - 1]'(by omega)).r by omega]
      ·obtain rfl:k=0:=by omega
       simp
     ·rw[dT a,dF c];simp
    ·rw[dF a];simp
   cases (Ul d.J.length).all (keyP d.J) with
   | false=>rfl
   | true=>rfl
  ·grind
 ·grind
def zsx (d:Ba):keysV d=keysC d:=by unfold keysV;rw[zr6];rfl
theorem zbK (d:Ba):keysV d=true↔d.S.length=32/\d.J.length<=4/\(0<=d.L/\d.L<=1000000)/\(∀x∈d.J,(1<=x.r/\x.r<=99)/\x.q.length=32)/\d.J.Pairwise (λa b=>a.r<b.r):=by
 rw[zsx];unfold keysC;simp only[Sg,Ux,decide_eq_true_eq];constructor
 ·rintro ⟨e,f,g,h⟩;have c: ∀k (c:k<d.J.length),_:=λk c=>h k (by simp_all);have v: ∀(j:Nat) (l:j<d.J.length) (i:Nat) (hi:i<j),(d.J[i]'(by omega)).r<d.J[j].r:=by
   intro j;induction j with
   | zero=>intro _ i hi;omega
   | succ j ih=>
     intro l i hi;have e:(d.J[j]'(by omega)).r<d.J[j+1].r:=by have:=c (j+1) l;rw[zpm d.J (j+1) l,dif_pos (by omega)]at this;simp_all
     grind
  refine ⟨e,f,g,λx p=>?_,?_⟩
  ·obtain ⟨k,n,rfl⟩:=Sf p;have:=c k n;rw[zpm d.J k n]at this;simp_all
  ·rw[So];grind
 ·rintro ⟨e,f,g,h,o⟩;rw[So]at o;refine ⟨e,f,g,λk c=>?_⟩;have m:k<d.J.length:=by simp_all
  obtain ⟨s,t⟩:=h _ (Rx m);rw[zpm d.J k m,dT s,dT t];by_cases u:0<k
  ·rw[dif_pos u];exact dT (o (k - 1) k (by omega) m (by omega))
  ·simp_all
theorem zgg (a:keysV d=true) {x:Bb} (b:x∈d.J):keyOfV d x.r=x.q:=by
 obtain ⟨_,_,_,_,c⟩:=(zbK d).1 a;unfold keyOfV;rw[a];cases e:d.J.findIdx? (λy=>decide (y.r=x.r)) with
 | none=>grind
 | some j=>obtain ⟨f,g,_⟩:=To.1 e;obtain ⟨i,hi,rfl⟩:=Sf b;rw[So]at c;grind
def placeK (l:List Bb) (id:Int):Nat:=(l.takeWhile λx=>decide (x.r<id)).length
def addKS (d:Ba) (id:Int) (key:J3):Ba:=⟨d.S,d.J.take (placeK d.J id)++(⟨id,key⟩::d.J.drop (placeK d.J id)),d.L⟩
def wipeKS (d:Ba) (id:Int):Ba:={S:=d.S,J:=d.J.filter λx=>!Dc (x.r=id),L:=d.L+1}
theorem zBC (q:α->Bool) (l:List α):(∀x∈l.take (l.takeWhile q).length,q x=true)/\(∀h:(l.takeWhile q).length<l.length,q l[(l.takeWhile q).length]=false):=by
 induction l with
 | nil=>exact ⟨λx b=>by trivial,λh=>by trivial⟩
 | cons a l ih=>rw[Tz];grind
theorem zvx {l:List Bb} {id:Int} (d:l.Pairwise λa b=>a.r<b.r) (g: ∀x∈l,¬x.r=id):(∀x∈l.take (placeK l id),x.r<id)/\(∀x∈l.drop (placeK l id),id<x.r):=by
 obtain ⟨e,f⟩:=zBC (λx:Bb=>decide (x.r<id)) l;refine ⟨λx c=>of_decide_eq_true (e x c),λx c=>?_⟩;obtain ⟨i,hi,rfl⟩:=Sf c;rw[Wt];rw[Sw]at hi;have hl:placeK l id<l.length:=by omega
 have h: ¬l[placeK l id].r<id:=of_decide_eq_false (f hl);rw[So]at d;by_cases j:i=0
 ·grind
 ·have:=d (placeK l id) (placeK l id+i) hl (by omega) (by omega);omega
def zvw {R:α->α->Prop} {A B:List α} {x:α} (h:(A++B).Pairwise R) (D: ∀a∈A,R a x) (E: ∀b∈B,R x b):(A++x::B).Pairwise R:=by
 rw[Un]at h |-
 simp_all
theorem zp5 {id:Int} (b:keysV d=true) (hi:1<=id/\id<=99) (j:key.length=32) (hl:d.J.length<4) (c: ∀x∈d.J,¬x.r=id):keysV (addKS d id key)=true:=by
 obtain ⟨e,k,f,l,g⟩:=(zbK d).1 b;rw[zbK];obtain ⟨h,i⟩:=zvx g c;refine ⟨e,?_,f,λx a=>?_,?_⟩
 ·show (d.J.take _++_::d.J.drop _).length<=4;grind
 ·rcases Sx.1 a with a | a
  ·grind
  ·grind
 ·exact zvw (by simp_all) h i
def zzG (id:Int) (a:keysV d=true) (h:d.L<1000000):keysV (wipeKS d id)=true:=by obtain ⟨b,c,i,e,f⟩:=(zbK d).1 a;rw[zbK];refine ⟨b,Ue (Tk _ _) c,?_,λx g=>e x (Sp.1 g).1,f.filter _⟩;show 0<=d.L+1/\d.L+1<=1000000;omega
structure tenP (key:J3) (rows:List A5) (t:Ar):Prop where
 ep:0<=t.I/\t.I<=1000000
 base:0<=t.F/\t.F<=1000000
 snaps:t.m.u.length<=2
 tabs:t.m.D.length<=1
 eng:engV t.m=true
 few:rows.length<=6
 seq:t.F+(rows.length:Int)=t.m.c
 seqs:seqsV t.F rows=true
 start:engV (rep0 t)=true
 runs:(repS key (rep0 t) rows).2=true
 mem:(repS key (rep0 t) rows).1.G=t.m.G
def zvZ (s:Af) (t:Ar):tenV s t=true↔tenP (keyOfV s.A t.j) (rowsV s t.j) t:=by
 unfold tenV;simp only[Sg,decide_eq_true_eq];constructor
 ·rintro ⟨⟨a,b⟩,⟨c,d⟩,e,⟨f,g⟩,h,i,k,l⟩;exact ⟨a,b,c,d,e,f,g,h,i,k,l⟩
 ·rintro ⟨a,b,c,d,e,f,g,h,i,k,l⟩;trivial
structure storeP (s:Af):Prop where
 secret:s.E.length=32
 keys:keysV s.A=true
 shares:sharesV s.s=true
 boot:0<=s.H/\s.H<=1000
 hist:s.P.length<=120
 slots:s.a.map Ar.j=s.A.J.map Bb.r
 ids:s.a.map Ar.j=s.s.t.map A9.r
 tens: ∀t∈s.a,tenP (keyOfV s.A t.j) (rowsV s t.j) t
 rows: ∀r∈s.x,∃t∈s.a,t.j=r.r
theorem ztm (p:α->Bool) (l:List α):0<=fstV p l↔∃x∈l,p x=true:=by unfold fstV;grind
theorem zya (s:Af):storeV s=true↔storeP s:=by
 unfold storeV bodyS;simp only[Sg,decide_eq_true_eq,Ux];constructor
 ·rintro ⟨⟨c,d,e,f,g,k,l⟩,m,n⟩;have hs: ∀i (hi:i<s.a.length),s.a[i].j=(s.A.J[i]'(by omega)).r/\s.a[i].j=(s.s.t[i]'(by omega)).r/\tenP (keyOfV s.A s.a[i].j) (rowsV s s.a[i].j) s.a[i]:=by intro i hi;have:=m i (by simp_all);rw[zqy s i hi (by omega) (by omega)]at this;simp only[Sg,decide_eq_true_eq]at this;exact ⟨this.1,this.2.1,(zvZ s _).1 this.2.2⟩
  refine ⟨c,d,e,f,g,Ur (by simp_all) λi hi v=>?_,Ur (by grind) λi hi v=>?_,λt b=>?_,λr o=>?_⟩
  ·grind
  ·grind
  ·obtain ⟨i,hi,rfl⟩:=Sf b;grind
  ·obtain ⟨t,b,h⟩:=(ztm _ _).1 (n r o);grind
 ·rintro ⟨c,d,e,f,g,k,l,m,n⟩;have w:s.a.length=s.A.J.length:=by have:=congrArg Tl k;grind
  have x:s.a.length=s.s.t.length:=by have:=congrArg Tl l;grind
  refine ⟨⟨c,d,e,f,g,w,x⟩,λi hi=>?_,λr o=>?_⟩
  ·have p:i<s.a.length:=by simp_all
   rw[zqy s i p (by omega) (by omega)];simp only[Sg,decide_eq_true_eq];have q:=Wn k (i:=i) (by simp_all);have u:=Wn l (i:=i) (by simp_all);simp only[Ve]at q u;exact ⟨q,u,(zvZ s _).2 (m _ (Rx p))⟩
  ·obtain ⟨t,b,h⟩:=n r o;exact (ztm _ _).2 ⟨t,b,dT h⟩
theorem zh4 (base:Int) (h:List A5):seqsV base h=true↔∀i (hi:i<h.length),h[i].c=base+1+i:=by
 unfold seqsV;constructor
 ·simp_all;omega
 ·grind
def zfH (key:J3): ∀(a b:List A5) (e:Aa),repS key e (a++b)=bif (repS key e a).2 then repS key (repS key e a).1 b else (⟨[],[],0,[]⟩,false)
 | [],b,e=>rfl
 | r::a,b,e=>by
   simp only[Uy,repS];cases (openB key r.H r.c r.O).2&&(putR e (openB key r.H r.c r.O).1).2 with
   | false=>rfl
   | true=>exact zfH key a b _
def zkw (key:J3): ∀(A:List A5) (e:Aa),(repS key e A).2=true->(repS key e A).1.D=e.D/\(repS key e A).1.u=e.u/\(repS key e A).1.c=e.c+A.length
 | [],e,_=>⟨rfl,rfl,by simp[repS]⟩
 | r::A,e,h=>by
   simp only[repS]at h |-
   cases d:(openB key r.H r.c r.O).2&&(putR e (openB key r.H r.c r.O).1).2 with
   | false=>rw[d]at h;cases h
   | true=>rw[d]at h;obtain ⟨g,i,j,f⟩:=zgk (Sg _ _ ▸ d:_/\_).2;obtain ⟨a,b,c⟩:=zkw key A _ h;rw[f]at a b c;simp only[cT];rw[f];refine ⟨a,b,?_⟩;rw[c];simp only[engB,Tf];omega
def cntB (l:List Op):Nat->Nat
 | 0=>0
 | k+1=>match l[k]? with
   | some o=>cntB l k+bif laterV l k o.q then 0 else 1
   | none=>cntB l k
def zvm (l:List Op) (seq:Int) (m:List Ac) (e:ordE m) (hs: ∀x∈m,x.c<seq) (hl:m.length+l.length<=1048576): ∀k,k<=l.length->(memB l seq m k).length=m.length+cntB l k:=by
 intro k;induction k with
 | zero=>intro _;rfl
 | succ k ih=>
   intro p;have a:k<l.length:=by omega
   have b:=ih (by omega);obtain ⟨f,s,g,t⟩:=zea l seq m e hs hl k (by omega);have h:cntB l (k+1)=cntB l k+bif laterV l k l[k].q then 0 else 1:=by show (match l[k]? with | some o=>_ | none=>_)=_;simp_all
   rw[h];cases d:laterV l k l[k].q with
   | true=>rw[zgH l seq m k a d,b];rfl
   | false=>obtain ⟨j,i,_,n,u⟩:=znD (memB l seq m k) (entO l[k] seq) f (by omega) (znu l seq m _ k a hs g);rw[znv l seq m k a d,n,Up,zvc _ _ _ i,b];rfl
def zw3 (h:engV e=true) (a:batchV l=true):okB e l=true↔e.c+1<=1000000/\e.G.length+cntB l l.length<=60/\totalV e.D+(e.G.length+cntB l l.length)<=400:=by obtain ⟨b,d,f⟩:=zf6 h a;unfold okB;rw[zvm l (e.c+1) e.G b d (by omega) l.length (Tc _)];simp
def zkU (h:engV e=true) (a:batchV l=true):(engB e l).G.length=e.G.length+cntB l l.length:=by obtain ⟨b,d,f⟩:=zf6 h a;exact zvm l (e.c+1) e.G b d (by omega) l.length (Tc _)
def zAp (key:J3) {A qs:List A5} (j:qs.Sublist A): ∀(e f:Aa),(repS key e A).2=true->engV f=true->f.D=e.D->f.c<=e.c->f.G.length<=e.G.length->(repS key f qs).2=true:=by
 induction j with
 | slnil=>intro e f _ _ _ _ _;rfl
 | @cons qs A r j ih=>
   intro e f h d g n o;simp only[repS]at h;cases a:(openB key r.H r.c r.O).2&&(putR e (openB key r.H r.c r.O).1).2 with
   | false=>rw[a]at h;cases h
   | true=>
     rw[a]at h;obtain ⟨i,b,l,k⟩:=zgk (Sg _ _ ▸ a:_/\_).2;rw[k]at h;refine ih _ f h d g ?_ ?_
     ·show f.c<=e.c+1;omega
     ·rw[zkU i b];omega
 | @cons_cons qs A r j ih=>
   intro e f h d g n o;simp only[repS]at h |-
   cases a:(openB key r.H r.c r.O).2&&(putR e (openB key r.H r.c r.O).1).2 with
   | false=>rw[a]at h;cases h
   | true=>
     rw[a]at h;have p:=(Sg _ _ ▸ a:_/\_).1;obtain ⟨i,b,l,k⟩:=zgk (Sg _ _ ▸ a:_/\_).2;rw[k]at h;obtain ⟨s,t,u⟩:=(zw3 i b).1 l;have m:okB f (openB key r.H r.c r.O).1=true:=by rw[zw3 d b,g];omega
     have q:putR f (openB key r.H r.c r.O).1=(engB f (openB key r.H r.c r.O).1,true):=by unfold putR;rw[d,b,m];rfl
     rw[q,p];refine ih _ _ h ?_ g ?_ ?_
     ·rw[zgv d b];exact m
     ·show f.c+1<=e.c+1;omega
     ·rw[zkU i b,zkU d b];omega
def tenP.eng_is {rows:List A5} {t:Ar} (h:tenP key rows t):(repS key (rep0 t) rows).1=⟨t.m.G,t.m.D,t.m.c,[]⟩:=by
 obtain ⟨a,b,c⟩:=zkw key rows _ h.runs;have d:=h.mem;have e:=h.seq;generalize (repS key (rep0 t) rows).1=x at a b c d;obtain ⟨g,i,f,j⟩:=x;simp only at a b c d;have c':f=t.m.c:=by rw[c];exact e
 rw[a,b,c',d];rfl
def atE (l:List Ar) (id:Int):Int:=fstV (λt=>decide (t.j=id)) l
def tenE (l:List Ar) (i:Int):Ar:=l.getD i.toNat ⟨0,0,0,⟨[],[],0,[]⟩⟩
def noTE (id:Int) (l:List Ar):List Ar:=l.filter λt=>!Dc (t.j=id)
def noLR (id:Int) (l:List A5):List A5:=l.filter λr=>!Dc (r.r=id)
def ofLR (id:Int) (l:List A5):List A5:=l.filter λr=>decide (r.r=id)
def flatE (e:Aa):Aa:=(mergeS (flushS e).2).2
def flushT (t:Ar):Ar:=⟨t.j,t.I,(flatE t.m).c,flatE t.m⟩
def flushO (s:Af) (i:Int):Af:=⟨s.E,s.A,s.s,s.a.set i.toNat (flushT (tenE s.a i)),noLR (tenE s.a i).j s.x,s.P,s.H⟩
def newTE (id:Int):Ar:=⟨id,0,0,⟨[],[],0,[]⟩⟩
def placeE (l:List Ar) (id:Int):Nat:=(l.takeWhile λx=>decide (x.j<id)).length
def insTE (l:List Ar) (t:Ar):List Ar:=l.take (placeE l t.j)++(t::l.drop (placeE l t.j))
def createS (s:Af) (c:At):Af × A6:=
 bif !Dc (1<=c.r/\c.r<=99)||(!Dc (0<=c.N/\c.N<=40)||(!Dc (c.q.length=32)||decide (atE s.a c.r>=0))) then (s,codeR 1)
 else bif Dc (4<=s.a.length) then (s,codeR 4)
 else bif (setR s.s c.r c.N).2 then (⟨s.E,addKS s.A c.r c.q,(setR s.s c.r c.N).1,insTE s.a (newTE c.r),s.x,s.P,s.H⟩,⟨0,1,mintV s.E c.r 0,[]⟩)
 else (s,codeR 6)
def quotaS (s:Af) (c:At):Af × A6:=
 bif Dc (0<=c.N/\c.N<=40) then (bif (setR s.s c.r c.N).2 then (⟨s.E,s.A,(setR s.s c.r c.N).1,s.a,s.x,s.P,s.H⟩,codeR 0) else (s,codeR 6)) else (s,codeR 1)
def removeS (s:Af) (id:Int):Af × A6:=
 bif Dc (1000<=s.H)||decide (1000000<=s.A.L) then (s,codeR 4)
 else (⟨s.E,wipeKS s.A id,(shareDropR s.s id).1,noTE id s.a,noLR id s.x,s.P,s.H+1⟩,codeR 0)
def withT (s:Af) (i:Int) (t:Ar):Af:=⟨s.E,s.A,s.s,s.a.set i.toNat t,s.x,s.P,s.H⟩
def rotateS (s:Af) (i:Int):Af × A6:=
 bif Dc ((tenE s.a i).I>=1000000) then (s,codeR 4)
 else (withT s i ⟨(tenE s.a i).j,(tenE s.a i).I+1,(tenE s.a i).F,(tenE s.a i).m⟩,⟨0,0,mintV s.E (tenE s.a i).j ((tenE s.a i).I+1),[]⟩)
def ownS (s:Af) (c:At):Af × A6:=
 bif Dc (atE s.a c.r<0) then (s,codeR 5)
 else bif Dc (c.B=2) then quotaS s c
 else bif Dc (c.B=3) then removeS s c.r
 else bif Dc (c.B=4) then rotateS s (atE s.a c.r)
 else (flushO s (atE s.a c.r),codeR 0)
def markL (r:A5):A5:=⟨r.r,r.H,r.c,r.O,true⟩
def syncS (s:Af):Af:=⟨s.E,s.A,s.s,s.a,s.x.map markL,s.P,s.H⟩
def keepL:Int->List A5->List A5
 | _,[]=>[]
 | n,r::l=>bif r.W then markL r::keepL n l else bif Dc (n<1) then keepL n l else markL r::keepL (n - 1) l
def crashT (key:J3) (rows:List A5) (t:Ar):Ar:=⟨t.j,t.I,t.F,(repS key (rep0 t) rows).1⟩
def crashS (s:Af) (n:Int):Af × A6:=
 bif Dc (1000<=s.H) then (s,codeR 4)
 else ({E:=s.E,A:=s.A,s:=s.s,a:=s.a.map λt=>crashT (keyOfV s.A t.j) (ofLR t.j (keepL n s.x)) t,x:=keepL n s.x,P:=s.P,H:=s.H+1},codeR 0)
def valR (e:Aa) (key:J3) (seq:Int):A6:=bif (getR e key seq).2 then ⟨0,0,(getR e key seq).1,[]⟩ else codeR 5
def putS (s a:Af) (i:Int) (ops:List Op):Af:=
 ⟨a.E,a.A,a.s,a.a.set i.toNat ⟨(tenE a.a i).j,(tenE a.a i).I,(tenE a.a i).F,engB (tenE a.a i).m ops⟩,a.x++ [⟨(tenE a.a i).j,a.H,(tenE a.a i).m.c+1,sealB (keyOfV a.A (tenE a.a i).j) a.H ((tenE a.a i).m.c+1) ops,false⟩],s.P++ [⟨(tenE a.a i).j,a.H,(tenE a.a i).m.c+1,sealB (keyOfV a.A (tenE a.a i).j) a.H ((tenE a.a i).m.c+1) ops,false⟩],a.H⟩
def roomS (s:Af) (i:Int):Af:=bif Dc (6<=(ofLR (tenE s.a i).j s.x).length) then flushO s i else s
def writeS (s:Af) (i:Int) (ops:List Op):Af × A6:=
 bif Dc (120<=s.P.length) then (s,codeR 4)
 else bif batchV ops then
  (bif Dc ((bytesN (applyK (mapR (tenE s.a i).m (tenE s.a i).m.c) ops):Int)>quoV (-1) s.s (tenE s.a i).j) then (s,codeR 3)
 else bif okB (tenE (roomS s i).a i).m ops&& !Dc (sealB (keyOfV s.A (tenE s.a i).j) s.H ((tenE s.a i).m.c+1) ops= []) then
    (putS s (roomS s i) i ops,⟨0,(tenE s.a i).m.c+1,[],[]⟩)
 else (s,codeR 4))
 else (s,codeR 1)
def withE (s:Af) (i:Int) (l:List Int):Af:=
 withT s i ⟨(tenE s.a i).j,(tenE s.a i).I,(tenE s.a i).F,⟨(tenE s.a i).m.G,(tenE s.a i).m.D,(tenE s.a i).m.c,l⟩⟩
def snapS (s:Af) (i:Int):Af × A6:=
 bif Dc ((tenE s.a i).m.c∈(tenE s.a i).m.u) then (s,⟨0,(tenE s.a i).m.c,[],[]⟩)
 else bif Dc (2<=(tenE s.a i).m.u.length) then (s,codeR 4)
 else (withE s i ((tenE s.a i).m.u++ [(tenE s.a i).m.c]),⟨0,(tenE s.a i).m.c,[],[]⟩)
def heldS (s:Af) (i:Int) (c:At):Af × A6:=
 bif Dc (c.N∈(tenE s.a i).m.u) then
  (bif Dc (c.B=10) then (s,valR (tenE s.a i).m c.q c.N) else (withE s i (dropS (tenE s.a i).m.u c.N),codeR 0))
 else (s,codeR 5)
def tenS (s:Af) (i:Int) (c:At):Af × A6:=
 bif Dc (c.B=5) then writeS s i c.R
 else bif Dc (c.B=6) then (s,valR (tenE s.a i).m c.q (tenE s.a i).m.c)
 else bif Dc (c.B=7) then (s,⟨0,0,[],scanV (mapR (tenE s.a i).m (tenE s.a i).m.c) c.q c.Z⟩)
 else bif Dc (c.B=8) then snapS s i
 else bif Dc (c.B=11) then (s,⟨0,(bytesN (mapR (tenE s.a i).m (tenE s.a i).m.c):Int),[],[]⟩)
 else heldS s i c
def callS (s:Af) (c:At):Af × A6:=
 bif !(tokR s.E c.U).2.2||(Dc (atE s.a (tokR s.E c.U).1<0)|| !Dc ((tenE s.a (atE s.a (tokR s.E c.U).1)).I=(tokR s.E c.U).2.1)) then (s,codeR 2)
 else tenS s (atE s.a (tokR s.E c.U).1) c
def doS (s:Af) (c:At):Af × A6:=
 bif Dc (c.B=1) then createS s c
 else bif Dc (c.B=12) then (syncS s,codeR 0)
 else bif Dc (c.B=14) then crashS s c.N
 else bif Dc (2<=c.B/\c.B<=4)||decide (c.B=13) then ownS s c
 else bif Dc (5<=c.B/\c.B<=11) then callS s c
 else (s,codeR 1)
def zb2 (l:List Ar) (id:Int):(∃j,∃b:j<l.length,atE l id=(j:Int)/\l[j].j=id/\∀i (hi:i<j),¬(l[i]'(by omega)).j=id)\/(atE l id= -1/\∀x∈l,¬x.j=id):=by
 rcases zfB (λt:Ar=>decide (t.j=id)) l with ⟨j,b,e,a,c⟩ | ⟨e,a⟩
 ·exact .inl ⟨j,b,e,of_decide_eq_true a,λi hi=>of_decide_eq_false (c i hi)⟩
 ·exact .inr ⟨e,λx d=>of_decide_eq_false (a x d)⟩
def zg (l:List Ar) (j:Nat) (a:j<l.length):tenE l (j:Int)=l[j]:=by unfold tenE;simp_all
def zw2 (id:Int) (l:List A5):ofLR id (noLR id l)= []:=by unfold ofLR noLR;simp
theorem zro {id k:Int} (h: ¬k=id) (l:List A5):ofLR k (noLR id l)=ofLR k l:=by unfold ofLR noLR;rw[Wm];grind
def zny (id:Int) (l k:List A5):ofLR id (l++k)=ofLR id l++ofLR id k:=Ui _ _
theorem zrl {l:List α} {t x:α} (h:x∈l.set j t):x=t\/∃i,∃hi:i<l.length,¬i=j/\x=l[i]:=by obtain ⟨i,hi,e⟩:=Sf h;grind
theorem set_mapE {l:List Ar} (a:j<l.length) {t:Ar} (h:t.j=l[j].j):(l.set j t).map Ar.j=l.map Ar.j:=by refine Ur (by simp) λi b c=>?_;grind
theorem storeP.lt (h:storeP s):s.a.Pairwise λa b=>a.j<b.j:=by have c:=((zbK _).1 h.keys).2.2.2.2;have d:(s.A.J.map Bb.r).Pairwise (·< ·):=List.pairwise_map.2 c;rw[<-h.slots]at d;grind
theorem storeP.ne (h:storeP s) {i:Nat} (hi:i<s.a.length) (b:j<s.a.length) (c: ¬i=j): ¬s.a[i].j=s.a[j].j:=by have:=So.1 h.lt;grind
theorem storeP.at (h:storeP s) (j:Nat) (d:j<s.a.length):atE s.a s.a[j].j=(j:Int):=by
 rcases zb2 s.a s.a[j].j with ⟨i,hi,e,b,_⟩ | ⟨_,b⟩
 ·by_cases c:i=j
  ·omega
  ·exact absurd b (h.ne hi d c)
 ·grind
def storeP.lens (h:storeP s):s.a.length=s.A.J.length/\s.a.length=s.s.t.length/\s.a.length<=4:=by have b:=congrArg Tl h.slots;have c:=congrArg Tl h.ids;have d:=((zbK _).1 h.keys).2.1;simp_all
def storeP.slot (h:storeP s) {t:Ar} (b:t∈s.a): ∃x∈s.A.J,x.r=t.j:=by have:t.j∈s.a.map Ar.j:=Ua b;rw[h.slots]at this;simp_all
theorem zv7 (h:storeP s) (j:Nat) (c:j<s.a.length) (t:Ar) (d:t.j=s.a[j].j) (g:tenP (keyOfV s.A t.j) (ofLR t.j s.x) t):storeP (withT s (j:Int) t):=by
 unfold withT;refine ⟨h.secret,h.keys,h.shares,h.boot,h.hist,?_,?_,λx b=>?_,λr f=>?_⟩
 ·exact (set_mapE c d).trans h.slots
 ·exact (set_mapE c d).trans h.ids
 ·rcases Vq b with b | rfl
  ·exact h.tens x b
  ·trivial
 ·obtain ⟨x,b,e⟩:=h.rows r f;have:r.r∈(s.a.set j t).map Ar.j:=by rw[set_mapE c d,<-e];grind
  grind
def zen (e:Aa):(flatE e).c=e.c/\(flatE e).u=e.u:=by obtain ⟨a,b,c⟩:=znw (flushS e).2;obtain ⟨d,f⟩:=zkk e;exact ⟨b.trans d,c.trans f⟩
theorem zu1 (h:e.D.length<=1):(flatE e).G= []:=by
 obtain ⟨a,b,c⟩:=znw (flushS e).2;refine a.trans ?_;by_cases d:e.G.length=0\/6<=e.D.length
 ·rw[zde d];grind
 ·rw[zfg d]
def zpk (h:engV e=true):engV (flatE e)=true:=ztt (zfb h)
def zyC (e:Aa):(flatE e).D.length<=1:=by
 unfold flatE mergeS;cases c:Dc ((flushS e).2.D.length=0) with
 | true=>simp_all
 | false=>exact (zvX _).1
def zu2 {rows:List A5} {t:Ar} (h:tenP key rows t):tenP key [] (flushT t):=by
 obtain ⟨a,b⟩:=zen t.m;have d:=zu1 h.tabs;have e:=zpk h.eng;have g:=(zJ h.eng).1;have f:=zgw e (l:=[]) (by simp) rfl;refine ⟨h.ep,?_,?_,zyC t.m,e,by simp,?_,rfl,?_,rfl,?_⟩
 ·show 0<=(flatE t.m).c/\(flatE t.m).c<=1000000;omega
 ·show (flatE t.m).u.length<=2;rw[b];exact h.snaps
 ·show (flatE t.m).c+((([]:List A5).length:Nat):Int)=(flatE t.m).c;simp
 ·rw[d]at f;trivial
 ·exact d.symm
theorem zlx (h:storeP s) (j:Nat) (b:j<s.a.length):storeP (flushO s (j:Int)):=by
 unfold flushO;rw[zg _ j b,Sa];have c:(s.a.set j (flushT s.a[j])).map Ar.j=s.a.map Ar.j:=set_mapE b rfl;refine ⟨h.secret,h.keys,h.shares,h.boot,h.hist,c.trans h.slots,c.trans h.ids,λx d=>?_,λr f=>?_⟩
 ·rcases zrl d with rfl | ⟨i,hi,g,rfl⟩
  ·have:=zu2 (h.tens _ (Rx b));show tenP (keyOfV s.A s.a[j].j) (ofLR s.a[j].j (noLR s.a[j].j s.x)) _;rw[zw2];trivial
  ·have:=h.tens _ (Rx hi);show tenP (keyOfV s.A s.a[i].j) (ofLR s.a[i].j (noLR s.a[j].j s.x)) _;rw[zro (h.ne hi b g)];trivial
 ·obtain ⟨x,d,e⟩:=h.rows r (Sp.1 f).1;have:r.r∈(s.a.set j (flushT s.a[j])).map Ar.j:=by grind
  grind
def zr2 {α β:Type} (f:α->β) (p:β->Bool): ∀l:List α,(l.takeWhile λx=>p (f x)).length=((l.map f).takeWhile p).length
 | []=>rfl
 | a::l=>by
   rw[Tz,Uf,Tz];cases p (f a) with
   | true=>simp only[iT,Tf,zr2 f p l]
   | false=>rfl
def zAG (p:α->Bool) {A B:List α} (h: ∀a∈A,p a=true) (D: ∀b∈B,p b=false):((A++B).takeWhile p).length=A.length:=by
 induction A with
 | nil=>
   cases B with
   | nil=>rfl
   | cons b B=>simp_all
 | cons a A ih=>simp_all
def insI (l:List Int) (id:Int):List Int:=l.take (l.takeWhile λx=>decide (x<id)).length++(id::l.drop (l.takeWhile λx=>decide (x<id)).length)
def ztn (l:List Ar) (t:Ar):(insTE l t).map Ar.j=insI (l.map Ar.j) t.j:=by unfold insTE insI placeE;rw[zr2 Ar.j (λx=>decide (x<t.j)) l,Tt,Uf,Uz,Vd]
def zyf (d:Ba) (id:Int) (key:J3):(addKS d id key).J.map Bb.r=insI (d.J.map Bb.r) id:=by unfold addKS insI placeK;rw[zr2 Bb.r (λx=>decide (x<id)) d.J,Tt,Uf,Uz,Vd]
theorem zxA {R:List A9} {id q:Int} (h: ∀y∈L,y.r<id) (D: ∀y∈R,id<y.r):insI ((L++R).map A9.r) id=(L++(⟨id,q⟩::R)).map A9.r:=by
 unfold insI;rw[Tt,zAG (λx=>decide (x<id)) (A:=L.map A9.r) (B:=R.map A9.r) (λa b=>by grind) (λa b=>by grind),
  List.take_left,List.drop_left,Tt,Uf]
theorem zto {l:List Ar} {t x:Ar} (h:x∈insTE l t):x=t\/x∈l:=by unfold insTE at h;grind
theorem zs7 {id:Int} {x:Bb} (h:x∈d.J):x∈(addKS d id key).J:=by unfold addKS;rw[<-Tv (placeK d.J id) d.J,Sx]at h;grind
def zA4 (key:J3) (id:Int):tenP key [] (newTE id):=
 ⟨by simp[newTE],by simp[newTE],by simp[newTE],by simp[newTE],rfl,by simp,by simp[newTE],rfl,rfl,rfl,rfl⟩
theorem zxr (h:storeP s) (c:At):storeP (createS s c).1:=by
 unfold createS;cases f:(!Dc (1<=c.r/\c.r<=99)||(!Dc (0<=c.N/\c.N<=40)||(!Dc (c.q.length=32)||decide (atE s.a c.r>=0)))) with
 | true=>exact h
 | false=>
   cases o:Dc (4<=s.a.length) with
   | true=>exact h
   | false=>
     cases p:(setR s.s c.r c.N).2 with
     | false=>exact h
     | true=>
       simp only[cT,cF];obtain ⟨L,M,R,i,u,v,d,w,z,H⟩:=zjG s.s c.r c.N h.shares p;simp only[Uo]at f;have I: ¬atE s.a c.r>=0:=of_decide_eq_false f.2.2.2;have B:1<=c.r/\c.r<=99:=by simp_all
       have C:c.q.length=32:=by simp_all
       have K:=of_decide_eq_false o;have O: ∀x∈s.a,¬x.j=c.r:=by
        rcases zb2 s.a c.r with ⟨j,_,e,_,_⟩ | ⟨_,g⟩
        ·omega
        ·exact g
       have V:M= []:=by
        rcases d with d | ⟨y,d,P⟩
        ·trivial
        ·exfalso;have D:y.r∈s.a.map Ar.j:=by rw[h.ids,i,d];simp
         grind
       subst V;obtain ⟨Q,S,T⟩:=h.lens;have E: ∀x∈s.A.J,¬x.r=c.r:=by
        intro x b e;have D:x.r∈s.a.map Ar.j:=by rw[h.slots];grind
        grind
       have k:=zp5 (key:=c.q) h.keys B C (by omega) E;refine ⟨h.secret,k,w,h.boot,h.hist,?_,?_,λx b=>?_,λr F=>?_⟩
       ·exact (ztn _ _).trans ((congrArg (λl=>insI l c.r) h.slots).trans (zyf _ _ _).symm)
       ·refine (ztn _ _).trans ?_;rw[h.ids,i,z];exact zxA u v
       ·rcases zto b with rfl | b
        ·have:rowsV s c.r= []:=by unfold rowsV;rw[Uj];intro r G e;obtain ⟨t,m,U⟩:=h.rows r G;simp_all
         show tenP _ (rowsV s c.r) _;rw[this];exact zA4 _ _
        ·obtain ⟨y,n,e⟩:=h.slot b;have:=h.tens x b;rw[<-e,zgg h.keys n,<-zgg k (zs7 n),e]at this;trivial
       ·obtain ⟨t,m,e⟩:=h.rows r F;have:r.r∈(insTE s.a (newTE c.r)).map Ar.j:=by rw[<-e];unfold insTE;rw[<-Tv (placeE s.a (newTE c.r).j) s.a,Sx]at m;grind
        simp_all
theorem zze (h:storeP s) (c:At) (d: ∃x∈s.a,x.j=c.r):storeP (quotaS s c).1:=by
 unfold quotaS;cases Dc (0<=c.N/\c.N<=40) with
 | false=>exact h
 | true=>
   cases e:(setR s.s c.r c.N).2 with
   | false=>exact h
   | true=>
     simp only[cT];obtain ⟨L,M,R,b,m,n,f,g,i,o⟩:=zjG s.s c.r c.N h.shares e;refine ⟨h.secret,h.keys,g,h.boot,h.hist,h.slots,?_,h.tens,h.rows⟩;rw[h.ids,i,b];rcases f with rfl | ⟨y,rfl,p⟩
     ·exfalso;obtain ⟨x,k,q⟩:=d;have l:x.j∈s.a.map Ar.j:=Ua k;rw[h.ids,b,Ta]at l;grind
     ·simp_all
theorem zxU (h:storeP s) (id:Int):storeP (removeS s id).1:=by
 unfold removeS;cases g:(Dc (1000<=s.H)||decide (1000000<=s.A.L)) with
 | true=>exact h
 | false=>
   simp only[Uo,decide_eq_false_iff_not]at g;rw[zm7 id h.shares];have o:=h.boot;have c:=zzG id h.keys (by omega);refine ⟨h.secret,c,zo3 id h.shares,by grind,h.hist,?_,?_,λx i=>?_,λr k=>?_⟩
   ·show (noTE id s.a).map Ar.j=(wipeKS s.A id).J.map Bb.r;unfold noTE wipeKS;rw[zc5 Ar.j (λx=>!Dc (x.j=id)) (λx=>!Dc (x=id)) (λ_=>rfl),zc5 Bb.r (λx=>!Dc (x.r=id)) (λx=>!Dc (x=id)) (λ_=>rfl),h.slots]
   ·show (noTE id s.a).map Ar.j=(dropT s.s.t id).map A9.r;rw[ztc];unfold noTE;rw[zc5 Ar.j (λx=>!Dc (x.j=id)) (λx=>!Dc (x=id)) (λ_=>rfl),h.ids]
   ·obtain ⟨d,p⟩:=Sp.1 i;have l: ¬x.j=id:=by simp_all
    have b:=h.tens x d;obtain ⟨y,f,e⟩:=h.slot d;have m:y∈(wipeKS s.A id).J:=Sp.2 ⟨f,by simp_all⟩;show tenP (keyOfV (wipeKS s.A id) x.j) (ofLR x.j (noLR id s.x)) x;rw[zro l];rw[<-e,zgg h.keys f,<-zgg c m,e]at b;trivial
   ·obtain ⟨n,q⟩:=Sp.1 k;obtain ⟨t,b,e⟩:=h.rows r n;exact ⟨t,Sp.2 ⟨b,by simp_all⟩,e⟩
theorem zx1 (h:storeP s) (j:Nat) (d:j<s.a.length):storeP (rotateS s (j:Int)).1:=by
 unfold rotateS;rw[zg _ j d];have b:=h.tens _ (Rx d);have e:=b.ep;by_cases c:s.a[j].I>=1000000
 ·simp_all
 ·rw[dF c];exact zv7 h j d _ rfl ⟨by grind,b.base,b.snaps,b.tabs,b.eng,b.few,b.seq,b.seqs,b.start,b.runs,b.mem⟩
def zlR (id:Int) (l:List A5):ofLR id (l.map markL)=(ofLR id l).map markL:=by unfold ofLR;rw[Wy];rfl
def zh2 (key:J3): ∀(l:List A5) (e:Aa),repS key e (l.map markL)=repS key e l
 | [],e=>rfl
 | r::l,e=>by
   simp only[Uf,repS,markL];cases (openB key r.H r.c r.O).2&&(putR e (openB key r.H r.c r.O).1).2 with
   | false=>rfl
   | true=>exact zh2 key l _
def tenP.mark {rows:List A5} {t:Ar} (h:tenP key rows t):tenP key (rows.map markL) t:=by refine ⟨h.ep,h.base,h.snaps,h.tabs,h.eng,by rw[Uk];exact h.few,by rw[Uk];exact h.seq,?_,h.start,by rw[zh2];exact h.runs,by rw[zh2];exact h.mem⟩;rw[zh4];intro i hi;rw[Ve];exact (zh4 _ _).1 h.seqs i (by simp_all)
def zAA (h:storeP s):storeP (syncS s):=by
 refine ⟨h.secret,h.keys,h.shares,h.boot,h.hist,h.slots,h.ids,λx a=>?_,λr b=>?_⟩
 ·show tenP _ (ofLR x.j (s.x.map markL)) x;rw[zlR];exact (h.tens x a).mark
 ·obtain ⟨q,c,rfl⟩:=Uu.1 b;exact h.rows q c
def syncP (l:List A5):Prop:=l.Pairwise λa b=>b.W=true->a.W=true
def zrh: ∀(l:List A5) (n:Int),n<1->(∀r∈l,r.W=false)->keepL n l= []
 | [],_,_,_=>rfl
 | r::l,n,a,h=>by simp only[keepL];rw[h r (by simp),dT a];exact zrh l n a λx b=>h x (by simp_all)
def zit: ∀(l:List A5) (n:Int),syncP l->∃k,keepL n l=(l.take k).map markL
 | [],n,_=>⟨0,rfl⟩
 | r::l,n,h=>by
   obtain ⟨e,b⟩:=Tm.1 h;simp only[keepL];cases hs:r.W with
   | true=>obtain ⟨k,c⟩:=zit l n b;exact ⟨k+1,by simp_all⟩
   | false=>
     have d: ∀x∈l,x.W=false:=by simp_all
     by_cases a:n<1
     ·rw[dT a];simp only[cT,cF];exact ⟨0,zrh l n a d⟩
     ·rw[dF a];obtain ⟨k,c⟩:=zit l (n - 1) b;exact ⟨k+1,by simp_all⟩
theorem zoJ: ∀(l:List A5) (n:Int) (r:A5),r∈keepL n l->∃q∈l,r=markL q
 | [],n,r,h=>by cases h
 | q::l,n,r,h=>by
   simp only[keepL]at h;have go: ∀m,r∈keepL m l->∃x∈q::l,r=markL x:=λm h=>by obtain ⟨x,a,e⟩:=zoJ l m r h;grind
   grind
def zlO: ∀(l:List A5) (n:Int),∃q:List A5,q.Sublist l/\keepL n l=q.map markL
 | [],n=>⟨[],.slnil,rfl⟩
 | r::l,n=>by
   simp only[keepL];obtain ⟨a,b,e⟩:=zlO l n;obtain ⟨c,d,f⟩:=zlO l (n - 1);cases r.W with
   | true=>exact ⟨r::a,b.cons_cons r,by simp_all⟩
   | false=>
     cases Dc (n<1) with
     | true=>exact ⟨a,b.cons r,by trivial⟩
     | false=>exact ⟨r::c,d.cons_cons r,by simp_all⟩
def tenP.part {rows qs:List A5} {t:Ar} (h:tenP key rows t) (hs:qs.Sublist rows):(repS key (rep0 t) (qs.map markL)).2=true:=by rw[zh2];exact zAp key hs (rep0 t) (rep0 t) h.runs h.start rfl (Um _) (Tc _)
theorem zzT {rows:List A5} {t:Ar} (h:tenP key rows t) (k:Nat):tenP key ((rows.take k).map markL) (crashT key ((rows.take k).map markL) t):=by
 have d:=h.part (List.take_sublist k rows);have e:=zpo key _ _ h.start d;obtain ⟨a,b,c⟩:=zkw key _ _ d;have f:=h.few;have g:((rows.take k).map markL).length<=rows.length:=by grind
 refine ⟨h.ep,h.base,?_,?_,e,by omega,c.symm,?_,?_,?_,?_⟩
 ·show (repS key (rep0 t) _).1.u.length<=2;rw[b];simp[rep0]
 ·show (repS key (rep0 t) _).1.D.length<=1;rw[a];exact h.tabs
 ·rw[zh4];intro i hi;rw[Ve,List.getElem_take];exact (zh4 _ _).1 h.seqs i (by omega)
 ·have:rep0 (crashT key ((rows.take k).map markL) t)=rep0 t:=by unfold rep0 crashT;rw[a];rfl
  rw[this];exact h.start
 ·have:rep0 (crashT key ((rows.take k).map markL) t)=rep0 t:=by unfold rep0 crashT;rw[a];rfl
  simp_all
 ·have:rep0 (crashT key ((rows.take k).map markL) t)=rep0 t:=by unfold rep0 crashT;rw[a];rfl
  rw[this];rfl
theorem zyq (h:storeP s) (hs:syncP s.x) (n:Int):storeP (crashS s n).1:=by
 unfold crashS;by_cases d:1000<=s.H
 ·simp_all
 ·rw[dF d];obtain ⟨k,f⟩:=zit s.x n hs;have p:=h.boot;have c:(s.a.map λt=>crashT (keyOfV s.A t.j) (ofLR t.j (keepL n s.x)) t).map Ar.j=s.a.map Ar.j:=by rw[List.map_map];rfl
  refine ⟨h.secret,h.keys,h.shares,by grind,h.hist,c.trans h.slots,c.trans h.ids,λx g=>?_,λr i=>?_⟩
  ·obtain ⟨t,b,rfl⟩:=Uu.1 g;have l:=h.tens t b;show tenP (keyOfV s.A t.j) (ofLR t.j (keepL n s.x)) _;rw[f,zlR];have m:ofLR t.j (s.x.take k) <+: ofLR t.j s.x:=(List.take_prefix k s.x).filter _;rw[List.prefix_iff_eq_take.1 m];exact zzT l _
  ·obtain ⟨q,o,rfl⟩:=zoJ _ _ _ i;obtain ⟨t,b,e⟩:=h.rows q o;exact ⟨_,Ua b,e⟩
def zAq (h:storeP s) (j:Nat) (b:j<s.a.length):storeP (roomS s (j:Int)):=by
 unfold roomS;cases Dc (6<=(ofLR (tenE s.a (j:Int)).j s.x).length) with
 | true=>exact zlx h j b
 | false=>exact h
theorem zvz (s:Af) (j:Nat) (b:j<s.a.length):(roomS s (j:Int)).a.length=s.a.length/\(roomS s (j:Int)).A=s.A/\(roomS s (j:Int)).H=s.H/\(roomS s (j:Int)).E=s.E/\(roomS s (j:Int)).s=s.s/\(roomS s (j:Int)).P=s.P/\
 (tenE (roomS s (j:Int)).a (j:Int)).j=s.a[j].j/\(tenE (roomS s (j:Int)).a (j:Int)).I=s.a[j].I/\(tenE (roomS s (j:Int)).a (j:Int)).m.c=s.a[j].m.c/\(ofLR s.a[j].j (roomS s (j:Int)).x).length<=5:=by
 unfold roomS;rw[zg _ j b];cases c:Dc (6<=(ofLR s.a[j].j s.x).length) with
 | true=>simp only[cT];unfold flushO;simp only[zg _ j b,Sa];rw[zg _ j (by simp_all),Vc,zw2];exact ⟨by simp,by simp,by simp,by simp,by simp,by simp,by rfl,by rfl,by simp[flushT,(zen s.a[j].m).1],by simp⟩
 | false=>simp only[cF];rw[zg _ j b];grind
theorem zBA {rows:List A5} {t:Ar} (h:tenP key rows t) (ops:List Op) (boot:Int) (hl:rows.length<=5) (a:okB t.m ops=true) (b:batchV ops=true) (hs: ¬sealB key boot (t.m.c+1) ops= []) (tid:Int):
 tenP key (rows++ [⟨tid,boot,t.m.c+1,sealB key boot (t.m.c+1) ops,false⟩]) ⟨t.j,t.I,t.F,engB t.m ops⟩:=by
 obtain ⟨e,f,g,k⟩:=zrq hs;have d:=zgv h.eng b;rw[a]at d;have B:engV ⟨t.m.G,t.m.D,t.m.c,[]⟩=true:=zgw h.eng (l:=[]) (by simp) rfl;have E:putR ⟨t.m.G,t.m.D,t.m.c,[]⟩ ops=(engB ⟨t.m.G,t.m.D,t.m.c,[]⟩ ops,true):=by unfold putR;rw[B,b,show okB ⟨t.m.G,t.m.D,t.m.c,[]⟩ ops=okB t.m ops from rfl,a];rfl
 have A:repS key (rep0 t) (rows++ [⟨tid,boot,t.m.c+1,sealB key boot (t.m.c+1) ops,false⟩])=(engB ⟨t.m.G,t.m.D,t.m.c,[]⟩ ops,true):=by rw[zfH,h.runs,cond_true,h.eng_is];simp only[repS];simp_all
 have n:=h.seq;refine ⟨h.ep,h.base,h.snaps,h.tabs,d,by simp_all,?_,?_,h.start,?_,?_⟩
 ·show t.F+_=t.m.c+1;grind
 ·rw[zh4];intro i hi;by_cases c:i<rows.length
  ·rw[Vu c];exact (zh4 _ _).1 h.seqs i c
  ·grind
 ·show (repS key (rep0 t) _).2=true;rw[A]
 ·show (repS key (rep0 t) _).1.G=_;rw[A];rfl
theorem zA9 {a:Af} (h:storeP a) (j:Nat) (b:j<a.a.length) (ops:List Op) (p:s.P.length<120) (hl:(ofLR a.a[j].j a.x).length<=5) (k:okB a.a[j].m ops=true) (l:batchV ops=true) (hs: ¬sealB (keyOfV a.A a.a[j].j) a.H (a.a[j].m.c+1) ops= []):storeP (putS s a (j:Int) ops):=by
 unfold putS;rw[zg _ j b,Sa];have f: ∀t:Ar,t.j=a.a[j].j->(a.a.set j t).map Ar.j=a.a.map Ar.j:=λt g=>set_mapE b g;refine ⟨h.secret,h.keys,h.shares,h.boot,by grind,(f ⟨a.a[j].j,a.a[j].I,a.a[j].F,engB a.a[j].m ops⟩ rfl).trans h.slots,(f ⟨a.a[j].j,a.a[j].I,a.a[j].F,engB a.a[j].m ops⟩ rfl).trans h.ids,λx n=>?_,λr d=>?_⟩
 ·rcases zrl n with rfl | ⟨i,hi,o,rfl⟩
  ·have:=zBA (h.tens _ (Rx b)) ops a.H hl k l hs a.a[j].j;show tenP (keyOfV a.A a.a[j].j) (ofLR a.a[j].j (a.x++_)) _;rw[zny];have e:ofLR a.a[j].j [(⟨a.a[j].j,a.H,a.a[j].m.c+1,sealB (keyOfV a.A a.a[j].j) a.H (a.a[j].m.c+1) ops,false⟩:A5)]= [⟨a.a[j].j,a.H,a.a[j].m.c+1,sealB (keyOfV a.A a.a[j].j) a.H (a.a[j].m.c+1) ops,false⟩]:=by unfold ofLR;simp
   rw[e];trivial
  ·have:=h.tens _ (Rx hi);have q:=h.ne hi b o;show tenP (keyOfV a.A a.a[i].j) (ofLR a.a[i].j (a.x++_)) _;rw[zny];have e:ofLR a.a[i].j [(⟨a.a[j].j,a.H,a.a[j].m.c+1,sealB (keyOfV a.A a.a[j].j) a.H (a.a[j].m.c+1) ops,false⟩:A5)]= []:=by unfold ofLR;grind
   rw[e,Td];trivial
 ·have u:r.r∈a.a.map Ar.j:=by
   rcases Sx.1 d with d | d
   ·obtain ⟨t,g,e⟩:=h.rows r d;grind
   ·grind
  grind
def zzI (h:storeP s) (j:Nat) (d:j<s.a.length) (ops:List Op):storeP (writeS s (j:Int) ops).1:=by
 unfold writeS;by_cases k:120<=s.P.length
 ·simp_all
 ·rw[dF k];cases l:batchV ops with
  | false=>exact h
  | true=>
    cases Dc ((bytesN (applyK (mapR (tenE s.a (j:Int)).m (tenE s.a (j:Int)).m.c) ops):Int)>quoV (-1) s.s (tenE s.a (j:Int)).j) with
    | true=>exact h
    | false=>
      cases b:okB (tenE (roomS s (j:Int)).a (j:Int)).m ops&& !Dc (sealB (keyOfV s.A (tenE s.a (j:Int)).j) s.H ((tenE s.a (j:Int)).m.c+1) ops= []) with
      | false=>exact h
      | true=>
        obtain ⟨r1,r2,n,p,q,t,e,o,f,g⟩:=zvz s j d;have i:j<(roomS s (j:Int)).a.length:=by omega
        rw[Sg,Wq,decide_eq_false_iff_not]at b;rw[zg _ j i]at e o f b;rw[zg _ j d,<-e,<-f,<-r2,<-n]at b;rw[<-e]at g;exact zA9 (zAq h j d) j i ops (by omega) g b.1 l b.2
def zv6 (h:storeP s) (j:Nat) (d:j<s.a.length) (l:List Int) (hl:l.length<=2) (e:engV ⟨s.a[j].m.G,s.a[j].m.D,s.a[j].m.c,l⟩=true):storeP (withE s (j:Int) l):=by unfold withE;rw[zg _ j d];have b:=h.tens _ (Rx d);exact zv7 h j d _ rfl ⟨b.ep,b.base,hl,b.tabs,e,b.few,b.seq,b.seqs,b.start,b.runs,b.mem⟩
theorem zAu (h:storeP s) (j:Nat) (b:j<s.a.length):storeP (snapS s (j:Int)).1:=by
 unfold snapS;rw[zg _ j b];have d:=h.tens _ (Rx b);by_cases e:s.a[j].m.c∈s.a[j].m.u
 ·simp_all
 ·by_cases f:2<=s.a[j].m.u.length
  ·simp_all
  ·rw[dF e,dF f];have:=zAt d.eng;unfold snapR at this;rw[iP d.eng,iN e,iN (by omega)]at this;exact zv6 h j b _ (by grind) this
def zyy (l:List Int) (x:Int):(dropS l x).length<=l.length:=Tk _ _
def zz6 (h:storeP s) (j:Nat) (b:j<s.a.length) (c:At):storeP (heldS s (j:Int) c).1:=by
 unfold heldS;rw[zg _ j b];have d:=h.tens _ (Rx b);by_cases e:c.N∈s.a[j].m.u
 ·rw[dT e];cases Dc (c.B=10) with
  | true=>exact h
  | false=>have:=zwb d.eng c.N;unfold engDropR at this;rw[iP d.eng,iP e]at this;have hl:=zyy s.a[j].m.u c.N;have hs:=d.snaps;exact zv6 h j b _ (by omega) this
 ·simp_all
def zBi (h:storeP s) (j:Nat) (b:j<s.a.length) (c:At):storeP (tenS s (j:Int) c).1:=by
 unfold tenS;cases Dc (c.B=5) with
 | true=>exact zzI h j b _
 | false=>
 cases Dc (c.B=6) with
 | true=>exact h
 | false=>
 cases Dc (c.B=7) with
 | true=>exact h
 | false=>
 cases Dc (c.B=8) with
 | true=>exact zAu h j b
 | false=>
 cases Dc (c.B=11) with
 | true=>exact h
 | false=>exact zz6 h j b c
def zzO (h:storeP s) (c:At):storeP (callS s c).1:=by
 unfold callS;rcases zb2 s.a (tokR s.E c.U).1 with ⟨j,b,e,_,_⟩ | ⟨e,_⟩
 ·rw[e];cases (!(tokR s.E c.U).2.2||(Dc ((j:Int)<0)|| !Dc ((tenE s.a (j:Int)).I=(tokR s.E c.U).2.1))) with
  | true=>exact h
  | false=>exact zBi h j b c
 ·simp_all
def zA7 (h:storeP s) (c:At):storeP (ownS s c).1:=by
 unfold ownS;rcases zb2 s.a c.r with ⟨j,b,e,d,_⟩ | ⟨e,_⟩
 ·rw[e,dF,cond_false];cases Dc (c.B=2) with
  | true=>exact zze h c ⟨_,Rx b,d⟩
  | false=>
  cases Dc (c.B=3) with
  | true=>exact zxU h _
  | false=>
  cases Dc (c.B=4) with
  | true=>exact zx1 h j b
  | false=>exact zlx h j b
 ·simp_all
def zBt (h:storeP s) (hs:syncP s.x) (c:At):storeP (doS s c).1:=by
 unfold doS;cases Dc (c.B=1) with
 | true=>exact zxr h c
 | false=>
 cases Dc (c.B=12) with
 | true=>exact zAA h
 | false=>
 cases Dc (c.B=14) with
 | true=>exact zyq h hs _
 | false=>
 cases Dc (2<=c.B/\c.B<=4)||decide (c.B=13) with
 | true=>exact zA7 h c
 | false=>
 cases Dc (5<=c.B/\c.B<=11) with
 | false=>exact h
 | true=>exact zzO h c
end Go.Proofs.YtbpngbeifojdeaaGreat
