/-
  The plain laws: what the pure functions come to, and the statements. Conditions: none.
-/
import Derived.Test.YtdpainahgcdflaaGreatQza
set_option linter.unusedVariables false
set_option linter.unusedSimpArgs false
set_option linter.defProp false
open Decidable renaming decide->Dc
open Option renaming bind_some->An
open Bool renaming false_eq_true->Ba,not_true->Cg,and_eq_true->Cu,not_eq_true'->Eb,not_false->Ec,true_and->Eh,and_self->Eu,not_eq_false'->Fi,false_and->Fw,false_or->Fx,and_true->Fz
open List renaming length_append->Bf,drop_eq_getElem_cons->Bh,pairwise_cons->Bl,append_assoc->Bm,take_of_length_le->Bo,drop_of_length_le->Bp,take_append_drop->Bt,eq_nil_of_length_eq_zero->Bw,nil_append->By,filter_append->Bz,getElem_of_mem->Cj,pairwise_iff_getElem->Cq,length_drop->Cr,pairwise_append->Cv,append_nil->Cx,mem_cons->Da,cons_append->Db,length_take->Dd,getElem_mem->De,filter_cons_of_neg->Df,take_succ_cons->Dh,mem_append->Di,drop_drop->Dj,length_singleton->Dk,mem_filter->Dl,getElem?_eq_getElem->Dn,drop_zero->Do,all_eq_true->Ds,mem_flatten->Du,filter_eq_nil_iff->Dx,mem_cons_of_mem->Ed,length_cons->Ee,take_length->Eg,length->Ej,set_append_right->Ek,drop_length->El,takeWhile_append_dropWhile->Em,drop_append_of_le_length->Ep,exists_mem_of_ne_nil->Ev,flatten_cons->Ew,filter_cons_of_pos->Ez,take_zero->Fa,flatten_append->Ff,mem_cons_self->Fj,take_add_one->Fm,foldl_append->Fq,drop_append->Fs,length_nil->Ft,take_nil->Gb
open Nat renaming lt_or_ge->Ct,le_refl->Cy,pow_le_pow_right->Dm,mod_eq_of_lt->Dp,zero_le->Dq,lt_trichotomy->Ea,min_eq_left->Ei,mul_le_mul_right->Eo,le_trans->Ey,mul_le_mul_left->Fc,add_sub_cancel->Fh,zero_add->Fk,sub_self->Fl,mod_lt->Fv,pow_succ->Ge,zero_mul->Gf
open Int renaming toNat_natCast->Dg,le_refl->En,tmod->Gg,tdiv->Gi
open Option.some renaming injEq->Dy
open Prod.mk renaming injEq->Et
open UInt8 renaming toNat->Gj
noncomputable section
open Go.IntKind renaming i64->I6
namespace Go.Proofs.YtdpainahgcdflaaGreat
open Go Sl
variable {α κ ρ R τ:Type} {e:Aa} {t rest key s nonce secret x:List UInt8} {a:Nat} {K:α->κ} {l:List Ac} {b:List α} {n counter:Int} {o:Op} {m:List KV} {bad:Bool}
def zpC (f:Nat) (x:UInt8):varN f (numV [x])= [x]↔x.toNat<128:=by
 have a:x.toNat % 128<128:=Fv _ (by decide);rw[show numV [x]=x.toNat % 128 by rfl,zhw a];constructor
 ·intro h;have b:toU8 ((x.toNat % 128:Nat):Int)=x:=by simp_all
  have c:=congrArg Gj b;rw[zgr]at c;omega
 ·intro h;rw[Dp h,zoJ]
theorem zlb (f:Nat) (x:UInt8) (l:List UInt8) (hl:l≠[]):varN (f+1) (numV (x::l))=x::l↔128<=x.toNat/\numV l≠0/\varN f (numV l)=l:=by
 have i:x.toNat % 128<128:=Fv _ (by decide);have j:=x.toNat_lt;have c:(x.toNat % 128+128*numV l) % 128=x.toNat % 128:=by omega
 have d:(x.toNat % 128+128*numV l) / 128=numV l:=by omega
 by_cases e:numV l=0
 ·rw[numV,e,zhw (by omega)];simp_all
 ·rw[numV,zkq (by omega),c,d];constructor
  ·intro h;obtain ⟨a,b⟩:=List.cons.inj h;have g:=congrArg Gj a;rw[zgr]at g;grind
  ·rintro ⟨a,_,b⟩;rw[b,show 128+x.toNat % 128=x.toNat by omega,zoJ]
theorem zdJ: ∀(f:Nat) (s:List UInt8) (n k:Nat),readN f s=some (n,k)->1<=k/\k<=f/\k<=s.length/\n=numV (s.take k)/\varN (f - 1) n=s.take k/\∀g j,1<=j->j<=g+1->j<=s.length->varN g (numV (s.take j))=s.take j->j=k
 | 0,s,n,k,h=>by cases h
 | f+1,[],n,k,h=>by cases h
 | f+1,x::l,n,k,h=>by
   rw[readN]at h;by_cases b:x.toNat<128
   ·rw[decide_eq_true b]at h;simp only[cond_true,Dy,Et]at h;obtain ⟨rfl,rfl⟩:=h;have c:x.toNat % 128=x.toNat:=Dp b;refine ⟨Cy _,by omega,by simp,by simp[numV,c],?_,λg j i o q a=>?_⟩
    ·have:=(zpC (f+1 - 1) x).2 b;rw[show numV [x]=x.toNat by trivial]at this;trivial
    ·cases j with
     | zero=>omega
     | succ j=>
       cases j with
       | zero=>rfl
       | succ j=>
         cases g with
         | zero=>omega
         | succ g=>rw[Dh]at a;have:=(zlb g x (l.take (j+1)) (zoI (by omega) (by simp_all))).1 a;omega
   ·rw[decide_eq_false b]at h;simp only[cond_false]at h;cases d:readN f l with
    | none=>rw[d]at h;cases h
    | some p=>
      obtain ⟨m,k'⟩:=p;rw[d]at h;simp only at h;by_cases c:m=0
      ·simp_all
      ·rw[decide_eq_false c]at h;simp only[cond_false,Dy,Et]at h;obtain ⟨rfl,rfl⟩:=h;obtain ⟨t,z,u,e,v,A⟩:=zdJ f l m k' d;have w:l.take k'≠[]:=zoI t u;refine ⟨by omega,by omega,by simp_all,by rw[Dh,numV,<-e],?_,λg j i o q a=>?_⟩
       ·rw[Dh,Fh];obtain ⟨B,rfl⟩: ∃B,f=B+1:=⟨f - 1,by omega⟩;rw[Fh]at v;have:=(zlb B x (l.take k') w).2 ⟨by omega,by omega,by simp_all⟩;rw[numV,<-e]at this;trivial
       ·cases j with
        | zero=>omega
        | succ j=>
          cases j with
          | zero=>rw[Dh,Fa]at a;exact absurd ((zpC g x).1 a) b
          | succ j=>
            cases g with
            | zero=>omega
            | succ g=>
              rw[Dh]at a;have y:j+1<=l.length:=by simp_all
              have:=(zlb g x (l.take (j+1)) (zoI (by omega) y)).1 a;grind
theorem zra: ∀(f:Nat) (s:List UInt8),readN f s=none->∀g j,1<=j->j<=f->j<=g+1->j<=s.length->varN g (numV (s.take j))≠s.take j
 | 0,s,h=>λg j c d=>by omega
 | f+1,[],h=>λg j c d k n=>by simp_all
 | f+1,x::l,h=>by
   intro g j q t u v a;rw[readN]at h;by_cases e:x.toNat<128
   ·simp_all
   ·rw[decide_eq_false e]at h;simp only[cond_false]at h;cases j with
    | zero=>omega
    | succ j=>
      cases j with
      | zero=>rw[Dh,Fa]at a;exact e ((zpC g x).1 a)
      | succ j=>
        cases g with
        | zero=>omega
        | succ g=>
          rw[Dh]at a;have i:j+1<=l.length:=by simp_all
          obtain ⟨w,y,o⟩:=(zlb g x (l.take (j+1)) (zoI (by omega) i)).1 a;cases b:readN f l with
          | none=>exact zra f l b g (j+1) (by omega) (by omega) (by omega) i o
          | some p=>
            obtain ⟨m,k'⟩:=p;rw[b]at h;simp only at h;by_cases z:m=0
            ·obtain ⟨c,d,k,n,A,B⟩:=zdJ f l m k' b;grind
            ·simp_all
def readR:Option (Nat × Nat)->Int × Int
 | some (n,k)=>((n:Int),(k:Int))
 | none=>(0,0)
def readI (n i:Nat):Option (Nat × Nat)->Int × Int
 | some (m,k)=>bif Dc (m=0/\0<i) then (0,0) else (((n+128 ^ i*m:Nat):Int),((i+k:Nat):Int))
 | none=>(0,0)
def zw6 (p:Option (Nat × Nat)):readI 0 0 p=readR p:=by
 cases p with
 | none=>rfl
 | some p=>simp[readI,readR]
theorem zw5 (n i f:Nat) (x:UInt8) (l:List UInt8) (b: ¬x.toNat<128):readI n i (readN (f+1) (x::l))=readI (n+128 ^ i*(x.toNat % 128)) (i+1) (readN f l):=by
 rw[readN,decide_eq_false b];simp only[cond_false];cases readN f l with
 | none=>rfl
 | some p=>
   obtain ⟨m,k⟩:=p;simp only;by_cases a:m=0
   ·simp[a,readI]
   ·rw[decide_eq_false a];simp only[cond_false,readI];grind
def zz4 (n d i:Nat) (h:n<2 ^ (7*i)):n ||| d*2 ^ (7*i)=n+2 ^ (7*i)*d:=by rw[Nat.or_comm,Nat.mul_comm,<-Nat.two_pow_add_eq_or_of_lt h];omega
def pow128 (i:Nat):128 ^ i=2 ^ (7*i):=by rw[Nat.pow_mul]
def zhI (s:List UInt8) (hs:s.length<=1099511627776):zhH s=some (readR (readN 7 s)):=by
 unfold zhH;obtain ⟨r,l,m⟩:=zbr (ρ:=Ctl Unit (Int × Int)) (s0:=((0:Int),(0:Int))) (body:=λ(A:Int × Int)=>(if (Dc (A.2<(7:Int)))=true then (some (Dc (A.2<(s.length:Int))))
 else (some false)).bind (λ(E:Bool)=>
 if E=true then ((sidx s A.2).bind λB=>
 if (Dc (((B.toNat:Nat):Int)>=(128:Int)))=true then (some (.go (ior .i64 A.1 (ishl .i64 (I6.wrap (iand .u8 ((B.toNat:Nat):Int) (127:Int))) (IntKind.u64.wrap (I6.wrap ((7:Int)*A.2)))),I6.wrap (A.2+(1:Int)))))
 else ((if (Dc (((B.toNat:Nat):Int)=(0:Int)))=true then (some (Dc (A.2>(0:Int))))
 else (some false)).bind (λ(D:Bool)=>
 if D=true then (some (.done (.done ((0:Int),(0:Int)))))
 else (some (.done (.done (ior .i64 A.1 (ishl .i64 (I6.wrap (iand .u8 ((B.toNat:Nat):Int) (127:Int))) (IntKind.u64.wrap (I6.wrap ((7:Int)*A.2)))),I6.wrap (A.2+(1:Int)))))))))
 else (some (.done (.go ())))))
  (λi S=>S.1=(numV (s.take i):Int)/\S.2=(i:Int)/\i<=s.length/\readR (readN 7 s)=readI (numV (s.take i)) i (readN (7 - i) (s.drop i))) 7 (λr=>r= .done (readR (readN 7 s))\/(r= .go ()/\readR (readN 7 s)=(0,0))) ⟨by simp[numV],rfl,Dq _,by simp[numV,zw6]⟩ (by
    rintro i ⟨n,j⟩ hi ⟨a,b,c,d⟩;simp only at a b;subst a b;rw[d];simp only;rw[decide_eq_true (by omega:((i:Int)<7))];simp only[if_true,An];by_cases hl:i<s.length
    ·have e:s.drop i=s[i]::s.drop (i+1):=Bh hl;have o:s.take (i+1)=s.take i++ [s[i]]:=by rw[Fm,Dn hl];rfl
     have v:=s[i].toNat_lt;have g:=zko (s.take i);rw[Dd,Ei c,pow128]at g;have p:2 ^ (7*i)<=2 ^ 42:=Dm (by decide) (by omega);have w:s[i].toNat % 128<128:=Fv _ (by decide);have F:iand .u8 ((s[i].toNat:Nat):Int) (127:Int)=((s[i].toNat % 128:Nat):Int):=by rw[show (127:Int)=((127:Nat):Int) from rfl,iand8 (by omega) (by decide),show s[i].toNat &&& 127=s[i].toNat % 128 from Nat.and_two_pow_sub_one_eq_mod _ 7]
     have G:IntKind.u64.wrap (I6.wrap ((7:Int)*(i:Int)))=((7*i:Nat):Int):=by rw[za (by omega) (by omega),wrap64u];omega
     have x:s[i].toNat % 128*2 ^ (7*i)<=127*2 ^ 42:=Nat.mul_le_mul (by omega) p;have I:ior .i64 (numV (s.take i):Int) (ishl .i64 (I6.wrap ((s[i].toNat % 128:Nat):Int)) ((7*i:Nat):Int))=((numV (s.take i)+128 ^ i*(s[i].toNat % 128):Nat):Int):=by rw[za (by omega) (by omega),ishl64 (by omega) (by omega),ior64 (by omega) (by omega),zz4 _ _ _ g,pow128]
     rw[decide_eq_true (by omega:(i:Int)<(s.length:Int)),zdg s i hl,e];simp only[if_true,An,F,G,I];rw[za (by omega) (by omega),show 7 - i=(7 - (i+1))+1 by omega];by_cases f:s[i].toNat<128
     ·right;refine ⟨_,?_,.inl rfl⟩;rw[decide_eq_false (by omega: ¬((s[i].toNat:Nat):Int)>=128),readN,decide_eq_true f];simp only[Ba,if_false,cond_true,readI];have q:s[i].toNat % 128=s[i].toNat:=Dp f;rw[q];by_cases t:s[i].toNat=0
      ·by_cases u:0<i
       ·rw[decide_eq_true (⟨t,u⟩:s[i].toNat=0/\0<i),decide_eq_true (by omega:((s[i].toNat:Nat):Int)=0),decide_eq_true (by omega:(i:Int)>0)];rfl
       ·rw[decide_eq_false (by omega: ¬(s[i].toNat=0/\0<i)),decide_eq_true (by omega:((s[i].toNat:Nat):Int)=0),decide_eq_false (by omega: ¬(i:Int)>0)];rfl
      ·rw[decide_eq_false (by omega: ¬(s[i].toNat=0/\0<i)),decide_eq_false (by omega: ¬((s[i].toNat:Nat):Int)=0)];rfl
     ·left;rw[decide_eq_true (by omega:((s[i].toNat:Nat):Int)>=128)];have k:numV (s.take (i+1))=numV (s.take i)+128 ^ i*(s[i].toNat % 128):=by rw[o,zs7,Dd,Ei c]
      refine ⟨(_,_),rfl,by rw[k],by simp,by omega,?_⟩;rw[zw5 _ _ _ _ _ f,k]
    ·right;have e:s.drop i= []:=List.drop_eq_nil_of_le (by omega);rw[decide_eq_false (by omega: ¬(i:Int)<(s.length:Int)),e,show 7 - i=(7 - (i+1))+1 by omega];exact ⟨.go (),rfl,.inr ⟨rfl,rfl⟩⟩) (by
    rintro ⟨n,j⟩ ⟨a,b,c,d⟩;simp only at a b;subst a b;exact ⟨.go (),rfl,.inr ⟨rfl,d⟩⟩)
 rw[l];rcases m with rfl | ⟨rfl,h⟩
 ·rfl
 ·rw[h];rfl
def zfN (s:List UInt8) (a b:Nat) (c:a<=b) (d:b<=s.length):ssub s (a:Int) (b:Int)=some ((s.drop a).take (b - a)):=by unfold ssub;simp_all
def zm0 (s:List UInt8) (a:Nat) (h:a<=s.length):ssub s (a:Int) (s.length:Int)=some (s.drop a):=by rw[zfN s a s.length h (Cy _),Bo (by simp)]
theorem zyQ (s:List UInt8) (k:Nat) (d:1<=k) (e:k<=7) (f:k<=s.length):
 loopO (ρ:=Ctl Int ρ) (λ(A:Int × Int)=>if (Dc (A.2>=(0:Int)))=true then ((sidx s A.2).bind λB=>
 some (.go (I6.wrap (I6.wrap (A.1*(128:Int))+(Gg (I6.wrap ((B.toNat:Nat):Int)) (128:Int))),I6.wrap (A.2 - (1:Int)))))
 else (some (.done (.go A.1))))
 ((0:Int),(k:Int) - 1)=some (.go (numV (s.take k):Int)):=by
 have g:(s.take k).length=k:=by simp_all
 rw[zl (λt=>((numV ((s.take k).drop (k - t)):Int),(k:Int) - 1 - (t:Int))) k (r:=Ctl.go (numV (s.take k):Int)) ?h0]
 case h0=>rw[show k - 0=k by omega,Bp (by omega)];simp[numV]
 ·intro t h;have hi:(k:Int) - 1 - (t:Int)=((k - 1 - t:Nat):Int):=by omega
  have b:(s.take k).drop (k - (t+1))=s[k - 1 - t]::(s.take k).drop (k - t):=by rw[show k - (t+1)=k - 1 - t by omega,Bh (by omega),List.getElem_take];grind
  have i:=(s[k - 1 - t]).toNat_lt;have a:=zko ((s.take k).drop (k - t));have hl:((s.take k).drop (k - t)).length=t:=by grind
  rw[hl]at a;have j:128 ^ t<=128 ^ 6:=Dm (by decide) (by omega);have c:Gg (((s[k - 1 - t]).toNat:Nat):Int) (128:Int)=(((s[k - 1 - t]).toNat % 128:Nat):Int):=by rfl
  simp only[hi,zdg s (k - 1 - t) (by omega),An];rw[if_pos (by rfl),za (n:=(((s[k - 1 - t]).toNat:Nat):Int)) (by omega) (by omega),c,b,numV];generalize numV ((s.take k).drop (k - t))=z at a;rw[za (n:=(z:Int)*128) (by omega) (by omega),za (by omega) (by omega),za (by omega) (by omega)];grind
 ·grind
def zrk (s:List UInt8) (hs:s.length<=1099511627776):zfK s=some (readR (readN 7 s)):=by
 unfold zfK;obtain ⟨r,a,m⟩:=zbr (ρ:=Ctl Unit (Int × Int)) (s0:=(1:Int)) (body:=λ(A:Int)=>(if (Dc (A<=(7:Int)))=true then (some (Dc (A<=(s.length:Int))))
 else (some false)).bind (λ(I:Bool)=>
 if I=true then (bindC (loopO (λ(B:Int × Int)=>if (Dc (B.2>=(0:Int)))=true then ((sidx s B.2).bind λE=>
 some (.go (I6.wrap (I6.wrap (B.1*(128:Int))+(Gg (I6.wrap ((E.toNat:Nat):Int)) (128:Int))),I6.wrap (B.2 - (1:Int)))))
 else (some (.done (.go B.1))))
 ((0:Int),I6.wrap (A - (1:Int))))
 (λ(D:Int)=>(ssub s 0 A).bind λF=>
 (zeN D).bind λG=>
 if (Dc (G=F))=true then (some (.done (.done (D,A))))
 else (some (.go (I6.wrap (A+(1:Int)))))))
 else (some (.done (.go ())))))
  (λi S=>S=((i+1:Nat):Int)/\∀j,1<=j->j<=i->j<=s.length->varN 6 (numV (s.take j))≠s.take j) 7 (λr=>(∃n k,readN 7 s=some (n,k)/\r= .done ((n:Int),(k:Int)))\/(readN 7 s=none/\r= .go ())) ⟨rfl,λj b l=>by omega⟩ (by
    rintro i S hi ⟨rfl,h⟩;rw[decide_eq_true (by omega:((i+1:Nat):Int)<=7)];simp only[if_true,An];by_cases hl:i+1<=s.length
    ·rw[decide_eq_true (by omega:((i+1:Nat):Int)<=(s.length:Int)),za (n:=((i+1:Nat):Int) - 1) (by omega) (by omega)];simp only[if_true];rw[zyQ s (i+1) (by omega) (by omega) hl];have o:ssub s 0 ((i+1:Nat):Int)=some (s.take (i+1)):=zfN s 0 (i+1) (by omega) hl;have q:=zko (s.take (i+1));rw[Dd,Ei hl]at q;have v:128 ^ (i+1)<=128 ^ 7:=Dm (by decide) (by omega);have t:varV (numV (s.take (i+1)):Int)=varN 6 (numV (s.take (i+1))):=by unfold varV;rw[decide_eq_true (by omega),cond_true,Dg]
     simp only[zd,o,An,zja,t];by_cases c:varN 6 (numV (s.take (i+1)))=s.take (i+1)
     ·right;rw[decide_eq_true c];refine ⟨_,rfl,.inl ⟨numV (s.take (i+1)),i+1,?_,rfl⟩⟩;cases a:readN 7 s with
      | none=>exact absurd c (zra 7 s a 6 (i+1) (by omega) (by omega) (by omega) hl)
      | some p=>obtain ⟨n,k⟩:=p;obtain ⟨_,_,_,d,_,u⟩:=zdJ 7 s n k a;have:=u 6 (i+1) (by omega) (by omega) hl c;subst this;rw[d]
     ·left;rw[decide_eq_false c];refine ⟨_,rfl,by rw[za (by omega) (by omega)];omega,λj b l f=>?_⟩;by_cases e:j=i+1
      ·subst e;exact c
      ·exact h j b (by omega) f
    ·right;rw[decide_eq_false (by omega: ¬((i+1:Nat):Int)<=(s.length:Int))];refine ⟨.go (),rfl,.inr ⟨?_,rfl⟩⟩;cases a:readN 7 s with
     | none=>rfl
     | some p=>obtain ⟨n,k⟩:=p;obtain ⟨b,_,f,d,g,_⟩:=zdJ 7 s n k a;rw[d]at g;exact absurd g (h k b (by omega) f)) (by
    rintro S ⟨rfl,h⟩;refine ⟨.go (),rfl,.inr ⟨?_,rfl⟩⟩;cases a:readN 7 s with
    | none=>rfl
    | some p=>obtain ⟨n,k⟩:=p;obtain ⟨b,l,f,d,g,_⟩:=zdJ 7 s n k a;rw[d]at g;exact absurd g (h k b l f))
 rw[a];rcases m with ⟨n,k,e,rfl⟩ | ⟨e,rfl⟩
 ·rw[e];rfl
 ·rw[e];rfl
def l6V (s:List UInt8):Nat->Nat->List Int × Int
 | 0,a=>([],(a:Int))
 | n+1,a=>bif Dc (s.length<a) then ([],-1) else match readN 7 (s.drop a) with
   | some (x,k)=>((x:Int)::(l6V s n (a+k)).1,(l6V s n (a+k)).2)
   | none=>([],-1)
def zgn (s:List UInt8) (a n:Nat) (hs:s.length<=1099511627776) (f:n<=1048576) (b:a<=2199023255552):zbN s (a:Int) (n:Int)=some (l6V s n a):=by
 unfold zbN;have key: ∀(m i a:Nat) (A:List Int),i+m=n->A.length=i->a<=2199023255552->
  bindC (loopO (λ(B:Int × Int × List Int)=>if (Dc (B.2.1<(n:Int)))=true then ((if (Dc (B.1<(0:Int)))=true then (some true)
 else (some (Dc (B.1>(s.length:Int))))).bind (λ(I:Bool)=>
 if I=true then (some (.done (.done (B.2.2,(-1:Int)))))
 else ((ssub s B.1 (s.length:Int)).bind λE=>
 (zfK E).bind λD=>
 if (Dc (D.2=(0:Int)))=true then (some (.done (.done (B.2.2,(-1:Int)))))
 else ((app 8 B.2.2 ([D.1])).bind λF=>
 some (.go (I6.wrap (B.1+D.2),I6.wrap (B.2.1+(1:Int)),F))))))
 else (some (.done (.go (B.1,B.2.2)))))
 ((a:Int),(i:Int),A)) (λ(G:Int × List Int)=>some (G.2,G.1))=some (A++(l6V s m a).1,(l6V s m a).2):=by
  intro m;induction m with
  | zero=>intro i a A hi c b;rw[zz];simp only;rw[if_neg (by simp only[decide_eq_true_eq];omega)];simp[l6V]
  | succ m ih=>
    intro i a A hi c b;rw[zz];simp only;rw[if_pos (by simp only[decide_eq_true_eq];omega),decide_eq_false (by omega: ¬(a:Int)<0)];simp only[Ba,if_false,An,l6V];by_cases hl:s.length<a
    ·rw[decide_eq_true hl,decide_eq_true (by omega:(a:Int)>(s.length:Int))];simp
    ·rw[decide_eq_false hl,decide_eq_false (by omega: ¬(a:Int)>(s.length:Int))];simp only[Ba,if_false,zm0 s a (by omega),An,zrk (s.drop a) (by simp;omega),cond_false];cases d:readN 7 (s.drop a) with
     | none=>simp[readR]
     | some p=>obtain ⟨x,k⟩:=p;obtain ⟨g,h,_⟩:=zdJ 7 _ x k d;have e:Dc ((readR (some (x,k))).2=0)=false:=decide_eq_false (by show ¬(k:Int)=0;omega);rw[e];simp only[Ba,if_false,readR];rw[zg (by simp;omega) (by simp;omega)];simp only[An];rw[za (n:=(a:Int)+(k:Int)) (by omega) (by omega),za (n:=(i:Int)+1) (by omega) (by omega)];have:=ih (i+1) (a+k) (A++ [(x:Int)]) (by omega) (by simp;omega) (by omega);rw[show ((a:Int)+(k:Int))=((a+k:Nat):Int) by omega,show ((i:Int)+1)=((i+1:Nat):Int) by omega,this,Bm];rfl
 have:=key n 0 a [] (by omega) rfl b;simpa using this
def nonceV (kind n:Int):List UInt8:=bif Dc (0<=kind/\kind<=255)&&Dc (0<=n/\n<=562949953421311) then [toU8 kind,0,0,0,0]++fixedV n 7 else []
theorem zlF (n:Int) (h:0<=n/\n<=562949953421311):(fixedV n 7).length=7:=by unfold fixedV;have a:n.toNat / 256 ^ (7:Int).toNat=0:=Nat.div_eq_of_lt (by grind);rw[decide_eq_true h.1,decide_eq_true a];rfl
theorem ziq (kind n:Int):zeq kind n=some (nonceV kind n):=by
 unfold zeq nonceV;rw[zbm,zbm];by_cases b:0<=kind/\kind<=255
 ·by_cases a:0<=n/\n<=562949953421311
  ·rw[decide_eq_true b,decide_eq_true a];simp only[An,Cg,Ba,if_false,Eu,cond_true,zt2 n 7 (by omega)];rw[zcv (by rw[zlF n a];simp)];rfl
  ·grind
 ·grind
theorem zhG (kind n:Int):zfw kind n=some (nonceV kind n):=by
 unfold zfw nonceV;rw[z6,z6];by_cases b:0<=kind/\kind<=255
 ·by_cases a:0<=n/\n<=562949953421311
  ·rw[decide_eq_true b,decide_eq_true a];simp only[An,Cg,Ba,if_false,Eu,cond_true,ztF n 7 (by omega)];rw[zcv (by rw[zlF n a];simp)];rfl
  ·grind
 ·grind
def zvo: ∀(f n:Nat),(varN f n).length<=f+1
 | 0,n=>Cy _
 | f+1,n=>by
   by_cases h:n<128
   ·rw[zhw h];simp
   ·rw[zkq (by omega),Ee];have:=zvo f (n / 128);omega
def zdX (n:Int):(varV n).length<=7:=by
 unfold varV;cases Dc (0<=n/\n<=562949953421311)
 ·simp
 ·exact zvo 6 _
def mintOk (secret:List UInt8) (t e:Int):Bool:=Dc (secret.length=32)&&(Dc (1<=t/\t<=99)&&Dc (0<=e/\e<=1000000))
def zmM {t e:Int} (h:mintOk secret t e=true):secret.length=32/\(1<=t/\t<=99)/\0<=e/\e<=1000000:=by unfold mintOk at h;simp_all
def mintV (secret:List UInt8) (t e:Int):List UInt8:=bif mintOk secret t e then varV t++varV e++(chaV secret e (nonceV 2 t)).take 8 else []
theorem zpZ {t e:Int} (h:mintOk secret t e=true):(chaV secret e (nonceV 2 t)).length=64:=by
 obtain ⟨a,b,c⟩:=zmM h;refine zkr _ _ _ ?_;have d:(nonceV 2 t).length=12:=by unfold nonceV;rw[decide_eq_true (by trivial),decide_eq_true (by omega)];simp only[Eu,cond_true,Bf,zlF t (by omega)];rfl
 unfold chaOk;grind
theorem zgx (secret:List UInt8) (t e:Int):zc6 secret t e=some (mintV secret t e):=by
 unfold zc6 mintV;have b:Dc ((secret.length:Int)=32)=Dc (secret.length=32):=decide_eq_decide.2 (by omega);rw[b,zbm,zbm];cases a:mintOk secret t e with
 | true=>have g:=zpZ a;obtain ⟨c,d,f⟩:=zmM a;have h:=zdX t;have i:=zdX e;rw[decide_eq_true c,decide_eq_true d,decide_eq_true f];simp only[An,Cg,Ba,if_false,cond_true,zja,ziq,zhg];rw[zcv (by omega)];simp only[An];rw[show ssub (chaV secret e (nonceV 2 t)) 0 (8:Int)=some ((chaV secret e (nonceV 2 t)).take 8) from zfN _ 0 8 (by omega) (by omega)];simp only[An];rw[zcv (by grind)];rfl
 | false=>unfold mintOk at a;grind
theorem zd2 (secret:List UInt8) (t e:Int):zc2 secret t e=some (mintV secret t e):=by
 unfold zc2 mintV zbK zbp;have b:Dc ((secret.length:Int)=32)=Dc (secret.length=32):=decide_eq_decide.2 (by omega);rw[b,z6,z6];cases a:mintOk secret t e with
 | true=>have g:=zpZ a;obtain ⟨c,d,f⟩:=zmM a;have h:=zdX t;have i:=zdX e;rw[decide_eq_true c,decide_eq_true d,decide_eq_true f];simp only[An,Cg,Ba,if_false,cond_true,zlG,zhG,zkw];rw[zcv (by omega)];simp only[An];rw[show ssub (chaV secret e (nonceV 2 t)) 0 (8:Int)=some ((chaV secret e (nonceV 2 t)).take 8) from zfN _ 0 8 (by omega) (by omega)];simp only[An];rw[zcv (by grind)];rfl
 | false=>unfold mintOk at a;grind
theorem zjr {n k:Nat} (h:readN 7 s=some (n,k)):varV (n:Int)=s.take k/\k<=s.length/\1<=k/\k<=7:=by obtain ⟨c,a,b,d,f,_⟩:=zdJ 7 s n k h;have e:=zko (s.take k);rw[Dd,Ei b,<-d]at e;have g:128 ^ k<=128 ^ 7:=Dm (by decide) a;refine ⟨?_,b,c,a⟩;unfold varV;grind
def tokR (secret s:List UInt8):Int × Int × Bool:=match readN 7 s with
 | none=>(0,0,false)
 | some (t,a)=>match readN 7 (s.drop a) with
   | none=>(0,0,false)
   | some (e,_)=>bif Dc (mintV secret t e=s) then ((t:Int),(e:Int),true) else (0,0,false)
theorem zyP {t a e b:Nat} (f:readN 7 s=some (t,a)) (g:readN 7 (s.drop a)=some (e,b)) (c:mintV secret t e=s):s.length=a+b+8:=by
 obtain ⟨i,j,k,_⟩:=zjr f;obtain ⟨l,h,m,_⟩:=zjr g;rw[Cr]at h;unfold mintV at c;cases d:mintOk secret t e with
 | false=>simp_all
 | true=>rw[d]at c;have n:=zpZ d;grind
theorem zo6 (secret s:List UInt8) (hs:s.length<=1099511627776):zgh secret s=some (tokR secret s):=by
 unfold zgh tokR;rw[show zbN s (0:Int) (2:Int)=some (l6V s 2 0) from zgn s 0 2 hs (by decide) (by decide)];simp only[An];cases a:readN 7 s with
 | none=>
   have e:l6V s 2 0=([],-1):=by rw[l6V,decide_eq_false (by omega),cond_false,Do,a]
   simp_all
 | some p=>
   obtain ⟨t,b⟩:=p;obtain ⟨h,i,j,_⟩:=zjr a;simp only;cases k:readN 7 (s.drop b) with
   | none=>
     have e:l6V s 2 0=([(t:Int)],-1):=by rw[l6V,decide_eq_false (by omega),cond_false,Do,a];simp only[Fk,l6V];simp_all
     simp_all
   | some q=>
     obtain ⟨e,c⟩:=q;have ev:l6V s 2 0=([(t:Int),(e:Int)],((b+c:Nat):Int)):=by rw[l6V,decide_eq_false (by omega),cond_false,Do,a];simp only[Fk,l6V];grind
     have d: ¬s= []:=by grind
     have f:idx [(t:Int),(e:Int)] (0:Int)=some (t:Int):=rfl;have g:idx [(t:Int),(e:Int)] (1:Int)=some (e:Int):=rfl;rw[ev];simp only;rw[decide_eq_false (by omega),decide_eq_false d];simp only[Ba,if_false,f,g,An,zgx];grind
theorem zoO (secret s:List UInt8) (hs:s.length<=1099511627776):zfV secret s=some (tokR secret s):=by
 unfold zfV tokR zbl;simp only[Ba,if_false];rw[show ssub s (0:Int) (s.length:Int)=some s from zm0 s 0 (Dq _)];simp only[An,zhI s hs];cases d:readN 7 s with
 | none=>rfl
 | some p=>
   obtain ⟨t,a⟩:=p;obtain ⟨l,g,m,_⟩:=zjr d;have h:Dc ((readR (some (t,a))).2=0)=false:=decide_eq_false (by show ¬(a:Int)=0;omega);rw[h];simp only[Ba,if_false,An,readR];rw[za (n:=(0:Int)+(a:Int)) (by omega) (by omega),show (0:Int)+(a:Int)=((a:Nat):Int) by omega,zm0 s a g];simp only[An,zhI (s.drop a) (by grind)];cases f:readN 7 (s.drop a) with
   | none=>rfl
   | some q=>
     obtain ⟨e,b⟩:=q;obtain ⟨o,i,u,_⟩:=zjr f;rw[Cr]at i;have j:Dc ((readR (some (e,b))).2=0)=false:=decide_eq_false (by show ¬(b:Int)=0;omega);rw[j];simp only[Ba,if_false,An,readR];rw[za (n:=(a:Int)+(b:Int)) (by omega) (by omega)];unfold zbS zda;simp only[Ba,if_false,An];rw[za (n:=(s.length:Int) - ((a:Int)+(b:Int))) (by omega) (by omega)];by_cases c:mintV secret t e=s
     ·have hl:=zyP d f c;rw[decide_eq_true c,decide_eq_false (by omega)];simp only[Ba,if_false];rw[za (n:=(a:Int)+(b:Int)+8) (by omega) (by omega),za (n:=(a:Int)+(b:Int)+8 - 8) (by omega) (by omega)];rw[show (a:Int)+(b:Int)+8 - 8=((a+b:Nat):Int) by omega,show (a:Int)+(b:Int)+8=((a+b+8:Nat):Int) by omega,zfN s (a+b) (a+b+8) (by omega) (by omega)];simp only[An];rw[decide_eq_true (by omega)];simp only[Ec,Cg,if_true,An,Ba,if_false,zd2];simp_all
     ·rw[decide_eq_false c];by_cases k:(8:Int)>(s.length:Int) - ((a:Int)+(b:Int))
      ·simp_all
      ·rw[decide_eq_false k];simp only[Ba,if_false];rw[za (n:=(a:Int)+(b:Int)+8) (by omega) (by omega),za (n:=(a:Int)+(b:Int)+8 - 8) (by omega) (by omega)];rw[show (a:Int)+(b:Int)+8 - 8=((a+b:Nat):Int) by omega,show (a:Int)+(b:Int)+8=((a+b+8:Nat):Int) by omega,zfN s (a+b) (a+b+8) (by omega) (by omega)];simp only[An,zd2];simp_all
theorem passes {ρ:Type} (l:List α) (p:α->Bool) (body:Int->Option (Ctl Int (Ctl Unit Bool))) (h: ∀k (a:k<l.length),body (k:Int)=some (if p l[k]=true then .go ((k:Int)+1) else .done (.done false))) (c:body (l.length:Int)=some (.done (.go ()))):
 loopO body 0=some (if l.all p=true then .go () else .done false):=by
 rw[zb3 (λk s=>s=(k:Int)/\l.all p=(l.drop k).all p) l.length (if l.all p=true then Ctl.go () else Ctl.done false) ?h0 ?h1 ?h2]
 case h0=>exact ⟨rfl,rfl⟩
 ·rintro k s a ⟨rfl,b⟩;rw[h k a,b,Bh a,List.all_cons];grind
 ·simp_all
def pieceV (s:List UInt8):List UInt8:=varV (s.length:Int)++s
def zlz (s:List UInt8) (h:s.length<=1099511627776):zeu s=some (pieceV s):=by unfold zeu pieceV;have:=zdX (s.length:Int);rw[zja];simp only[An];rw[zcv (by omega)];rfl
def znd (s:List UInt8) (h:s.length<=1099511627776):zhT s=some (pieceV s):=by unfold zhT pieceV;have:=zdX (s.length:Int);rw[zlG];simp only[An];rw[zcv (by omega)];rfl
def zgd (s:List UInt8):(pieceV s).length<=7+s.length:=by have:=zdX (s.length:Int);unfold pieceV;simp_all
def zpB {α:Type} (g:α->List UInt8) (m:Nat): ∀(l:List α),(∀x∈l,(g x).length<=m)->(l.flatMap g).length<=m*l.length
 | [],_=>by simp
 | x::l,h=>by have a:=h x (by simp);have b:=zpB g m l λy c=>h y (by simp_all);rw[List.flatMap_cons,Bf,Ee,Nat.mul_succ];omega
def zsV (g:α->List UInt8) (l:List α) (k:Nat) (h:k<l.length):(l.take (k+1)).flatMap g=(l.take k).flatMap g++g l[k]:=by rw[Fm,Dn h,List.flatMap_append];simp
theorem zm8 (g:α->List UInt8) (m:Nat) (l:List α) (k:Nat) (h: ∀x∈l,(g x).length<=m):((l.take k).flatMap g).length<=m*l.length:=by have b:=zpB g m (l.take k) λx a=>h x (List.mem_of_mem_take a);have c:m*(l.take k).length<=m*l.length:=Fc _ (by grind);omega
def zzW (f n:Nat):varN f n≠[]:=by
 by_cases h:n<128
 ·rw[zhw h];simp
 ·cases f with
  | zero=>simp[varN]
  | succ f=>rw[zkq (by omega)];simp
def zzX (h:0<=n/\n<=562949953421311):varV n≠[]:=by unfold varV;rw[decide_eq_true h];exact zzW 6 _
theorem ztf: ∀(f n:Nat) (rest:List UInt8),n<128 ^ (f+1)->readN (f+1) (varN f n++rest)=some (n,(varN f n).length)
 | 0,n,rest,h=>by
   have a:n<128:=by trivial
   rw[zhw a];show readN 1 (toU8 (n:Int)::rest)=_;rw[readN,zgr,Dp (by omega),decide_eq_true a];rfl
 | f+1,n,rest,h=>by
   by_cases a:n<128
   ·rw[zhw a];show readN (f+2) (toU8 (n:Int)::rest)=_;rw[readN,zgr,Dp (by omega),decide_eq_true a];rfl
   ·have b:n / 128<128 ^ (f+1):=by omega
    rw[zkq (by omega),Db,readN,zgr,Dp (by omega),decide_eq_false (by omega),ztf f (n / 128) rest b];grind
def zog (n:Int) (h:0<=n/\n<=562949953421311) (rest:List UInt8):readN 7 (varV n++rest)=some (n.toNat,(varV n).length):=by unfold varV;rw[decide_eq_true h];exact ztf 6 n.toNat rest (by omega)
def ze5 {n k:Nat} (h:readN 7 s=some (n,k)):n<562949953421312/\1<=k/\k<=s.length:=by obtain ⟨e,a,b,c,_,_⟩:=zdJ 7 s n k h;have d:=zko (s.take k);rw[Dd,Ei b,<-c]at d;have f:128 ^ k<=128 ^ 7:=Dm (by decide) a;omega
def rdN (t:List UInt8) (a:Nat) (bad:Bool):Int × Nat × Bool:=bif bad then (0,a,true) else match readN 7 (t.drop a) with
 | none=>(0,a,true)
 | some (x,k)=>((x:Int),a+k,false)
theorem zjq (t:List UInt8) (a:Nat) (bad:Bool) (h:a<=t.length):(0<=(rdN t a bad).1/\(rdN t a bad).1<=562949953421311)/\(rdN t a bad).2.1<=t.length/\((rdN t a bad).2.2=false->bad=false/\a<(rdN t a bad).2.1):=by
 unfold rdN;cases bad with
 | true=>exact ⟨⟨by simp,by simp⟩,h,λe=>by cases e⟩
 | false=>
   simp only[cond_false];cases b:readN 7 (t.drop a) with
   | none=>exact ⟨⟨by simp,by simp⟩,h,λe=>by cases e⟩
   | some p=>obtain ⟨x,k⟩:=p;obtain ⟨c,d,f⟩:=ze5 b;grind
theorem zs8 (t:List UInt8) (a:Nat) (bad:Bool) (h:a<=t.length) (e:t.length<=1099511627776):zbl ⟨t,(a:Int),bad⟩=some ((rdN t a bad).1,⟨t,((rdN t a bad).2.1:Int),(rdN t a bad).2.2⟩):=by
 unfold zbl rdN;cases bad with
 | true=>rfl
 | false=>
   simp only[Ba,if_false,zm0 t a h,An,zhI (t.drop a) (by grind),cond_false];cases b:readN 7 (t.drop a) with
   | none=>rfl
   | some p=>obtain ⟨x,k⟩:=p;obtain ⟨f,g,c⟩:=ze5 b;rw[Cr]at c;have d:Dc ((readR (some (x,k))).2=0)=false:=decide_eq_false (by show ¬(k:Int)=0;omega);rw[d];simp only[Ba,if_false,readR];rw[za (by omega) (by omega),show (a:Int)+(k:Int)=((a+k:Nat):Int) by omega]
def rdB (t:List UInt8) (a:Nat) (bad:Bool) (n:Int):List UInt8 × Nat × Bool:=bif bad||decide (t.length<a+n.toNat) then ([],a,true) else ((t.drop a).take n.toNat,a+n.toNat,false)
theorem zta (t:List UInt8) (a:Nat) (bad:Bool) (n:Int) (h:a<=t.length):(rdB t a bad n).2.1<=t.length/\a<=(rdB t a bad n).2.1/\((rdB t a bad n).2.2=false->bad=false):=by unfold rdB;grind
theorem zuj (t:List UInt8) (a:Nat) (bad:Bool) (n:Int) (h:a<=t.length) (b:t.length<=1099511627776) (d:0<=n/\n<=562949953421311):zbS ⟨t,(a:Int),bad⟩ n=some ((rdB t a bad n).1,⟨t,((rdB t a bad n).2.1:Int),(rdB t a bad n).2.2⟩):=by
 unfold zbS rdB;cases bad with
 | true=>rfl
 | false=>
   simp only[Ba,if_false,An,Fx];rw[za (n:=(t.length:Int) - (a:Int)) (by omega) (by omega)];by_cases c:t.length<a+n.toNat
   ·grind
   ·rw[decide_eq_false c,decide_eq_false (by omega)];simp only[Ba,if_false,cond_false];rw[za (n:=(a:Int)+n) (by omega) (by omega),za (n:=(a:Int)+n - n) (by omega) (by omega),show (a:Int)+n - n=(a:Int) by omega,show (a:Int)+n=((a+n.toNat:Nat):Int) by omega,zfN t a (a+n.toNat) (by omega) (by omega)];simp
def rdS (t:List UInt8) (a:Nat) (bad:Bool):List UInt8 × Nat × Bool:=rdB t (rdN t a bad).2.1 (rdN t a bad).2.2 (rdN t a bad).1
def zu7 (t:List UInt8) (a:Nat) (bad:Bool) (h:a<=t.length) (b:t.length<=1099511627776):zbT ⟨t,(a:Int),bad⟩=some ((rdS t a bad).1,⟨t,((rdS t a bad).2.1:Int),(rdS t a bad).2.2⟩):=by obtain ⟨c,d,_⟩:=zjq t a bad h;unfold zbT rdS;rw[zs8 t a bad h b];simp only[An];rw[zuj t _ _ _ d b c];rfl
theorem zhu (t:List UInt8) (a:Nat) (bad:Bool) (h:a<=t.length):(rdS t a bad).2.1<=t.length/\((rdS t a bad).2.2=false->bad=false/\a<(rdS t a bad).2.1):=by obtain ⟨c,b,d⟩:=zjq t a bad h;obtain ⟨e,f,g⟩:=zta t (rdN t a bad).2.1 (rdN t a bad).2.2 (rdN t a bad).1 b;unfold rdS;grind
def zc8 (h:t.drop a=x++rest):t.drop (a+x.length)=rest:=by rw[<-Dj,h,List.drop_left]
theorem zwn (h:t.drop a=varV n++rest) (b:0<=n/\n<=562949953421311):rdN t a false=(n,a+(varV n).length,false):=by unfold rdN;rw[h,zog n b rest];grind
theorem zwo (h:t.drop a=pieceV x++rest) (e:x.length<=1048576) (f:a<=t.length):rdS t a false=(x,a+(pieceV x).length,false):=by
 have b:t.drop a=varV (x.length:Int)++(x++rest):=by rw[h];unfold pieceV;simp
 have c:=zc8 b;have hl:=congrArg Ej c;rw[Cr,Bf]at hl;unfold rdS;rw[zwn b (by omega)];unfold rdB;simp only[Fx,Dg];by_cases d:x.length=0
 ·have g:x= []:=Bw d;have i:=congrArg Ej b;grind
 ·rw[decide_eq_false (by omega)];simp only[cond_false];rw[c,List.take_left];simp only[pieceV,Bf,Nat.add_assoc]
theorem zn6 (s:List UInt8): ∀(n a:Nat),a<=s.length->((l6V s n a).2= -1\/∃b:Nat,(l6V s n a).2=(b:Int)/\b<=s.length/\(l6V s n a).1.length=n)/\∀x∈(l6V s n a).1,0<=x/\x<=562949953421311
 | 0,a,h=>⟨.inr ⟨a,rfl,h,rfl⟩,λx c=>by trivial⟩
 | n+1,a,h=>by
   rw[l6V,decide_eq_false (by omega),cond_false];cases d:readN 7 (s.drop a) with
   | none=>exact ⟨.inl rfl,λx c=>by trivial⟩
   | some p=>obtain ⟨x,k⟩:=p;obtain ⟨f,g,e⟩:=ze5 d;rw[Cr]at e;obtain ⟨i,j⟩:=zn6 s n (a+k) (by omega);grind
def zwg (s:List UInt8): ∀(l:List Int) (a:Nat) (rest:List UInt8),(∀x∈l,0<=x/\x<=1000000)->a<=s.length->s.drop a=l.flatMap varV++rest->l6V s l.length a=(l,((a+(l.flatMap varV).length:Nat):Int))
 | [],a,rest,_,_,_=>by rfl
 | x::l,a,rest,c,f,h=>by
   have b:s.drop a=varV x++(l.flatMap varV++rest):=by simp_all
   have d:=zc8 b;have g:=c x (by simp);have hl:=congrArg Ej b;rw[Cr,Bf]at hl;have e:a+(varV x).length<=s.length:=by omega
   rw[Ee,l6V,decide_eq_false (by omega),cond_false,b,zog x (by omega)];simp only;rw[zwg s l (a+(varV x).length) rest (λy i=>c y (by simp_all)) e d];simp;omega
def zrw (s:List UInt8) (n:Int) (a:0<n):zbN s (-1) n=some ([],-1):=by unfold zbN;rw[zz];simp_all
def takeB (s:List UInt8) (a:Nat):List UInt8 × Int:=match readN 7 (s.drop a) with
 | none=>([],-1)
 | some (x,k)=>bif Dc (x<=s.length - (a+k)) then ((s.drop (a+k)).take x,((a+k+x:Nat):Int)) else ([],-1)
theorem zpq (s:List UInt8) (a:Nat) (h:a<=s.length):(takeB s a).2= -1\/∃b:Nat,(takeB s a).2=(b:Int)/\b<=s.length:=by
 unfold takeB;cases d:readN 7 (s.drop a) with
 | none=>exact .inl rfl
 | some p=>
   obtain ⟨x,k⟩:=p;obtain ⟨f,g,e⟩:=ze5 d;rw[Cr]at e;simp only;by_cases c:x<=s.length - (a+k)
   ·rw[decide_eq_true c];exact .inr ⟨a+k+x,rfl,by omega⟩
   ·grind
def zrv (s:List UInt8):zdW s (-1)=some ([],-1):=by unfold zdW;rw[zrw s 1 (by omega)];rfl
theorem zgm (s:List UInt8) (a:Nat) (h:a<=s.length) (hs:s.length<=1048576):zdW s (a:Int)=some (takeB s a):=by
 unfold zdW takeB;rw[show zbN s (a:Int) (1:Int)=some (l6V s 1 a) from zgn s a 1 (by omega) (by decide) (by omega)];simp only[An,l6V];rw[decide_eq_false (by omega: ¬s.length<a),cond_false];cases b:readN 7 (s.drop a) with
 | none=>rfl
 | some p=>
   obtain ⟨x,k⟩:=p;obtain ⟨f,g,d⟩:=ze5 b;rw[Cr]at d;simp only;rw[decide_eq_false (by omega)];have e:idx [(x:Int)] (0:Int)=some (x:Int):=rfl;simp only[Ba,if_false,e,An];rw[za (n:=(s.length:Int) - ((a+k:Nat):Int)) (by omega) (by omega)];by_cases c:x<=s.length - (a+k)
   ·rw[decide_eq_true c,decide_eq_false (by omega)];simp only[Ba,if_false,cond_true];rw[za (by omega) (by omega),show ((a+k:Nat):Int)+(x:Int)=((a+k+x:Nat):Int) by omega,zfN s (a+k) (a+k+x) (by omega) (by omega)];simp
   ·grind
def zoq (h:s.drop a=pieceV x++rest) (c:x.length<=1048576) (d:a+(pieceV x).length<=s.length):takeB s a=(x,((a+(pieceV x).length:Nat):Int)):=by
 have b:s.drop a=varV (x.length:Int)++(x++rest):=by rw[h];unfold pieceV;simp
 have e:=zc8 b;have f:(pieceV x).length=(varV (x.length:Int)).length+x.length:=by unfold pieceV;simp
 unfold takeB;rw[b,zog (x.length:Int) (by omega)];simp only[Dg];rw[decide_eq_true (by omega)];simp_all;omega
def zb7 {body:τ->Option (Ctl τ (Ctl ρ R))} {s0:τ} {f:ρ->Option R} (G:Option R->Prop) (I:Nat->τ->Prop) (n:Nat) (Q:Ctl ρ R->Prop) (a:I 0 s0) (h: ∀k s,k<n->I k s->(∃A,body s=some (.go A)/\I (k+1) A)\/(∃r,body s=some (.done r)/\Q r)) (b: ∀s,I n s->∃r,body s=some (.done r)/\Q r) (c: ∀r,Q r->G (bindC (some r) f)):G (bindC (loopO body s0) f):=by obtain ⟨r,d,e⟩:=zbr I n Q a h b;simp_all
theorem zi7 (s:Ad):sharesV s=true↔(0<=s.G/\s.G<=1000)/\s.m.length<=4/\(∀x∈s.m,(1<=x.r/\x.r<=99)/\(0<=x.Q/\x.Q<=1000))/\s.m.Pairwise (λa b=>a.r<b.r)/\allNeed s<=s.G:=by
 constructor
 ·intro c;have hl:=ztl c;unfold sharesV at c;simp only[Cu,Ds,decide_eq_true_eq]at c;refine ⟨c.1,c.2.1,λx g=>?_,?_,c.2.2.2⟩
  ·obtain ⟨k,e,rfl⟩:=Cj g;have:=c.2.2.1 k (by simp_all);rw[zls s.m k e]at this;simp_all
  ·rw[Cq];grind
 ·rintro ⟨h,i,j,f,l⟩;rw[Cq]at f;unfold sharesV;rw[decide_eq_true h,decide_eq_true i,decide_eq_true l];simp only[Eh,Fz,Ds];intro k e;have d:k<s.m.length:=by simp_all
  obtain ⟨n,o⟩:=j _ (De d);rw[zls s.m k d,decide_eq_true n,decide_eq_true o];simp only[Eh];by_cases p:0<k
  ·rw[dif_pos p];exact decide_eq_true (f (k - 1) k (by omega) d (by omega))
  ·simp_all
theorem ztz (s:Ad) (t q:Int) (b:sharesV s=true) (h:s.m.length<=1048576): ∃L M R:List Am,s.m=L++(M++R)/\(∀y∈L,y.r<t)/\(∀y∈R,t<y.r)/\(M= []\/∃m:Am,M= [m]/\m.r=t)/\
 zbL s t q=some (if sharesV ⟨s.G,L++(⟨t,q⟩::R)⟩=true then (⟨s.G,L++(⟨t,q⟩::R)⟩,true) else (s,false)):=by
 have f:=((zi7 s).1 b).2.1;obtain ⟨j,c,g,k,l⟩:=zjD s t b h;have B: ∀y∈s.m.take j,y.r<t:=by intro y d;obtain ⟨i,hi,rfl⟩:=Cj d;grind
 have E: ∀D,(∀i (hi:i<s.m.length),D<=i->t<s.m[i].r)->∀y∈s.m.drop D,t<y.r:=by intro D A y d;obtain ⟨i,hi,rfl⟩:=Cj d;simp_all
 rcases l with ⟨o,n,a⟩ | ⟨n,a⟩
 ·have A: ∀i (hi:i<s.m.length),j+1<=i->t<s.m[i].r:=λi hi p=>k i hi (by omega);exact ⟨s.m.take j,[s.m[j]],s.m.drop (j+1),by simp,B,E _ A,.inr ⟨_,rfl,a⟩,zeM s t q j (j+1) b f c (.inr rfl) (by omega) g A (λ_ _=>a)⟩
 ·exact ⟨s.m.take j,[],s.m.drop j,by simp,B,E _ a,.inl rfl,zeM s t q j j b f c (.inl rfl) c g a (λe=>by omega)⟩
theorem zpg (p:Am->Bool): ∀l:List Am,((l.filter p).map λx=>needV x.Q).sum<=(l.map λx=>needV x.Q).sum
 | []=>by simp
 | x::l=>by have a:=zpg p l;have b:=zi5 x.Q;grind
def strB (key:List UInt8) (counter:Int) (nonce:List UInt8) (i:Nat):UInt8:=(chaV key (counter+((i / 64:Nat):Int)) nonce).getD (i % 64) 0
def xorV (key:List UInt8) (counter:Int) (nonce text:List UInt8):List UInt8:=text.mapIdx λi x=>x ^^^ strB key counter nonce i
def streamOk (key:List UInt8) (counter:Int) (nonce:List UInt8) (n:Nat):Bool:=chaOk key counter nonce&&Dc (n=0\/counter+(((n - 1) / 64:Nat):Int)<=4294967295)
def streamV (key:List UInt8) (counter:Int) (nonce text:List UInt8):List UInt8:=bif streamOk key counter nonce text.length then xorV key counter nonce text else []
def zck (key:List UInt8) (counter:Int) (nonce text:List UInt8):(xorV key counter nonce text).length=text.length:=by unfold xorV;rw[List.length_mapIdx]
def zoK (key:List UInt8) (counter:Int) (nonce text:List UInt8) (i:Nat) (h:i<text.length):(xorV key counter nonce text)[i]'(by rw[zck];exact h)=text[i] ^^^ strB key counter nonce i:=by unfold xorV;simp
def zzf (x y:UInt8):x ^^^ y ^^^ y=x:=by rw[UInt8.xor_assoc,UInt8.xor_self,UInt8.xor_zero]
def zxk (key:List UInt8) (counter:Int) (nonce text:List UInt8):xorV key counter nonce (xorV key counter nonce text)=text:=by
 apply List.ext_getElem
 ·rw[zck,zck]
 ·intro i b a;rw[zoK _ _ _ _ i (by rw[zck];trivial),zoK _ _ _ _ i a,zzf]
theorem zuk (h:chaOk key counter nonce=true) (k:Nat) (a:counter+(k:Int)<=4294967295):chaOk key (counter+(k:Int)) nonce=true:=by obtain ⟨b,c,d,e⟩:=zhj h;unfold chaOk;grind
def zv0 (h:chaOk key counter nonce=false):chaV key counter nonce= []:=by unfold chaV;rw[h];rfl
def zvZ (h:chaOk key counter nonce=true):chaV key counter nonce≠[]:=by intro e;have:=zkr key counter nonce h;simp_all
theorem zwt (k j:Nat) (a:j<64) (h:chaOk key (counter+(k:Int)) nonce=true):strB key counter nonce (64*k+j)=(chaV key (counter+(k:Int)) nonce)[j]'(by rw[zkr _ _ _ h];trivial):=by unfold strB;grind
def zts (z:List α) (m:Nat) (h:m<z.length):z.take (m+1)=z.take m++ [z[m]]:=by simp
theorem zxd (key:List UInt8) (counter:Int) (nonce text:List UInt8) (b:text.length<=1099511627776) (k:Nat) (d:64*k<text.length) (h:chaOk key (counter+(k:Int)) nonce=true):
 loopO (ρ:=Ctl (List UInt8) ρ) (λ(A:Int × List UInt8)=>(if (Dc (A.1<(text.length:Int)))=true then (some (Dc (A.1<((64*k+64:Nat):Int))))
  else (some false)).bind (λ(F:Bool)=>
 if F=true then ((sidx text A.1).bind λB=>
 (sidx (chaV key (counter+(k:Int)) nonce) (I6.wrap (A.1 - ((64*k:Nat):Int)))).bind λD=>
 (app 1 A.2 ([(B ^^^ D)])).bind λE=>
 some (.go (I6.wrap (A.1+(1:Int)),E)))
 else (some (.done (.go A.2))))) (((64*k:Nat):Int),(xorV key counter nonce text).take (64*k))=some (.go ((xorV key counter nonce text).take (64*(k+1)))):=by
 have f:=zck key counter nonce text;refine zb3 (λj S=>S=(((64*k+j:Nat):Int),(xorV key counter nonce text).take (64*k+j))) (min 64 (text.length - 64*k)) _ rfl ?_ ?_
 ·rintro j _ g rfl;left;have hi:64*k+j<text.length:=by omega
  simp only;rw[decide_eq_true (by omega),decide_eq_true (by omega)];have a:((64*k+j:Nat):Int) - ((64*k:Nat):Int)=(j:Int):=by omega
  have hl:((xorV key counter nonce text).take (64*k+j)).length=64*k+j:=by grind
  rw[a,za (n:=(j:Int)) (by omega) (by omega)];simp only[if_true,An];rw[zdg text _ hi];simp only[An];rw[zdg _ j (by rw[zkr _ _ _ h];omega)];simp only[An];rw[zg (by grind) (by grind),za (by omega) (by omega)];refine ⟨_,rfl,?_⟩;rw[show 64*k+(j+1)=(64*k+j)+1 from rfl,zts _ _ (by omega),zoK _ _ _ _ _ hi,zwt k j (by omega) h];rfl
 ·rintro _ rfl;simp only;by_cases c:64*k+64<=text.length
  ·grind
  ·have e:64*k+min 64 (text.length - 64*k)=text.length:=by omega
   grind
theorem zjN (key:List UInt8) (counter:Int) (nonce text:List UInt8) (c:text.length<=1099511627776):zeo key counter nonce text=some (streamV key counter nonce text):=by
 unfold zeo streamV streamOk;rw[zhg];simp only[An];cases a:chaOk key counter nonce with
 | false=>rw[zv0 a];rfl
 | true=>
   rw[decide_eq_false (zvZ a)];simp only[Ba,if_false,Eh];obtain ⟨_,_,l,m⟩:=zhj a;obtain ⟨r,d,e⟩:=zbr (ρ:=Ctl (List UInt8) (List UInt8)) (s0:=((0:Int),([]:List UInt8))) (body:=λ(B:Int × List UInt8)=>if (Dc (B.1<(text.length:Int)))=true then ((zcQ key (I6.wrap (counter+(I6.wrap (Gi B.1 (64:Int))))) nonce).bind λD=>
    if (Dc (D=([])))=true then (some (.done (.done ([]))))
    else (bindC (loopO (λ(A:Int × List UInt8)=>(if (Dc (A.1<(text.length:Int)))=true then (some (Dc (A.1<I6.wrap (B.1+(64:Int)))))
 else (some false)).bind (λ(J:Bool)=>
 if J=true then ((sidx text A.1).bind λE=>
 (sidx D (I6.wrap (A.1 - B.1))).bind λF=>
 (app 1 A.2 ([(E ^^^ F)])).bind λG=>
 some (.go (I6.wrap (A.1+(1:Int)),G)))
 else (some (.done (.go A.2)))))
 (B.1,B.2))
 (λ(I:List UInt8)=>some (.go (I6.wrap (B.1+(64:Int)),I)))))
    else (some (.done (.go B.2))))
    (λk S=>S=(((64*k:Nat):Int),(xorV key counter nonce text).take (64*k))/\(k=0\/counter+((k - 1:Nat):Int)<=4294967295)) ((text.length+63) / 64)
    (λr=>r=bif Dc (text.length=0\/counter+(((text.length - 1) / 64:Nat):Int)<=4294967295) then .go (xorV key counter nonce text) else .done []) ⟨rfl,.inl rfl⟩ (by
    rintro k _ o ⟨rfl,f⟩
    have g:64*k<text.length:=by omega
    have h:Gi ((64*k:Nat):Int) 64=(k:Int):=by simp
    simp only
    rw[h,za (n:=(k:Int)) (by omega) (by omega),za (n:=counter+(k:Int)) (by omega) (by omega),za (n:=((64*k:Nat):Int)+64) (by omega) (by omega),decide_eq_true (by omega),zhg]
    simp only[if_true,An]
    by_cases i:counter+(k:Int)<=4294967295
    ·left
     have b:=zuk a k i
     rw[decide_eq_false (zvZ b)]
     simp only[Ba,if_false]
     have j:((64*k:Nat):Int)+64=((64*k+64:Nat):Int):=by omega
     rw[j,zxd key counter nonce text c k g b]
     simp;omega
    ·right
     have b:chaOk key (counter+(k:Int)) nonce=false:=by
      unfold chaOk
      simp_all
     rw[zv0 b]
     grind) (by
    rintro _ ⟨rfl,f⟩
    simp only
    rw[decide_eq_false (by omega),Bo (by rw[zck];omega),decide_eq_true (by omega)]
    simp)
   rw[d,e]
   cases Dc (text.length=0\/counter+(((text.length - 1) / 64:Nat):Int)<=4294967295)<;>rfl
theorem zwM (key:List UInt8) (counter:Int) (nonce text:List UInt8) (i:text.length<=1099511627776) (k:Nat) (l:64*k<text.length) (h:chaOk key (counter+(k:Int)) nonce=true):
 loopO (ρ:=Ctl (List UInt8) ρ) (λ(A:Int × List UInt8)=>(if (Dc (A.1<(64:Int)))=true then (some (Dc (I6.wrap (((64*k:Nat):Int)+A.1)<(A.2.length:Int))))
  else (some false)).bind (λ(E:Bool)=>
 if E=true then ((idx A.2 (I6.wrap (((64*k:Nat):Int)+A.1))).bind λB=>
 (sidx (chaV key (counter+(k:Int)) nonce) A.1).bind λD=>
 some (.go (I6.wrap (A.1+(1:Int)),(A.2.set ((I6.wrap (((64*k:Nat):Int)+A.1)).toNat) (B ^^^ D)))))
 else (some (.done (.go A.2))))) ((0:Int),(xorV key counter nonce text).take (64*k)++text.drop (64*k))=some (.go ((xorV key counter nonce text).take (64*(k+1))++text.drop (64*(k+1)))):=by
 have d:=zck key counter nonce text;refine zb3 (λj S=>S=((j:Int),(xorV key counter nonce text).take (64*k+j)++text.drop (64*k+j))) (min 64 (text.length - 64*k)) _ rfl ?_ ?_
 ·rintro j _ m rfl;left;have hi:64*k+j<text.length:=by omega
  have a:((64*k:Nat):Int)+(j:Int)=((64*k+j:Nat):Int):=by omega
  have hl:((xorV key counter nonce text).take (64*k+j)).length=64*k+j:=by grind
  have b:((xorV key counter nonce text).take (64*k+j)++text.drop (64*k+j)).length=text.length:=by rw[Bf,hl,Cr];omega
  simp only;rw[a,za (n:=((64*k+j:Nat):Int)) (by omega) (by omega),decide_eq_true (by omega:(j:Int)<64),b,decide_eq_true (by omega:((64*k+j:Nat):Int)<(text.length:Int))];simp only[if_true,An];rw[zb _ (64*k+j) (by rw[b];exact hi)];simp only[An];rw[zdg _ j (by rw[zkr _ _ _ h];omega)];simp only[An];rw[za (by omega) (by omega),Dg];refine ⟨_,rfl,?_⟩;have f:((xorV key counter nonce text).take (64*k+j)++text.drop (64*k+j))[64*k+j]'(by rw[b];exact hi)=text[64*k+j]:=by simp_all
  rw[f,show 64*k+(j+1)=(64*k+j)+1 from rfl,zts _ _ (by rw[d];exact hi),zoK _ _ _ _ _ hi,zwt k j (by omega) h,Ek _ _ (by omega),hl,Fl,Bh hi,Bm];rfl
 ·rintro _ rfl;simp only;by_cases c:64*k+64<=text.length
  ·grind
  ·have e:64*k+min 64 (text.length - 64*k)=text.length:=by omega
   have g:(xorV key counter nonce text).take (64*k+min 64 (text.length - 64*k))++text.drop (64*k+min 64 (text.length - 64*k))=xorV key counter nonce text:=by rw[e,Bo (by omega),Bp (Cy _),Cx]
   rw[g,d,Bo (by omega),Bp (by omega),Cx];have a:((64*k:Nat):Int)+((min 64 (text.length - 64*k):Nat):Int)=(text.length:Int):=by omega
   rw[a,za (by omega) (by omega),decide_eq_false (by omega: ¬(text.length:Int)<(text.length:Int))];split<;>rfl
theorem zjK (key:List UInt8) (counter:Int) (nonce text:List UInt8) (b:text.length<=1099511627776):zd9 key counter nonce text=some (streamV key counter nonce text):=by
 unfold zd9 streamV streamOk;rw[znb];simp only[An];cases a:chaOk key counter nonce with
 | false=>rfl
 | true=>
   obtain ⟨_,_,j,l⟩:=zhj a;have d:byteRoom text=some ():=by unfold byteRoom;grind
   have e:Gi ((text.length:Int)+63) 64=(((text.length+63) / 64:Nat):Int):=by rfl
   simp only[Cg,Ba,if_false,d,An,Eh];rw[za (n:=(text.length:Int)+63) (by omega) (by omega),e,za (n:=(((text.length+63) / 64:Nat):Int)) (by omega) (by omega),za (n:=counter+(((text.length+63) / 64:Nat):Int)) (by omega) (by omega),za (n:=counter+(((text.length+63) / 64:Nat):Int) - 1) (by omega) (by omega)];have f:(if Dc ((((text.length+63) / 64:Nat):Int)>0)=true then (some (Dc (counter+(((text.length+63) / 64:Nat):Int) - 1>4294967295))) else (some false))=some (!Dc (text.length=0\/counter+(((text.length - 1) / 64:Nat):Int)<=4294967295)):=by
    by_cases c:text.length=0
    ·simp_all
    ·rw[decide_eq_true (by omega)];by_cases m:counter+(((text.length - 1) / 64:Nat):Int)<=4294967295
     ·simp_all;omega
     ·rw[decide_eq_true (by omega),decide_eq_false (by omega)];rfl
   rw[f];cases g:Dc (text.length=0\/counter+(((text.length - 1) / 64:Nat):Int)<=4294967295) with
   | false=>rfl
   | true=>
     have o:=of_decide_eq_true g;simp only[An,Cg,Ba,if_false,cond_true];rw[zb3 (ρ:=Ctl (List UInt8) (List UInt8)) (s0:=(counter,(0:Int),text)) (λk S=>S=(counter+(k:Int),((64*k:Nat):Int),(xorV key counter nonce text).take (64*k)++text.drop (64*k))) ((text.length+63) / 64) (.go (xorV key counter nonce text)) (by simp) ?_ ?_]
     ·rfl
     ·rintro k _ p rfl;left;have h:64*k<text.length:=by omega
      have i:=zuk a k (by omega);have hl:((xorV key counter nonce text).take (64*k)++text.drop (64*k)).length=text.length:=by rw[Bf,Dd,Cr,zck];omega
      simp only;rw[hl,decide_eq_true (by omega),zkw];simp only[if_true,An];rw[zwM key counter nonce text b k h i];simp only[zd];rw[za (n:=counter+(k:Int)+1) (by omega) (by omega),za (n:=((64*k:Nat):Int)+64) (by omega) (by omega)];grind
     ·rintro _ rfl;simp only;rw[Bo (by rw[zck];omega),Bp (by omega),Cx,zck,decide_eq_false (by omega)];rfl
def zvS {k:List UInt8} {z:List UInt8} (h:streamV k n z t≠[]):(streamV k n z t).length=t.length/\streamV k n z (streamV k n z t)=t:=by
 have a:streamOk k n z t.length=true:=by
  cases b:streamOk k n z t.length with
  | true=>rfl
  | false=>unfold streamV at h;rw[b]at h;exact absurd rfl h
 have e:streamV k n z t=xorV k n z t:=by unfold streamV;simp_all
 rw[e];refine ⟨zck _ _ _ _,?_⟩;unfold streamV;rw[zck,a];exact zxk _ _ _ _
theorem zyE (l:List Ac):entsV l=true↔(∀e∈l,entV e=true)/\l.Pairwise (λa b=>entLt a b=true):=by
 constructor
 ·intro d;refine ⟨λe n=>?_,?_⟩
  ·obtain ⟨k,c,rfl⟩:=Cj n;have:=zv6 d k c;rw[zfQ l k c,Cu]at this;simp_all
  ·rw[Cq];intro i j hi o p;unfold entLt;rcases zhk d j o i p with h | ⟨f,g⟩
   ·simp_all
   ·simp_all
 ·rintro ⟨f,g⟩;rw[Cq]at g;unfold entsV;rw[Ds];intro k c;have m:k<l.length:=by simp_all
  rw[zfQ l k m,f _ (De m),Eh];grind
def visG (seq:Int):Option (List UInt8)->List Ac->List KV
 | _,[]=>[]
 | last,e::r=>bif Dc (e.b<=seq)&& !Dc (last=some e.g) then (bif e.M then visG seq (some e.g) r else ⟨e.g,e.F⟩::visG seq (some e.g) r) else visG seq last r
def lastO (p:List UInt8 × Bool):Option (List UInt8):=bif p.2 then some p.1 else none
theorem zyp {l:List Ac} (c:entsV l=true) (seq:Int): ∀(d k:Nat),k+d=l.length->visL l seq l.length=visL l seq k++visG seq (lastO (lastS l seq k)) (l.drop k)
 | 0,k,h=>by
   have:k=l.length:=by omega
   subst this;rw[El];simp[visG]
 | d+1,k,h=>by
   have a:k<l.length:=by omega
   rw[zyp c seq d (k+1) (by omega),zlB l seq k a,zmG l seq k a,Bh a,Bm];congr 1;rw[visG];by_cases hs:l[k].b<=seq
   ·have f:=zu9 c a hs;rw[decide_eq_true hs,Eh];have e:Dc (lastO (lastS l seq k)=some l[k].g)=((lastS l seq k).2&&Dc (l[k].g=(lastS l seq k).1)):=by unfold lastO;grind
    rw[e,<-f];cases visE l seq k with
    | false=>simp
    | true=>cases l[k].M<;>simp[lastO]
   ·have i:visE l seq k=false:=by rw[zgs l seq k a,decide_eq_false hs,Fw]
    grind
def zAc (a:entsV l=true) (seq:Int):visL l seq l.length=visG seq none l:=by rw[zyp a seq l.length 0 (by omega)];rfl
def stayG (snaps:List Int):Option Ac->Ac->Bool
 | none,_=>true
 | some d,e=>!Dc (d.g=e.g)||snaps.any (λs=>decide (e.b<=s)&&Dc (s<d.b))
def keepG (snaps:List Int):Option Ac->List Ac->List Ac
 | _,[]=>[]
 | p,e::r=>bif stayG snaps p e then e::keepG snaps (some e) r else keepG snaps (some e) r
def prevG (l:List Ac):Nat->Option Ac
 | 0=>none
 | k+1=>l[k]?
def zq8 (l:List Ac) (k:Nat):prevG l (k+1)=l[k]?:=rfl
def zzP (snaps:List Int) (l:List Ac) (k:Nat) (a:k<l.length):stayV snaps l k=stayG snaps (prevG l k) l[k]:=by
 cases k with
 | zero=>rfl
 | succ j=>rw[zkj snaps l j a];rw[zq8,Dn (by omega)];rfl
theorem zwf (snaps:List Int) (l:List Ac): ∀(d k:Nat),k+d=l.length->keepT snaps l k d=keepG snaps (prevG l k) (l.drop k)
 | 0,k,h=>by rw[Bp (by omega)];rfl
 | d+1,k,h=>by
   have a:k<l.length:=by omega
   have b:keepT snaps l k 1=if stayV snaps l k=true then [l[k]] else []:=by rw[zmF snaps l k 0 a];rfl
   have c:prevG l (k+1)=some l[k]:=by rw[zq8,Dn a]
   rw[Nat.add_comm d 1,zs2,b,zwf snaps l d (k+1) (by omega),Bh a,keepG,zzP snaps l k a,c];grind
def zwA (snaps:List Int) (h:Bool) (a:l.length<=400) (b:entsV l=true):compactR l snaps h=finE h (keepG snaps none l):=by unfold compactR;rw[if_pos ⟨a,b⟩,zwf snaps l l.length 0 (by omega)];rfl
def zn2 (snaps:List Int): ∀(p:Option Ac) (l:List Ac),(keepG snaps p l).Sublist l
 | _,[]=>List.Sublist.slnil
 | p,e::r=>by
   rw[keepG];cases stayG snaps p e with
   | true=>exact (zn2 snaps (some e) r).cons_cons e
   | false=>exact (zn2 snaps (some e) r).cons e
def zsH: ∀l:List Ac,(tid l).2.Sublist l
 | []=>List.Sublist.slnil
 | e::t=>by
   rw[zhi];cases ((tid t).1&&sameK e t)|| !e.M with
   | true=>exact (zsH t).cons_cons e
   | false=>exact (zsH t).cons e
def zyF (b:Bool) (l:List Ac):(finE b l).Sublist l:=by
 unfold finE;cases b with
 | true=>exact zsH l
 | false=>exact List.Sublist.refl l
theorem ztC {x:List Ac} (h:x.Sublist l) (a:entsV l=true):entsV x=true:=by
 rw[zyE]at a |-
 grind
theorem zxN {a b:Ac} (h:entLt a b=true):sLt a.g b.g=true\/a.g=b.g:=by unfold entLt at h;grind
structure Ord3 {α κ:Type} (lt:α->α->Bool) (K:α->κ):Prop where
 tri: ∀a b,lt a b=true\/K a=K b\/lt b a=true
 irr: ∀a b,K a=K b->lt a b=false
 trans: ∀a b c,lt a b=true->lt b c=true->lt a c=true
def Ord3.asym {lt:α->α->Bool} (o:Ord3 lt K) {a b:α} (h:lt a b=true):lt b a=false:=by
 cases c:lt b a with
 | false=>rfl
 | true=>have:=o.irr a a rfl;rw[o.trans a b a h c]at this;cases this
def Ord3.le_trans {lt:α->α->Bool} (o:Ord3 lt K) {a b c:α} (f:lt b a=false) (g:lt c b=false):lt c a=false:=by
 cases d:lt c a with
 | false=>rfl
 | true=>
   rcases o.tri a b with h | h | h
   ·rw[o.trans c a b d h]at g;cases g
   ·rcases o.tri c b with e | e | e
    ·simp_all
    ·rw[o.irr c a (by simp_all)]at d;cases d
    ·have:=o.trans b c a e d;rw[this]at f;cases f
   ·simp_all
def Ord3.lt_le {lt:α->α->Bool} (o:Ord3 lt K) {a b c:α} (d:lt a b=true) (f:lt c b=false):lt a c=true:=by
 rcases o.tri b c with h | h | h
 ·exact o.trans a b c d h
 ·rcases o.tri a c with e | e | e
  ·trivial
  ·rw[o.irr a b (by simp_all)]at d;cases d
  ·have:=o.trans c a b e d;rw[this]at f;cases f
 ·simp_all
def Ord3.le_lt {lt:α->α->Bool} (o:Ord3 lt K) {a b c:α} (f:lt b a=false) (d:lt b c=true):lt a c=true:=by
 rcases o.tri a b with h | h | h
 ·exact o.trans a b c h d
 ·rcases o.tri a c with e | e | e
  ·trivial
  ·rw[o.irr b c (by simp_all)]at d;cases d
  ·have:=o.trans b c a d e;rw[this]at f;cases f
 ·simp_all
def SrtL (lt:α->α->Bool) (l:List α):Prop:=l.Pairwise λa b=>lt b a=false
def ClsL [DecidableEq κ] (K:α->κ) (r l:List α):Prop:=∀c,r.filter (λx=>decide (K x=c))=l.filter (λx=>decide (K x=c))
def ClsL.refl [DecidableEq κ] (K:α->κ) (l:List α):ClsL K l l:=λ_=>rfl
def ClsL.trans {α κ:Type} [DecidableEq κ] {K:α->κ} {a b c:List α} (d:ClsL K a b) (e:ClsL K b c):ClsL K a c:=λk=>(d k).trans (e k)
def ClsL.append [DecidableEq κ] {a c d:List α} (e:ClsL K a b) (f:ClsL K c d):ClsL K (a++c) (b++d):=λk=>by rw[Bz,Bz,e k,f k]
def ClsL.perm [DecidableEq κ] [DecidableEq α] {r l:List α} (h:ClsL K r l):r.Perm l:=by rw[List.perm_iff_count];intro a;have b:=congrArg (List.count a) (h (K a));simp_all
def ClsL.length {α κ:Type} [DecidableEq κ] [DecidableEq α] {K:α->κ} {r l:List α} (h:ClsL K r l):r.length=l.length:=h.perm.length_eq
theorem ClsL.swap [DecidableEq κ] {lt:α->α->Bool} (o:Ord3 lt K) {u v:List α} (h: ∀x∈v,∀y∈u,lt x y=true):ClsL K (v++u) (u++v):=by
 intro c;rw[Bz,Bz];by_cases a: ∃y∈u,K y=c
 ·obtain ⟨y,b,rfl⟩:=a;have:v.filter (λx=>decide (K x=K y))= []:=by rw[Dx];intro x d e;have:=o.irr x y (by simp_all);simp_all
  grind
 ·have:u.filter (λx=>decide (K x=c))= []:=by simp_all
  grind
def SrtL.append {lt:α->α->Bool} {a:List α} (c:SrtL lt a) (d:SrtL lt b) (h: ∀x∈a,∀y∈b,lt y x=false):SrtL lt (a++b):=Cv.2 ⟨c,d,h⟩
def SrtL.left {lt:α->α->Bool} {a:List α} (h:SrtL lt (a++b)):SrtL lt a:=(Cv.1 h).1
def SrtL.right {lt:α->α->Bool} {a:List α} (h:SrtL lt (a++b)):SrtL lt b:=(Cv.1 h).2.1
def SrtL.cross {lt:α->α->Bool} {a:List α} (h:SrtL lt (a++b)): ∀x∈a,∀y∈b,lt y x=false:=(Cv.1 h).2.2
def SrtL.last {lt:α->α->Bool} (o:Ord3 lt K) {a:List α} (h:SrtL lt a) (d:0<a.length): ∀x∈a,lt (a[a.length - 1]'(by omega)) x=false:=by
 intro x c;obtain ⟨i,hi,rfl⟩:=Cj c;rcases Ct i (a.length - 1) with b | b
 ·exact (Cq.1 h) i (a.length - 1) hi (by omega) b
 ·have:i=a.length - 1:=by omega
  subst this;exact o.irr _ _ rfl
def mergeParts [DecidableEq κ] [DecidableEq α] {lt:α->α->Bool} (o:Ord3 lt K) {a c d b r1 r2:List α} (A:SrtL lt (a++c)) (B:SrtL lt (d++b)) (g: ∀x∈d,∀y∈c,lt x y=true) (t: ∀x∈a,∀y∈b,lt y x=false) (j:SrtL lt r1) (h:ClsL K r1 (a++d)) (k:SrtL lt r2) (i:ClsL K r2 (c++b)):
    SrtL lt (r1++r2)/\ClsL K (r1++r2) ((a++c)++(d++b)):=by
 refine ⟨j.append k ?_,?_⟩
 ·intro x l y m;have n:=h.perm.mem_iff.1 l;have p:=i.perm.mem_iff.1 m;rcases Di.1 n with e | e<;>rcases Di.1 p with f | f
  ·exact A.cross x e y f
  ·simp_all
  ·exact o.asym (g x e y f)
  ·exact B.cross x e y f
 ·refine (h.append i).trans ?_;have q:(a++d)++(c++b)=a++((d++c)++b):=by simp
  have s:(a++c)++(d++b)=a++((c++d)++b):=by simp
  rw[q,s];exact (ClsL.refl K a).append ((ClsL.swap o g).append (ClsL.refl K b))
def halve {body:Int × Int->Option (Ctl (Int × Int) (Ctl Int ρ))} (p:Nat->Bool) (a b:Nat) (o:a<=b) (n: ∀i j:Nat,a<=i->i<j->j<=b->body ((i:Int),(j:Int))=some (.go (if p ((i+j) / 2) then ((((i+j) / 2+1:Nat):Int),(j:Int)) else ((i:Int),(((i+j) / 2:Nat):Int))))) (q: ∀i:Nat,a<=i->i<=b->body ((i:Int),(i:Int))=some (.done (.go (i:Int)))):
    ∃c:Nat,a<=c/\c<=b/\(a<c->p (c - 1)=true)/\(c<b->p c=false)/\loopO body ((a:Int),(b:Int))=some (.go (c:Int)):=by
 have key: ∀d i j:Nat,j - i<=d->a<=i->i<=j->j<=b->(a<i->p (i - 1)=true)->(j<b->p j=false)->
  ∃c:Nat,a<=c/\c<=b/\(a<c->p (c - 1)=true)/\(c<b->p c=false)/\loopO body ((i:Int),(j:Int))=some (.go (c:Int)):=by
  intro d
  induction d with
  | zero=>
    intro i j s e t f k l;obtain rfl:i=j:=by omega
    exact ⟨i,e,f,k,l,by rw[zz,q i e f]⟩
  | succ d ih=>
    intro i j s e t f k l;rcases Ct i j with h | h
    ·cases m:p ((i+j) / 2) with
     | true=>obtain ⟨c,g⟩:=ih ((i+j) / 2+1) j (by omega) (by omega) (by omega) f (λ_=>by trivial) l;refine ⟨c,g.1,g.2.1,g.2.2.1,g.2.2.2.1,?_⟩;rw[zz,n i j e h f,m];simp_all
     | false=>obtain ⟨c,g⟩:=ih i ((i+j) / 2) (by omega) e (by omega) (by omega) k (λ_=>m);refine ⟨c,g.1,g.2.1,g.2.2.1,g.2.2.2.1,?_⟩;rw[zz,n i j e h f,m];simp_all
    ·obtain rfl:i=j:=by omega
     simp_all
 exact key (b - a) a b (Cy _) (Cy _) o (Cy _) (λh=>by omega) (λh=>by omega)
theorem zoG (X Y Z:List α) (a b:α) (i j:Int) (hi:i=(X.length:Int)) (f:j=((X.length+1+Y.length:Nat):Int)):
 idx (X++a::(Y++b::Z)) i=some a/\idx (X++a::(Y++b::Z)) j=some b/\idx ((X++a::(Y++b::Z)).set i.toNat b) j=some b/\idx ((X++a::(Y++b::Z)).set j.toNat a) i=some a/\
 ((X++a::(Y++b::Z)).set i.toNat b).set j.toNat a=X++b::(Y++a::Z)/\((X++a::(Y++b::Z)).set j.toNat a).set i.toNat b=X++b::(Y++a::Z):=by
 subst hi f;have g: ∀(c:α) (T:List α),idx (X++c::T) (X.length:Int)=some c:=by intro c T;unfold idx;simp
 have h: ∀(c d:α),idx (X++c::(Y++d::Z)) ((X.length+1+Y.length:Nat):Int)=some d:=by intro c d;unfold idx;grind
 have k: ∀(c d:α) (T:List α),(X++c::T).set X.length d=X++d::T:=by simp
 have l: ∀(c d e:α),(X++c::(Y++d::Z)).set (X.length+1+Y.length) e=X++c::(Y++e::Z):=by intro c d e;rw[Ek _ _ (by omega),show X.length+1+Y.length - X.length=Y.length+1 by omega,List.set_cons_succ,Ek _ _ (Cy _),Fl];rfl
 simp only[Dg];simp_all
def zwc (X Z:List α) (a:α) (i:Int) (hi:i=(X.length:Int)):idx (X++a::Z) i=some a:=by subst hi;unfold idx;simp
def zW {body:τ->Option (Ctl τ (Ctl ρ R))} {s0:τ} {k:ρ->Option R} {A:R} (I:Nat->τ->Prop) (n:Nat) (Q:Ctl ρ R->Prop) (a:I 0 s0) (h: ∀k s,k<n->I k s->(∃B,body s=some (.go B)/\I (k+1) B)\/(∃r,body s=some (.done r)/\Q r)) (b: ∀s,I n s->∃r,body s=some (.done r)/\Q r) (c: ∀r,Q r->bindC (some r) k=some A):bindC (loopO body s0) k=some A:=by obtain ⟨r,d,e⟩:=zbr I n Q a h b;simp_all
def zbc (l:List α) (t:Nat) (h:t<l.length):l.take (t+1)=l.take t++ [l[t]]:=by simp
theorem zk1 (P A Q B S:List Ac) (a b n:Int) (d:a=(P.length:Int)) (e:b=((P.length+A.length+Q.length:Nat):Int)) (f:n=(A.length:Int)) (E:B.length=A.length) (hl:P.length+A.length+Q.length+B.length<=4611686018427387904):
 zt (P++(A++(Q++(B++S)))) a b n=some (P++(B++(Q++(A++S)))):=by
 subst d e f;unfold zt;rw[zl (λt=>((t:Int),P++(B.take t++(A.drop t++(Q++(A.take t++(B.drop t++S))))))) A.length (r:=.go (P++(B++(Q++(A++S))))) ?h0]
 case h0=>simp
 ·rfl
 ·intro t c;have D:t<B.length:=by omega
  have g:P++(B.take t++(A.drop t++(Q++(A.take t++(B.drop t++S)))))=(P++B.take t)++A[t]::((A.drop (t+1)++(Q++A.take t))++B[t]::(B.drop (t+1)++S)):=by rw[Bh c,Bh D];simp only[Bm,Db,By]
  have h:P++(B.take (t+1)++(A.drop (t+1)++(Q++(A.take (t+1)++(B.drop (t+1)++S)))))=(P++B.take t)++B[t]::((A.drop (t+1)++(Q++A.take t))++A[t]::(B.drop (t+1)++S)):=by rw[zbc B t D,zbc A t c];simp only[Bm,Db,By]
  have i:I6.wrap ((P.length:Int)+(t:Int))=((P.length+t:Nat):Int):=by rw[za (by omega) (by omega)];omega
  have j:I6.wrap (((P.length+A.length+Q.length:Nat):Int)+(t:Int))=((P.length+A.length+Q.length+t:Nat):Int):=by rw[za (by omega) (by omega)];omega
  have k:I6.wrap ((t:Int)+1)=((t+1:Nat):Int):=by rw[za (by omega) (by omega)];omega
  obtain ⟨l,m,o,p,q,s⟩:=zoG (P++B.take t) (A.drop (t+1)++(Q++A.take t)) (B.drop (t+1)++S) A[t] B[t] ((P.length+t:Nat):Int) ((P.length+A.length+Q.length+t:Nat):Int)
   (by grind) (by grind)
  simp_all
 ·grind
theorem zx4 (P U V S:List Ac) (a m b:Int) (v:a=(P.length:Int)) (w:m=((P.length+U.length:Nat):Int)) (x:b=((P.length+U.length+V.length:Nat):Int)) (N:0<U.length) (O:0<V.length) (hl:P.length+U.length+V.length<=4611686018427387904):
 zR (P++(U++(V++S))) a m b=some (P++(V++(U++S))):=by
 subst v w x;unfold zR;have y:I6.wrap (((P.length+U.length:Nat):Int) - (P.length:Int))=(U.length:Int):=by rw[za (by omega) (by omega)];omega
 have z:I6.wrap (((P.length+U.length+V.length:Nat):Int) - ((P.length+U.length:Nat):Int))=(V.length:Int):=by rw[za (by omega) (by omega)];omega
 rw[y,z];refine zW (λk s=>∃(i j:Nat) (E F I G:List Ac),s=((i:Int),(j:Int),E++(F++(I++G)))/\F.length=i/\I.length=j/\0<i/\0<j/\E.length+i=P.length+U.length/\E.length+i+j<=P.length+U.length+V.length/\i+j+k<=U.length+V.length/\E++(I++(F++G))=P++(V++(U++S)))
  (U.length+V.length)
  (λr=>∃(i:Nat) (E F I G:List Ac),r= .go ((i:Int),E++(F++(I++G)))/\F.length=i/\I.length=i/\E.length+i=P.length+U.length/\E.length+i+i<=P.length+U.length+V.length/\E++(I++(F++G))=P++(V++(U++S)))
  ⟨U.length,V.length,P,U,V,S,rfl,rfl,rfl,N,O,rfl,Cy _,Cy _,rfl⟩ ?hs ?hf ?hk
 case hs=>
  rintro k _ hk ⟨i,j,E,F,I,G,rfl,g,l,p,q,d,u,C,o⟩
  rcases Ea i j with h | h | h
  ·left;obtain ⟨Q,B,rfl,M⟩: ∃Q B,I=Q++B/\B.length=i:=⟨I.take (j - i),I.drop (j - i),(Bt _ _).symm,by grind⟩;rw[Bf]at l;have f:I6.wrap (((P.length+U.length:Nat):Int) - (i:Int))=(E.length:Int):=by rw[za (by omega) (by omega)];omega
   have D:I6.wrap (I6.wrap (((P.length+U.length:Nat):Int)+(j:Int)) - (i:Int))=((E.length+F.length+Q.length:Nat):Int):=by rw[za (n:=((P.length+U.length:Nat):Int)+(j:Int)) (by omega) (by omega),za (by omega) (by omega)];omega
   have t:I6.wrap ((j:Int) - (i:Int))=((j - i:Nat):Int):=by rw[za (by omega) (by omega)];omega
   refine ⟨((i:Int),((j - i:Nat):Int),E++(B++(Q++(F++G)))),?_,i,j - i,E,B,Q,F++G,rfl,M,by omega,p,by omega,d,by omega,by omega,?_⟩
   ·have c:=zk1 E F Q B G _ _ _ f D (show (i:Int)=(F.length:Int) by omega) (by omega) (by omega);have e:E++(F++(Q++B++G))=E++(F++(Q++(B++G))):=by simp
    simp only[e,c,t,An];rw[if_pos (by grind),if_neg (by grind)];rfl
   ·rw[<-o];simp
  ·right;subst h;refine ⟨.go ((i:Int),E++(F++(I++G))),?_,i,E,F,I,G,rfl,g,l,d,u,o⟩;simp
  ·left;obtain ⟨A,Q,rfl,J⟩: ∃A Q,F=A++Q/\A.length=j:=⟨F.take j,F.drop j,(Bt _ _).symm,by grind⟩;rw[Bf]at g;have f:I6.wrap (((P.length+U.length:Nat):Int) - (i:Int))=(E.length:Int):=by rw[za (by omega) (by omega)];omega
   have t:I6.wrap ((i:Int) - (j:Int))=((i - j:Nat):Int):=by rw[za (by omega) (by omega)];omega
   refine ⟨(((i - j:Nat):Int),(j:Int),(E++I)++(Q++(A++G))),?_,i - j,j,E++I,Q,A,G,rfl,by omega,J,by omega,q,by grind,by grind,by omega,?_⟩
   ·have c:=zk1 E A Q I G _ ((P.length+U.length:Nat):Int) (j:Int) f (by omega) (by omega) (by omega) (by omega);have e:E++(A++Q++(I++G))=E++(A++(Q++(I++G))):=by simp
    simp only[e,c,t,An];rw[if_pos (by grind),if_pos (by simp_all)];simp
   ·rw[<-o];simp
 case hf=>
  rintro _ ⟨i,j,E,F,I,G,rfl,g,l,p,q,d,u,C,o⟩
  omega
 case hk=>
  rintro _ ⟨i,E,F,I,G,rfl,g,l,p,q,d⟩
  simp only[zd]
  have f:I6.wrap (((P.length+U.length:Nat):Int) - (i:Int))=(E.length:Int):=by rw[za (by omega) (by omega)];omega
  have c:=zk1 E F [] I G _ ((P.length+U.length:Nat):Int) (i:Int) f (by simp_all) (by omega) (by omega) (by grind)
  simp only[By]at c
  rw[c,<-d]
  rfl
def entOrd3:Ord3 entLt (λe:Ac=>(e.g,e.b)) where
 tri a b:=by
  cases h:entLt a b with
  | true=>exact .inl rfl
  | false=>
    by_cases i:a.g=b.g/\a.b=b.b
    ·simp_all
    ·exact .inr (.inr (zpc i h))
 irr a b h:=by
  have d:a.g=b.g:=congrArg Prod.fst h
  have f:a.b=b.b:=congrArg Prod.snd h
  unfold entLt
  rw[d,f,zb0]
  simp
 trans a b c d f:=ziV d f
abbrev keyE (e:Ac):List UInt8 × Int:=(e.g,e.b)
def zv3 (a b:Ac):((zq a b).bind λR=>some (Dc (R<(0:Int))))=some (entLt a b):=by obtain ⟨r,c,d,_⟩:=zeB a b;simp_all
theorem zqI (P M S:List Ac) (a b:Int) (n:a=(P.length:Int)) (o:b=((P.length+M.length:Nat):Int)) (hl:P.length+M.length+S.length<=4611686018427387904):
 ∃R,zp (P++(M++S)) a b=some (P++(R++S))/\SrtL entLt R/\ClsL keyE R M:=by
 subst n o;unfold zp;have w0:I6.wrap ((P.length:Int)+(1:Int))=((P.length+1:Nat):Int):=by rw[za (by omega) (by omega)];omega
 rw[w0];refine zb7 (τ:=Int × List Ac) (ρ:=List Ac) (R:=List Ac) (λx=>∃R,x=some (P++(R++S))/\SrtL entLt R/\ClsL keyE R M)
  (λk s=>∃R,s=(((P.length+(k+1):Nat):Int),P++(R++(M.drop (k+1)++S)))/\SrtL entLt R/\ClsL keyE R (M.take (k+1))) (M.length - 1)
  (λr=>∃R,r= .go (P++(R++S))/\SrtL entLt R/\ClsL keyE R M) ⟨M.take 1,?_,?_,ClsL.refl _ _⟩ ?_ ?_ ?_
 ·have e:M.take 1++(M.drop 1++S)=M++S:=by rw[<-Bm,Bt]
  simp_all
 ·cases M with
  | nil=>exact List.Pairwise.nil
  | cons x M0=>simp[SrtL]
 ·rintro k _ B ⟨R,rfl,hs,d⟩;left;have h:k+1<M.length:=by omega
  have hRl:R.length=k+1:=by rw[d.length,Dd];omega
  have C:M.drop (k+1)=M[k+1]::M.drop (k+2):=Bh h;have i:Dc (((P.length+(k+1):Nat):Int)<((P.length+M.length:Nat):Int))=true:=decide_eq_true (by omega);simp only[i,if_true];refine zb7 (τ:=Int × List Ac) (ρ:=List Ac) (R:=Ctl (Int × List Ac) (Ctl (List Ac) (List Ac)))
   (λx=>∃Z,x=some (.go Z)/\∃W,Z=(((P.length+(k+1+1):Nat):Int),P++(W++(M.drop (k+1+1)++S)))/\SrtL entLt W/\ClsL keyE W (M.take (k+1+1)))
   (λt s=>∃U T,R=U++T/\U.length+t=k+1/\s=(((P.length+U.length:Nat):Int),P++(U++(M[k+1]::(T++(M.drop (k+2)++S)))))/\∀y∈T,entLt M[k+1] y=true) (k+1)
   (λr=>∃U T,R=U++T/\r= .go (P++(U++(M[k+1]::(T++(M.drop (k+2)++S)))))/\(∀y∈T,entLt M[k+1] y=true)/\∀y∈U,entLt M[k+1] y=false)
   ⟨R,[],by simp,by omega,by grind,by simp⟩ ?_ ?_ ?_
  ·rintro t _ j ⟨U,T,rfl,l,rfl,f⟩;have V:0<U.length:=by omega
   obtain ⟨O,y,rfl⟩: ∃O y,U=O++ [y]:=⟨U.dropLast,U.getLast (by grind),(List.dropLast_concat_getLast _).symm⟩;rw[Bf,Dk]at l V;have e:P++(O++ [y]++(M[k+1]::(T++(M.drop (k+2)++S))))=(P++O)++y::([]++M[k+1]::(T++(M.drop (k+2)++S))):=by simp
   have p:I6.wrap (((P.length+(O++ [y]).length:Nat):Int) - 1)=((P.length+O.length:Nat):Int):=by rw[Bf,Dk,za (by omega) (by omega)];omega
   obtain ⟨D,E,F,G,H,I⟩:=zoG (P++O) [] (T++(M.drop (k+2)++S)) y M[k+1] ((P.length+O.length:Nat):Int) ((P.length+(O++ [y]).length:Nat):Int) (by simp) (by grind);have i:Dc (((P.length+(O++ [y]).length:Nat):Int)>(P.length:Int))=true:=by grind
   cases g:entLt M[k+1] y with
   | true=>
     left;refine ⟨(((P.length+O.length:Nat):Int),P++(O++(M[k+1]::((y::T)++(M.drop (k+2)++S))))),?_,O,y::T,by simp,by omega,rfl,?_⟩
     ·have q:=zv3 M[k+1] y;simp_all
     ·simp_all
   | false=>
     right;refine ⟨.go (P++(O++ [y]++(M[k+1]::(T++(M.drop (k+2)++S))))),?_,O++ [y],T,rfl,rfl,f,?_⟩
     ·have q:=zv3 M[k+1] y;simp_all
     ·intro z J;have L:=SrtL.last entOrd3 hs.left (by simp);have:entLt y z=false:=by simp_all
      exact entOrd3.le_trans this g
  ·rintro _ ⟨U,T,rfl,l,rfl,f⟩;have V:U= []:=Bw (by omega);subst V;refine ⟨.go (P++([]++(M[k+1]::(T++(M.drop (k+2)++S))))),?_,[],T,rfl,rfl,f,by simp⟩;simp
  ·rintro _ ⟨U,T,rfl,rfl,g,N⟩;refine ⟨(((P.length+(k+2):Nat):Int),P++((U++M[k+1]::T)++(M.drop (k+2)++S))),?_,U++M[k+1]::T,rfl,?_,?_⟩
   ·have p:I6.wrap (((P.length+(k+1):Nat):Int)+1)=((P.length+(k+2):Nat):Int):=by rw[za (by omega) (by omega)];omega
    simp_all
   ·refine hs.left.append ?_ ?_
    ·exact Bl.2 ⟨λy c=>entOrd3.asym (g y c),hs.right⟩
    ·intro x w y c;rcases Da.1 c with rfl | c
     ·simp_all
     ·exact hs.cross x w y c
   ·have j:M.take (k+2)=M.take (k+1)++ [M[k+1]]:=zbc M (k+1) h;rw[show k+1+1=k+2 from rfl,j];have A:U++M[k+1]::T=U++([M[k+1]]++T):=rfl;rw[A];refine ((ClsL.refl keyE U).append (ClsL.swap (K:=keyE) entOrd3 (u:=T) (v:=[M[k+1]]) ?_)).trans ?_
    ·simp_all
    ·rw[<-Bm];exact d.append (ClsL.refl _ _)
 ·rintro _ ⟨R,rfl,hs,d⟩;have m:M.length - 1+1>=M.length:=by omega
  rw[Bo m]at d;rw[Bp m];grind
 ·simp_all
theorem zmz (X V S:List α) (k:Nat) (i:Int) (hi:i=(k:Int)) (a:X.length<=k) (b:k - X.length<V.length):idx (X++(V++S)) i=some V[k - X.length]:=by subst hi;unfold idx;grind
theorem zhs {lt:α->α->Bool} {V:List α} (A:SrtL lt V) (q:α->Bool) (c: ∀x y,lt y x=false->q y=true->q x=true) (hi: ∀x,lt x x=false) (k:Nat) (d:k<=V.length):
 ((∀h:0<k,q (V[k - 1]'(by omega))=true)->∀x∈V.take k,q x=true)/\((∀h:k<V.length,q V[k]=false)->∀x∈V.drop k,q x=false):=by
 have e:=Cq.1 A;constructor
 ·intro h x a;obtain ⟨i,b,rfl⟩:=Cj a;grind
 ·intro h x a;obtain ⟨i,b,rfl⟩:=Cj a;grind
def zrR {body:Int × Int->Option (Ctl (Int × Int) (Ctl Int R))} {f:Int->Option R} (G:Option R->Prop) (p:Nat->Bool) (a b:Nat) (i j:Int) (hi:i=(a:Int)) (d:j=(b:Int)) (e:a<=b) (g: ∀i j:Nat,a<=i->i<j->j<=b->body ((i:Int),(j:Int))=some (.go (if p ((i+j) / 2) then ((((i+j) / 2+1:Nat):Int),(j:Int)) else ((i:Int),(((i+j) / 2:Nat):Int))))) (h: ∀i:Nat,a<=i->i<=b->body ((i:Int),(i:Int))=some (.done (.go (i:Int)))) (k: ∀c:Nat,a<=c->c<=b->(a<c->p (c - 1)=true)->(c<b->p c=false)->G (f (c:Int))):G (bindC (loopO body (i,j)) f):=by subst hi d;obtain ⟨c,l,m,n,o,q⟩:=halve p a b e g h;simp_all
def zmy (i j:Nat) (h:i+j<=4611686018427387904):I6.wrap (ishr .u64 (IntKind.u64.wrap (I6.wrap ((i:Int)+(j:Int)))) (1:Int))=(((i+j) / 2:Nat):Int):=by rw[zwa (by omega) (by omega)];omega
def zpu (a b:Ac) (k:Bool->Option τ):((zq a b).bind λR=>k (Dc (R<(0:Int))))=k (entLt a b):=by obtain ⟨r,c,d,_⟩:=zeB a b;simp_all
theorem zy4 (f_:Nat) (P V S:List Ac) (u:Ac) (a m b:Int) (C:a=(P.length:Int)) (D:m=((P.length+1:Nat):Int)) (E:b=((P.length+1+V.length:Nat):Int)) (hl:P.length+1+V.length+S.length<=1048576) (hV:SrtL entLt V):
 ∃R,ze (f_+1) (P++(u::(V++S))) a m b=some (P++(R++S))/\SrtL entLt R/\ClsL keyE R ([u]++V):=by
 subst C D E;rw[ze];have w0:Dc (I6.wrap (((P.length+1:Nat):Int) - (P.length:Int))=(1:Int))=true:=by rw[za (by omega) (by omega)];exact decide_eq_true (by omega)
 simp only[w0,if_true];have eX:P++(u::(V++S))=(P++ [u])++(V++S):=by simp
 have lX:(P++ [u]).length=P.length+1:=by simp
 refine zrR (λx=>∃R,x=some (P++(R++S))/\SrtL entLt R/\ClsL keyE R ([u]++V)) (λh=>if l:h - (P.length+1)<V.length then entLt V[h - (P.length+1)] u else false) (P.length+1) (P.length+1+V.length) _ _ rfl rfl (by omega) ?_ ?_ ?_
 ·intro i j F G g;have H:Dc ((i:Int)<(j:Int))=true:=decide_eq_true (by omega);have l:(i+j) / 2 - (P.length+1)<V.length:=by omega
  have n:idx (P++(u::(V++S))) (((i+j) / 2:Nat):Int)=some V[(i+j) / 2 - (P.length+1)]:=by rw[eX,zmz (P++ [u]) V S ((i+j) / 2) _ rfl (by omega) (by omega)];simp
  have f:idx (P++(u::(V++S))) (P.length:Int)=some u:=zwc _ _ _ _ rfl;have I:I6.wrap ((((i+j) / 2:Nat):Int)+1)=(((i+j) / 2+1:Nat):Int):=by rw[za (by omega) (by omega)];omega
  simp only[H,if_true,zmy i j (by omega),n,f,An,I,dif_pos l];rw[zpu _ _ (λq=>bindC (if q=true then _ else _) _)];cases entLt V[(i+j) / 2 - (P.length+1)] u<;>rfl
 ·simp
 ·intro c F G g J;obtain ⟨k,rfl⟩: ∃k,c=P.length+1+k:=⟨c - (P.length+1),by omega⟩;have K:k<=V.length:=by omega
  obtain ⟨o,p⟩:=zhs hV (λx=>entLt x u) (λx y h L=>entOrd3.le_lt h L) (λx=>entOrd3.irr x x rfl) k K;have w:=o (λM=>by
   have:=g (by omega);have e:P.length+1+k - 1 - (P.length+1)=k - 1:=by omega
   grind)
  have z:=p (λM=>by simp_all);generalize hV1:V.take k=V1 at w;generalize hV2:V.drop k=V2 at z;have hVe:V=V1++V2:=by rw[<-hV1,<-hV2,Bt]
  have hV1l:V1.length=k:=by grind
  clear hV1 hV2 g J o p;subst hVe;have N:I6.wrap (((P.length+1+k:Nat):Int) - (1:Int))=((P.length+k:Nat):Int):=by rw[za (by omega) (by omega)];omega
  simp only[N];refine zb7 (τ:=Int × List Ac) (ρ:=List Ac) (R:=List Ac) (λx=>∃R,x=some (P++(R++S))/\SrtL entLt R/\ClsL keyE R ([u]++(V1++V2)))
   (λt s=>s=(((P.length+t:Nat):Int),P++(V1.take t++(u::(V1.drop t++(V2++S)))))) k (λr=>r= .go (P++((V1++u::V2)++S))) ?_ ?_ ?_ ?_
  ·simp
  ·rintro t _ Q rfl;left;have A:t<V1.length:=by omega
   have n:P++(V1.take t++(u::(V1.drop t++(V2++S))))=(P++V1.take t)++u::([]++V1[t]::(V1.drop (t+1)++(V2++S))):=by rw[Bh A];simp only[Bm,Db,By]
   have f:P++(V1.take (t+1)++(u::(V1.drop (t+1)++(V2++S))))=(P++V1.take t)++V1[t]::([]++u::(V1.drop (t+1)++(V2++S))):=by rw[zbc V1 t A];simp only[Bm,Db,By]
   have T:I6.wrap (((P.length+t:Nat):Int)+1)=((P.length+(t+1):Nat):Int):=by rw[za (by omega) (by omega)];omega
   obtain ⟨U,W,X,Y,Z,q6⟩:=zoG (P++V1.take t) [] (V1.drop (t+1)++(V2++S)) u V1[t] ((P.length+t:Nat):Int) ((P.length+(t+1):Nat):Int)
    (by grind) (by grind)
   simp_all
  ·grind
  ·rintro _ rfl;refine ⟨V1++u::V2,rfl,?_,?_⟩
   ·refine hV.left.append (Bl.2 ⟨λy d=>z y d,hV.right⟩) ?_;intro x B y d;rcases Da.1 d with rfl | d
    ·exact entOrd3.asym (w x B)
    ·exact hV.cross x B y d
   ·have f:V1++u::V2=(V1++ [u])++V2:=by simp
    have O: [u]++(V1++V2)=([u]++V1)++V2:=by simp
    rw[f,O];refine (ClsL.swap entOrd3 (u:=[u]) (v:=V1) ?_).append (ClsL.refl _ _);simp_all
theorem zyd (f_:Nat) (P U S:List Ac) (v:Ac) (a m b:Int) (B:a=(P.length:Int)) (C:m=((P.length+U.length:Nat):Int)) (D:b=((P.length+U.length+1:Nat):Int)) (hU1:1<U.length) (hl:P.length+1+U.length+S.length<=1048576) (hU:SrtL entLt U):
 ∃R,ze (f_+1) (P++(U++(v::S))) a m b=some (P++(R++S))/\SrtL entLt R/\ClsL keyE R (U++ [v]):=by
 subst B C D;rw[ze];have w0:Dc (I6.wrap (((P.length+U.length:Nat):Int) - (P.length:Int))=(1:Int))=false:=by rw[za (by omega) (by omega)];exact decide_eq_false (by omega)
 have g:Dc (I6.wrap (((P.length+U.length+1:Nat):Int) - ((P.length+U.length:Nat):Int))=(1:Int))=true:=by rw[za (by omega) (by omega)];exact decide_eq_true (by omega)
 simp only[w0,g,if_true,Ba,if_false];refine zrR (λx=>∃R,x=some (P++(R++S))/\SrtL entLt R/\ClsL keyE R (U++ [v])) (λh=>if l:h - P.length<U.length then !entLt v U[h - P.length] else false) P.length (P.length+U.length) _ _ rfl rfl (by omega) ?_ ?_ ?_
 ·intro i j E F n;have G:Dc ((i:Int)<(j:Int))=true:=decide_eq_true (by omega);have l:(i+j) / 2 - P.length<U.length:=by omega
  have o:idx (P++(U++(v::S))) (((i+j) / 2:Nat):Int)=some U[(i+j) / 2 - P.length]:=zmz P U (v::S) ((i+j) / 2) _ rfl (by omega) (by omega);have e:idx (P++(U++(v::S))) ((P.length+U.length:Nat):Int)=some v:=by rw[<-Bm];exact zwc _ _ _ _ (by simp)
  have g:I6.wrap ((((i+j) / 2:Nat):Int)+1)=(((i+j) / 2+1:Nat):Int):=by rw[za (by omega) (by omega)];omega
  simp only[G,if_true,zmy i j (by omega),o,e,An,g,dif_pos l];rw[zpu _ _ (λq=>bindC (if (!q)=true then _ else _) _)];cases entLt v U[(i+j) / 2 - P.length]<;>rfl
 ·simp
 ·intro c E F n H;obtain ⟨k,rfl⟩: ∃k,c=P.length+k:=⟨c - P.length,by omega⟩;have I:k<=U.length:=by omega
  obtain ⟨p,w⟩:=zhs hU (λx=>!entLt v x) (λx y h z=>by
   simp only[Eb]at z |-
   exact entOrd3.le_trans h z) (λx=>entOrd3.irr x x rfl) k I
  have J:=p (λK=>by grind);have L:=w (λK=>by simp_all);generalize hU1:U.take k=U1 at J;generalize hU2:U.drop k=U2 at L;have hUe:U=U1++U2:=by rw[<-hU1,<-hU2,Bt]
  have hU1l:U1.length=k:=by grind
  clear hU1 hU2 n H p w;subst hUe;rw[Bf]at*;refine zb7 (τ:=Int × List Ac) (ρ:=List Ac) (R:=List Ac) (λx=>∃R,x=some (P++(R++S))/\SrtL entLt R/\ClsL keyE R ((U1++U2)++ [v]))
   (λt s=>s=(((P.length+(U1.length+(U2.length - t)):Nat):Int),P++(U1++(U2.take (U2.length - t)++(v::(U2.drop (U2.length - t)++S)))))) U2.length (λr=>r= .go (P++((U1++v::U2)++S))) ?_ ?_ ?_ ?_
  ·simp
  ·rintro t _ Q rfl;left;obtain ⟨d,M⟩: ∃d,U2.length - t=d+1:=⟨U2.length - t - 1,by omega⟩;have T:U2.length - (t+1)=d:=by omega
   have A:d<U2.length:=by omega
   rw[M];have o:P++(U1++(U2.take (d+1)++(v::(U2.drop (d+1)++S))))=(P++(U1++U2.take d))++U2[d]::([]++v::(U2.drop (d+1)++S)):=by rw[zbc U2 d A];simp only[Bm,Db,By]
   have e:P++(U1++(U2.take d++(v::(U2.drop d++S))))=(P++(U1++U2.take d))++v::([]++U2[d]::(U2.drop (d+1)++S)):=by rw[Bh A];simp only[Bm,Db,By]
   have V:I6.wrap (((P.length+(U1.length+(d+1)):Nat):Int) - 1)=((P.length+(U1.length+d):Nat):Int):=by rw[za (by omega) (by omega)];omega
   obtain ⟨W,X,Y,Z,q5,q6⟩:=zoG (P++(U1++U2.take d)) [] (U2.drop (d+1)++S) U2[d] v ((P.length+(U1.length+d):Nat):Int) ((P.length+(U1.length+(d+1)):Nat):Int)
    (by grind) (by grind)
   grind
  ·simp_all
  ·rintro _ rfl;refine ⟨U1++v::U2,rfl,?_,?_⟩
   ·refine hU.left.append (Bl.2 ⟨λy f=>entOrd3.asym (by simp_all),hU.right⟩) ?_;intro x N y f;rcases Da.1 f with rfl | f
    ·simp_all
    ·exact hU.cross x N y f
   ·have e:U1++v::U2=U1++([v]++U2):=by simp
    have O:(U1++U2)++ [v]=U1++(U2++ [v]):=by simp
    rw[e,O];refine (ClsL.refl _ _).append (ClsL.swap entOrd3 (u:=U2) (v:=[v]) ?_);simp_all
def zpD (x y:Bool) (h:Option (List Ac)) (D A:List Ac) (k:List Ac->Option R) (b:x=true->y=true->h=some A) (a: ¬(x=true/\y=true)->D=A):
    ((if x=true then some y else some false).bind λT=>bindC (if T=true then (h.bind λR=>some (.go R)) else some (.go D)) k)=k A:=by
 cases x with
 | false=>rw[a (by simp)];rfl
 | true=>simp_all
theorem zvT: ∀(f_:Nat) (P U V S:List Ac) (a m b:Int) (A M B:Nat) (N:a=(A:Int)) (O:m=(M:Int)) (Q:b=(B:Int)) (hA:A=P.length) (hM:M=A+U.length) (hB:B=M+V.length) (hU0:0<U.length) (hV0:0<V.length)
 (s:U.length+V.length<=2 ^ f_) (hl:P.length+U.length+V.length+S.length<=1048576) (hU:SrtL entLt U) (hV:SrtL entLt V),
 ∃R,ze f_ (P++(U++(V++S))) a m b=some (P++(R++S))/\SrtL entLt R/\ClsL keyE R (U++V):=by
 intro f_;induction f_ with
 | zero=>omega
 | succ f_ ih=>
   intro P U V S a m b A M B N O Q hA hM hB hU0 hV0 s hl hU hV;rcases Ct 1 U.length with hU1 | hU1
   rcases Ct 1 V.length with hV1 | hV1
   ·
    rw[ze];subst N O Q;have w0:Dc (I6.wrap ((M:Int) - (A:Int))=(1:Int))=false:=by rw[za (by omega) (by omega)];exact decide_eq_false (by omega)
    have E:Dc (I6.wrap ((B:Int) - (M:Int))=(1:Int))=false:=by rw[za (by omega) (by omega)];exact decide_eq_false (by omega)
    obtain ⟨D,hD⟩: ∃D,D=(A+B) / 2:=⟨_,rfl⟩;have T:=zmy A B (by omega);rw[<-hD]at T;have Y:I6.wrap ((D:Int)+(M:Int))=((D+M:Nat):Int):=by rw[za (by omega) (by omega)];omega
    have Z:I6.wrap (((D+M:Nat):Int) - (1:Int))=((D+M - 1:Nat):Int):=by rw[za (by omega) (by omega)];omega
    simp only[w0,E,T,Y,Z,Ba,if_false];obtain ⟨s0,g,hs,b1,b2,b3,b4,b5,b6,b7⟩: ∃s0 g:Nat,(if (Dc ((M:Int)>(D:Int)))=true then (some (Ctl.go (ρ:=List Ac) (I6.wrap (((D+M:Nat):Int) - (B:Int)),(D:Int)))) else (some (.go ((A:Int),(M:Int)))))=some (.go ((s0:Int),(g:Int)))/\
     A<=s0/\s0<=g/\g<=M/\g<=D/\D+M<=s0+B/\(g=D\/g=M)/\(s0=A\/s0+B=D+M):=by
     rcases Ct D M with h | h
     ·refine ⟨D+M - B,D,?_,by omega,by omega,by omega,by omega,by omega,by omega,by omega⟩;rw[if_pos (decide_eq_true (by omega)),za (by omega) (by omega)];congr 3;omega
     ·refine ⟨A,M,?_,by omega,by omega,by omega,by omega,by omega,by omega,by omega⟩;rw[if_neg (by simp;omega)]
    rw[hs,zd];clear hs;refine zrR (λx=>∃R,x=some (P++(R++S))/\SrtL entLt R/\ClsL keyE R (U++V)) (λc=>if f:c - A<U.length/\D - 1 - c<V.length then !entLt (V[D - 1 - c]'f.2) (U[c - A]'f.1) else false) s0 g _ _ rfl rfl b2 ?_ ?_ ?_
    ·intro i j t w k;have F:Dc ((i:Int)<(j:Int))=true:=decide_eq_true (by omega);have f:(i+j) / 2 - A<U.length/\D - 1 - (i+j) / 2<V.length:=by omega
     have w5:I6.wrap (((D+M - 1:Nat):Int) - (((i+j) / 2:Nat):Int))=((D+M - 1 - (i+j) / 2:Nat):Int):=by rw[za (by omega) (by omega)];omega
     have z:idx (P++(U++(V++S))) (((i+j) / 2:Nat):Int)=some (U[(i+j) / 2 - A]'f.1):=by rw[zmz P U (V++S) ((i+j) / 2) _ rfl (by omega) (by omega)];congr 2;omega
     have C:idx (P++(U++(V++S))) ((D+M - 1 - (i+j) / 2:Nat):Int)=some (V[D - 1 - (i+j) / 2]'f.2):=by rw[<-Bm,zmz (P++U) V S (D+M - 1 - (i+j) / 2) _ rfl (by rw[Bf];omega) (by rw[Bf];omega)];congr 2;rw[Bf];omega
     have E:I6.wrap ((((i+j) / 2:Nat):Int)+1)=(((i+j) / 2+1:Nat):Int):=by rw[za (by omega) (by omega)];omega
     simp only[F,if_true,zmy i j (by omega),w5,z,C,An,E,dif_pos f];rw[zpu _ _ (λq=>bindC (if (!q)=true then _ else _) _)];cases entLt (V[D - 1 - (i+j) / 2]'f.2) (U[(i+j) / 2 - A]'f.1)<;>rfl
    ·intro i t w;have F:Dc ((i:Int)<(i:Int))=false:=decide_eq_false (by omega);simp only[F];rfl
    ·intro c t w k p;have G:c - A<=U.length:=by omega
     have H:D - c<=V.length:=by omega
     have x1: ∀x∈V.take (D - c),∀y∈U.drop (c - A),entLt x y=true:=by
      rcases Ct c g with l | l
      ·have f:c - A<U.length/\D - 1 - c<V.length:=by omega
       have p:=p l;rw[dif_pos f]at p;simp only[Fi]at p;have I:=(zhs hV (λx=>entLt x (U[c - A]'f.1)) (λx y h d=>entOrd3.le_lt h d) (λx=>entOrd3.irr x x rfl) (D - c) H).1 (λJ=>by
        have e:D - c - 1=D - 1 - c:=by omega
        simp only[e];exact p)
       intro x n y o;have t2:=(zhs hU (λy=>!entLt x y) (λK y2 h d=>by
        simp only[Eb]at d |-
        cases L:entLt x K with
        | false=>rfl
        | true=>rw[entOrd3.lt_le L h]at d;cases d) (λx=>entOrd3.irr x x rfl) (c - A) G).2 (λJ=>by rw[I x n];rfl) y o
       simpa using t2
      ·intro x n y o;rcases b6 with e | e
       ·have:D - c=0:=by omega
        rw[this]at n;simp at n
       ·grind
     have x2: ∀x∈U.take (c - A),∀y∈V.drop (D - c),entLt y x=false:=by
      rcases Ct s0 c with l | l
      ·have k:=k l;have f:c - 1 - A<U.length/\D - 1 - (c - 1)<V.length:=by refine Decidable.byContradiction λhn=>?_;rw[dif_neg hn]at k;cases k
       rw[dif_pos f]at k;simp only[Eb]at k;have I:=(zhs hV (λy=>entLt y (U[c - 1 - A]'f.1)) (λx y h d=>entOrd3.le_lt h d) (λx=>entOrd3.irr x x rfl) (D - c) H).2 (λJ=>by
        have e:D - c=D - 1 - (c - 1):=by omega
        simp only[e];exact k)
       intro x n y o;have t2:=(zhs hU (λx=>!entLt y x) (λK y2 h d=>by
        simp only[Eb]at d |-
        cases L:entLt y K with
        | false=>rfl
        | true=>rw[entOrd3.lt_le L h]at d;cases d) (λx=>entOrd3.irr x x rfl) (c - A) G).1 (λJ=>by
          have e:c - A - 1=c - 1 - A:=by omega
          simp only[e];rw[I y o];rfl) x n
       simpa using t2
      ·intro x n y o;rcases b7 with e | e
       ·have:c - A=0:=by omega
        rw[this]at n;simp at n
       ·rw[Bp (by omega)]at o;simp at o
     have hUe:U=U.take (c - A)++U.drop (c - A):=(Bt _ _).symm;have hVe:V=V.take (D - c)++V.drop (D - c):=(Bt _ _).symm;have l1:(U.take (c - A)).length=c - A:=by rw[Dd];omega
     have l2:(U.drop (c - A)).length=M - c:=by rw[Cr];omega
     have l3:(V.take (D - c)).length=D - c:=by rw[Dd];omega
     have l4:(V.drop (D - c)).length=B+c - (D+M):=by rw[Cr];omega
     generalize U.take (c - A)=U1 at*;generalize U.drop (c - A)=U2 at*;generalize V.take (D - c)=V1 at*;generalize V.drop (D - c)=V2 at*;subst hUe hVe;clear k p G H;have w6:I6.wrap (((D+M:Nat):Int) - (c:Int))=((D+M - c:Nat):Int):=by rw[za (by omega) (by omega)];omega
     simp only[Bf]at hM hB hl s;obtain ⟨R1,s1,W,q1,q2⟩: ∃R1,SrtL entLt R1/\ClsL keyE R1 (U1++V1)/\
      (Dc ((A:Int)<(c:Int))=true->Dc ((c:Int)<(D:Int))=true->ze f_ (P++(U1++(V1++(U2++(V2++S))))) (A:Int) (c:Int) (D:Int)=some (P++(R1++(U2++(V2++S)))))/\
      (¬(Dc ((A:Int)<(c:Int))=true/\Dc ((c:Int)<(D:Int))=true)->P++(U1++(V1++(U2++(V2++S))))=P++(R1++(U2++(V2++S)))):=by
      by_cases l:A<c/\c<D
      ·obtain ⟨R1,z,C,X⟩:=ih P U1 V1 (U2++(V2++S)) (A:Int) (c:Int) (D:Int) A c D rfl rfl rfl hA (by omega) (by omega) (by omega) (by omega) (by rw[Ge]at s;omega) (by simp only[Bf];omega) hU.left hV.left;exact ⟨R1,C,X,λ_ _=>z,λh=>absurd ⟨decide_eq_true (by omega),decide_eq_true (by omega)⟩ h⟩
      ·refine ⟨U1++V1,?_,ClsL.refl _ _,λh d=>absurd ⟨by have:=of_decide_eq_true h;omega,by have:=of_decide_eq_true d;omega⟩ l,λ_=>by simp⟩;have:U1= []\/V1= []:=by
        rcases Ct A c with h | h
        ·exact .inr (Bw (by omega))
        ·exact .inl (Bw (by omega))
       rcases this with e | e
       ·subst e;exact hV.left
       ·subst e;rw[Cx];exact hU.left
     have hR1:R1.length=D - A:=by rw[W.length,Bf];omega
     obtain ⟨R2,s2,k2,q3,q4⟩: ∃R2,SrtL entLt R2/\ClsL keyE R2 (U2++V2)/\
      (Dc ((D:Int)<((D+M - c:Nat):Int))=true->Dc (((D+M - c:Nat):Int)<(B:Int))=true->ze f_ (P++(R1++(U2++(V2++S)))) (D:Int) ((D+M - c:Nat):Int) (B:Int)=some (P++(R1++R2++S)))/\
      (¬(Dc ((D:Int)<((D+M - c:Nat):Int))=true/\Dc (((D+M - c:Nat):Int)<(B:Int))=true)->P++(R1++(U2++(V2++S)))=P++(R1++R2++S)):=by
      by_cases l:D<D+M - c/\D+M - c<B
      ·obtain ⟨R2,z,C,X⟩:=ih (P++R1) U2 V2 S (D:Int) ((D+M - c:Nat):Int) (B:Int) D (D+M - c) B rfl rfl rfl (by rw[Bf];omega) (by omega) (by omega) (by omega) (by omega) (by rw[Ge]at s;omega) (by simp only[Bf];omega) hU.right hV.right;grind
      ·refine ⟨U2++V2,?_,ClsL.refl _ _,λh d=>absurd ⟨by have:=of_decide_eq_true h;omega,by have:=of_decide_eq_true d;omega⟩ l,λ_=>by simp⟩;have:U2= []\/V2= []:=by
        rcases Ct D (D+M - c) with h | h
        ·exact .inr (Bw (by omega))
        ·exact .inl (Bw (by omega))
       rcases this with e | e
       ·subst e;exact hV.right
       ·subst e;rw[Cx];exact hU.right
     refine ⟨R1++R2,?_,mergeParts entOrd3 hU hV x1 x2 s1 W s2 k2⟩;simp only[w6];rw[zpD _ _ _ _ (P++(U1++(V1++(U2++(V2++S))))),zpD _ _ _ _ _ _ q1 q2,zpD _ _ _ _ _ _ q3 q4]
     ·intro h d;have h:=of_decide_eq_true h;have d:=of_decide_eq_true d;have:=zx4 (P++U1) U2 V1 (V2++S) (c:Int) (M:Int) ((D+M - c:Nat):Int) (by rw[Bf];omega) (by rw[Bf];omega) (by rw[Bf];omega) (by omega) (by omega) (by rw[Bf];omega);simp only[Bm]at this |-
      exact this
     ·intro h;have:U2= []\/V1= []:=by
       rcases Ct c M with t | t
       ·refine .inr (Bw ?_);rcases Ct M (D+M - c) with w | w
        ·exact absurd ⟨decide_eq_true (by omega),decide_eq_true (by omega)⟩ h
        ·omega
       ·exact .inl (Bw (by omega))
      rcases this with e | e
      ·subst e;simp
      ·subst e;simp
   ·obtain ⟨v,rfl⟩: ∃v,V= [v]:=by
     match V,hV0,hV1 with
     | [v],_,_=>exact ⟨v,rfl⟩
    exact zyd f_ P U S v a m b (by omega) (by omega) (by simp only[Dk]at hB;omega) hU1 (by simp only[Dk]at hl;omega) hU
   ·obtain ⟨u,rfl⟩: ∃u,U= [u]:=by
     match U,hU0,hU1 with
     | [u],_,_=>exact ⟨u,rfl⟩
    simp only[Dk]at hl hM;exact zy4 f_ P V S u a m b (by omega) (by omega) (by omega) (by omega) hV
theorem zpv (P Y A:List α) (i z:Nat) (h:i+z<=P.length):((P++Y).drop i).take z=((P++A).drop i).take z:=by grind
def zxo (W A S:List α) (i z:Nat) (h:W.length<=i) (a:A.length=W.length):((W++S).drop i).take z=((A++S).drop i).take z:=by rw[Fs,Fs,Bp h,Bp (l:=A) (by omega),a]
def cut3 (X:List α) (i z:Nat):X=X.take i++((X.drop i).take z++X.drop (i+z)):=by rw[show X.drop (i+z)=(X.drop i).drop z by simp,Bt,Bt]
def SrtL.nil {α:Type} {lt:α->α->Bool} :SrtL lt ([]:List α):=List.Pairwise.nil
def znn (P U V S:List Ac) (a m b:Int) (A M B:Nat) (c:a=(A:Int)) (d:m=(M:Int)) (e:b=(B:Int)) (E:A=P.length) (G:M=A+U.length) (F:B=M+V.length) (h:0<U.length) (D:0<V.length) (hl:P.length+U.length+V.length+S.length<=1048576) (I:SrtL entLt U) (J:SrtL entLt V):
    ∃R,zu (P++(U++(V++S))) a m b=some (P++(R++S))/\SrtL entLt R/\ClsL keyE R (U++V):=
 zvT 64 P U V S a m b A M B c d e E G F h D (Ey (show U.length+V.length<=1048576 by omega) (by decide)) hl I J
theorem zud (A:List Ac) (hl:A.length<=1048576) {f:Int × List Ac->Option R} (G:Option R->Prop) (g: ∀(t:Nat) (X:List Ac),X.length=A.length->ClsL keyE X A->t*20<=A.length->A.length<t*20+20->(∀i,i<t->SrtL entLt ((X.drop (i*20)).take 20))->G (f (((t*20:Nat):Int),X))):
 G (bindC (loopO (λ(B:Int × Int × List Ac)=>if (Dc (B.2.1<=(A.length:Int)))=true then ((zp B.2.2 B.1 B.2.1).bind λD=>
 some (.go (B.2.1,I6.wrap (B.2.1+(20:Int)),D)))
 else (some (.done (.go (B.1,B.2.2)))))
 ((0:Int),(20:Int),A)) f):=by
 refine zb7 (τ:=Int × Int × List Ac) (ρ:=Int × List Ac) (R:=R) G
  (λt s=>∃X:List Ac,s=(((t*20:Nat):Int),((t*20+20:Nat):Int),X)/\X.length=A.length/\ClsL keyE X A/\t*20<=A.length/\(∀i,i<t->SrtL entLt ((X.drop (i*20)).take 20)))
  (A.length+1) (λr=>∃(t:Nat) (X:List Ac),r= .go (((t*20:Nat):Int),X)/\X.length=A.length/\ClsL keyE X A/\t*20<=A.length/\A.length<t*20+20/\(∀i,i<t->SrtL entLt ((X.drop (i*20)).take 20)))
  ⟨A,rfl,rfl,ClsL.refl _ _,by omega,λi h=>by omega⟩ ?_ ?_ ?_
 ·rintro t _ j ⟨X,rfl,k,c,l,d⟩;rcases Ct A.length (t*20+20) with h | h
  ·grind
  ·left;have E:=cut3 X (t*20) 20;have O:(X.take (t*20)).length=t*20:=by grind
   have F:((X.drop (t*20)).take 20).length=20:=by grind
   have T:(X.drop (t*20+20)).length=A.length - (t*20+20):=by grind
   generalize X.take (t*20)=P at*;generalize (X.drop (t*20)).take 20=M at*;generalize X.drop (t*20+20)=S at*;subst E;obtain ⟨N,I,hs,a⟩:=zqI P M S ((t*20:Nat):Int) ((t*20+20:Nat):Int) (by omega) (by omega) (by omega);have J:N.length=20:=by rw[a.length,F]
   have m:I6.wrap (((t*20+20:Nat):Int)+20)=(((t+1)*20+20:Nat):Int):=by rw[za (by omega) (by omega)];omega
   have e:((t+1)*20:Nat)=t*20+20:=by omega
   refine ⟨(((t*20+20:Nat):Int),(((t+1)*20+20:Nat):Int),P++(N++S)),?_,P++(N++S),by rw[e],?_,?_,by omega,?_⟩
   ·grind
   ·simp_all
   ·exact ((ClsL.refl keyE P).append (a.append (ClsL.refl _ _))).trans c
   ·intro i hi;rcases Ct i t with b | b
    ·rw[zpv P _ (M++S) _ _ (by omega)];exact d i b
    ·grind
 ·omega
 ·simp_all
theorem zvR (E:List Ac) (n z:Nat) (q:E.length=n) (v:0<z) (w:z<n) (hl:n<=262144) (u: ∀i,SrtL entLt ((E.drop (i*z)).take z)) {f:List Ac->Option R} (G:Option R->Prop) (l: ∀(X:List Ac),X.length=n->ClsL keyE X E->(∀i,SrtL entLt ((X.drop (i*(2*z))).take (2*z)))->G (f X)):
 G (bindC (loopO (λ(B:Int × Int × List Ac)=>if (Dc (B.2.1<=(n:Int)))=true then ((zu B.2.2 B.1 (I6.wrap (B.1+(z:Int))) B.2.1).bind λT=>
 some (.go (B.2.1,I6.wrap (B.2.1+(I6.wrap ((2:Int)*(z:Int)))),T)))
 else (some (.done (.go (B.1,B.2.2)))))
 ((0:Int),I6.wrap ((2:Int)*(z:Int)),E))
 (λ(D:Int × List Ac)=>bindC (if (Dc (I6.wrap (D.1+(z:Int))<(n:Int)))=true then ((zu D.2 D.1 (I6.wrap (D.1+(z:Int))) (n:Int)).bind λW=>
 some (.go W))
 else (some (.go D.2))) f)):=by
 have w0:I6.wrap ((2:Int)*(z:Int))=((2*z:Nat):Int):=by rw[za (by omega) (by omega)];omega
 rw[w0];refine zb7 (τ:=Int × Int × List Ac) (ρ:=Int × List Ac) (R:=R) G
  (λt s=>∃(c:Nat) (X:List Ac),c=t*(2*z)/\s=((c:Int),((c+2*z:Nat):Int),X)/\X.length=n/\ClsL keyE X E/\c<=n/\(∀i,i<t->SrtL entLt ((X.drop (i*(2*z))).take (2*z)))/\(∀i,c<=i*z->SrtL entLt ((X.drop (i*z)).take z)))
  (n+1) (λr=>∃(t c:Nat) (X:List Ac),c=t*(2*z)/\r= .go ((c:Int),X)/\X.length=n/\ClsL keyE X E/\c<=n/\n<c+2*z/\(∀i,i<t->SrtL entLt ((X.drop (i*(2*z))).take (2*z)))/\(∀i,c<=i*z->SrtL entLt ((X.drop (i*z)).take z)))
  ⟨0,E,by omega,by simp,q,ClsL.refl _ _,by omega,λi h=>by omega,λi _=>u i⟩ ?_ ?_ ?_
 ·rintro t _ x ⟨c,X,m,rfl,j,d,o,g,b⟩;rcases Ct n (c+2*z) with h | h
  ·grind
  ·left;have I:=cut3 X c z;have F:=cut3 (X.drop (c+z)) 0 z;rw[Fa,By,Do,Dj]at F;rw[F]at I;have lP:(X.take c).length=c:=by grind
   have lU:((X.drop c).take z).length=z:=by simp;omega
   have lV:((X.drop (c+z)).take z).length=z:=by grind
   have lS:(X.drop (c+z+(0+z))).length=n - (c+2*z):=by grind
   have M:SrtL entLt ((X.drop c).take z):=by
    have:=b (2*t) (by grind)
    rwa [show 2*t*z=c by grind]at this
   have O:SrtL entLt ((X.drop (c+z)).take z):=by
    have:=b (2*t+1) (by grind)
    rwa [show (2*t+1)*z=c+z by grind]at this
   generalize X.take c=P at*;generalize (X.drop c).take z=U at*;generalize (X.drop (c+z)).take z=V at*;generalize X.drop (c+z+(0+z))=S at*;clear F;subst I;obtain ⟨N,J,hs,e⟩:=znn P U V S (c:Int) ((c+z:Nat):Int) ((c+2*z:Nat):Int) c (c+z) (c+2*z) rfl rfl rfl (by omega) (by omega) (by omega) (by omega) (by omega) (by omega) M O;have Z:N.length=2*z:=by rw[e.length,Bf,lU,lV];omega
   have y:I6.wrap (((c+2*z:Nat):Int)+((2*z:Nat):Int))=((c+2*z+2*z:Nat):Int):=by rw[za (by omega) (by omega)];omega
   have k:I6.wrap ((c:Int)+(z:Int))=((c+z:Nat):Int):=by rw[za (by omega) (by omega)];omega
   refine ⟨(((c+2*z:Nat):Int),((c+2*z+2*z:Nat):Int),P++(N++S)),?_,c+2*z,P++(N++S),by grind,rfl,?_,?_,h,?_,?_⟩
   ·rw[if_pos (decide_eq_true (by grind))];simp_all
   ·grind
   ·refine ClsL.trans ?_ d;rw[<-Bm U V S];exact (ClsL.refl keyE P).append (e.append (ClsL.refl _ _))
   ·intro i hi;rcases Ct i t with a | a
    ·rw[zpv P _ (U++(V++S)) _ _ (by have:=Eo (2*z) a;grind)];exact g i a
    ·grind
   ·intro i hi;have:=b i (by omega);rw[<-Bm,zxo (P++N) (P++(U++V)) S _ _ (by simp_all) (by grind)];simp_all
 ·rintro _ ⟨c,X,m,rfl,j,d,o,g,b⟩;have:(n+1)*1<=(n+1)*(2*z):=Fc _ (by omega);omega
 ·rintro _ ⟨t,c,X,m,rfl,j,d,o,A,g,b⟩;rw[zd];have k:I6.wrap ((c:Int)+(z:Int))=((c+z:Nat):Int):=by rw[za (by omega) (by omega)];omega
  have M:SrtL entLt ((X.drop c).take z):=by have:=b (2*t) (by grind);grind
  have O:SrtL entLt ((X.drop (c+z)).take z):=by have:=b (2*t+1) (by grind);grind
  have p: ∀(P N:List Ac),P=X.take c->N.length=n - c->SrtL entLt N->∀i,SrtL entLt (((P++N).drop (i*(2*z))).take (2*z)):=by
   intro P N hP Z hs i;have lP:P.length=c:=by simp_all
   rcases Ea i t with a | a | a
   ·have:=g i a;rw[show X=X.take c++X.drop c from (Bt _ _).symm,<-hP]at this;rw[zpv P N (X.drop c) _ _ (by have:=Eo (2*z) a;grind)];trivial
   ·subst a;rw[Ep (by omega),Bp (by omega),By,Bo (by omega)];trivial
   ·have:=Eo (2*z) a;rw[Nat.succ_mul]at this;rw[Bp (by grind),Gb];exact SrtL.nil
  rcases Ct (c+z) n with h | h
  ·rw[k,if_pos (decide_eq_true (by omega))];have I:=cut3 X c z;have lP:(X.take c).length=c:=by grind
   have lU:((X.drop c).take z).length=z:=by grind
   have lV:(X.drop (c+z)).length=n - (c+z):=by grind
   have lV2:(X.drop (c+z)).take z=X.drop (c+z):=Bo (by omega);rw[lV2]at O;generalize hP:X.take c=P at*;generalize (X.drop c).take z=U at*;generalize X.drop (c+z)=V at*;obtain ⟨N,J,hs,e⟩:=znn P U V [] (c:Int) ((c+z:Nat):Int) (n:Int) c (c+z) n rfl rfl rfl (by omega) (by omega) (by omega) (by omega) (by omega) (by grind) M O;simp only[Cx]at J;have Z:N.length=n - c:=by rw[e.length,Bf,lU,lV];omega
   rw[<-I]at J;simp only[J,An,zd];refine l (P++N) (by simp_all) ?_ (p P N rfl Z hs);refine ClsL.trans ?_ d;rw[I];exact (ClsL.refl keyE P).append e
  ·rw[k,if_neg (by grind),zd];refine l X j d ?_;have:=p (X.take c) (X.drop c) rfl (by simp_all) (by rwa [Bo (by grind)]at M);simp_all
theorem zyb (D:List Ac) (hl:D.length<=262144): ∃R,zO D=some R/\SrtL entLt R/\ClsL keyE R D:=by
 unfold zO;suffices h: ∃R,zS D (D.length:Int)=some R/\SrtL entLt R/\ClsL keyE R D by simp_all
 unfold zS;refine zud D (by omega) (λx=>∃R,x=some R/\SrtL entLt R/\ClsL keyE R D) ?_;intro t X v l w y A;have I:X=X.take (t*20)++(X.drop (t*20)++ []):=by simp
 have T:(X.take (t*20)).length=t*20:=by grind
 have J:(X.drop (t*20)).length=D.length - t*20:=by grind
 generalize X.take (t*20)=P at*;generalize X.drop (t*20)=M at*;subst I;obtain ⟨N,G,hs,d⟩:=zqI P M [] ((t*20:Nat):Int) (D.length:Int) (by omega) (by omega) (by grind);have O:N.length=D.length - t*20:=by rw[d.length];omega
 simp only[G,An];have e: ∀i,SrtL entLt (((P++(N++ [])).drop (i*20)).take 20):=by
  intro i;rcases Ea i t with c | c | c
  ·grind
  ·subst c;rw[Cx,Ep (by omega),Bp (by omega),By,Bo (by omega)];trivial
  ·rw[Bp (by grind),Gb];exact SrtL.nil
 have f:ClsL keyE (P++(N++ [])) D:=((ClsL.refl keyE P).append (d.append (ClsL.refl _ _))).trans l;have g:(P++(N++ [])).length=D.length:=by simp_all
 generalize P++(N++ [])=Y at e f g;refine zb7 (τ:=Int × List Ac) (ρ:=List Ac) (R:=List Ac) (λx=>∃R,x=some R/\SrtL entLt R/\ClsL keyE R D)
  (λk s=>∃(z:Nat) (X:List Ac),20+k<=z/\z<=1048576/\s=((z:Int),X)/\X.length=D.length/\ClsL keyE X D/\(∀i,SrtL entLt ((X.drop (i*z)).take z))) D.length
  (λr=>∃X,r= .go X/\SrtL entLt X/\ClsL keyE X D) ⟨20,Y,by omega,by omega,rfl,g,f,e⟩ ?_ ?_ ?_
 ·rintro k _ B ⟨z,X,m,n,rfl,j,a,b⟩;rcases Ct z D.length with h | h
  ·left;simp only;rw[if_pos (decide_eq_true (by omega))];refine zvR (R:=Ctl (Int × List Ac) (Ctl (List Ac) (List Ac))) X D.length z j (by omega) h hl b (λx=>∃E,x=some (.go E)/\∃(z:Nat) (X:List Ac),20+(k+1)<=z/\z<=1048576/\E=((z:Int),X)/\X.length=D.length/\ClsL keyE X D/\(∀i,SrtL entLt ((X.drop (i*z)).take z))) ?_;intro F o p q;have u:I6.wrap ((z:Int)*2)=((2*z:Nat):Int):=by rw[za (by omega) (by omega)];omega
   refine ⟨_,rfl,2*z,F,by omega,by omega,by rw[u],o,p.trans a,q⟩
  ·right;refine ⟨.go X,by grind,X,rfl,?_,a⟩;have:=b 0
   rwa [Gf,Do,Bo (by omega)]at this
 ·rintro _ ⟨z,X,m,n,rfl,j,a,b⟩;refine ⟨.go X,by grind,X,rfl,?_,a⟩;have:=b 0
  rwa [Gf,Do,Bo (by omega)]at this
 ·simp_all
theorem zzO [DecidableEq κ] [DecidableEq α] {lt:α->α->Bool} (o:Ord3 lt K): ∀(a b:List α),SrtL lt a->SrtL lt b->ClsL K a b->a=b:=by
 intro a;induction a with
 | nil=>intro b _ _ h;exact (Bw h.length.symm).symm
 | cons x a ih=>
   intro b f d h
   match b,d,h with
   | [],_,h=>exact absurd h.length (by simp)
   | y::b,d,h=>
     have i:K x=K y:=by
      have j:lt x y=false:=by
       rcases Da.1 (h.perm.mem_iff.1 (Fj)) with e | e
       ·rw[e];exact o.irr y y rfl
       ·exact (Bl.1 d).1 x e
      have k:lt y x=false:=by
       rcases Da.1 (h.perm.mem_iff.2 (Fj)) with e | e
       ·simp_all
       ·exact (Bl.1 f).1 y e
      rcases o.tri x y with t | t | t
      ·simp_all
      ·exact t
      ·simp_all
     have g:x=y:=by have:=h (K x);simp_all
     subst g;rw[ih b (Bl.1 f).2 (Bl.1 d).2];intro c;have:=h c;grind
def FstL [DecidableEq κ] (K:α->κ) (r l:List α):Prop:=∀c,r.filter (λx=>decide (K x=c))=(l.filter (λx=>decide (K x=c))).take 1
theorem FstL.mem [DecidableEq κ] {r l:List α} (h:FstL K r l) {x:α} (a:x∈r):x∈l:=by have:x∈r.filter (λy=>decide (K y=K x)):=Dl.2 ⟨a,by simp⟩;rw[h (K x)]at this;grind
def zuZ (h:ordE l):SrtL entLt l:=List.Pairwise.imp (λh=>entOrd3.asym h) h
def FstL.uniq {r h l':List Ac} (a:ordE r) (b:ordE h) (d:FstL keyE r l) (e:FstL keyE h l') (f:ClsL keyE l l'):r=h:=
 zzO entOrd3 r h (zuZ a) (zuZ b) λc=>by rw[d c,e c,f c]
def zks {a:Ac} (h: ∀x∈l,entLt a x=true\/entLt x a=true):l.filter (λx=>decide (keyE x=keyE a))= []:=by
 rw[Dx];intro x c b;have b:keyE x=keyE a:=by simp_all
 rcases h x c with e | e
 ·rw[entOrd3.irr a x b.symm]at e;cases e
 ·rw[entOrd3.irr x a b]at e;cases e
theorem zv2 (h:ordE l) (c:List UInt8 × Int):(l.filter (λx=>decide (keyE x=c))).take 1=l.filter (λx=>decide (keyE x=c)):=by
 have a:=h.filter (λx=>decide (keyE x=c))
 match d:l.filter (λx=>decide (keyE x=c)),a with
 | [],_=>rfl
 | [x],_=>rfl
 | x::y::t,a=>
   have b:=(Bl.1 a).1 y (by simp);have e:x∈l.filter (λx=>decide (keyE x=c)):=by simp_all
   have f:y∈l.filter (λx=>decide (keyE x=c)):=by simp_all
   have A:keyE x=c:=by grind
   have B:keyE y=c:=by grind
   rw[entOrd3.irr x y (A.trans B.symm)]at b;cases b
def skp (a:Ac):List Ac->List Ac
 | []=>[]
 | x::r=>if entLt a x=true then x::r else r
def mg:List Ac->List Ac->List Ac
 | [],e=>e
 | a::t,e=>e.takeWhile (λx=>entLt x a)++a::mg t (skp a (e.dropWhile (λx=>entLt x a)))
def zl5 (a:Ac): ∀(e:List Ac),ordE e->∀x∈e.dropWhile (λx=>entLt x a),entLt x a=false
 | [],_,x,b=>by trivial
 | y::e,h,x,b=>by
   rw[List.dropWhile_cons]at b;cases c:entLt y a with
   | true=>rw[c,if_pos rfl]at b;exact zl5 a e (Bl.1 h).2 x b
   | false=>
     rw[c]at b;rcases Da.1 (show x∈y::e from b) with rfl | b
     ·trivial
     ·exact entOrd3.le_trans c (entOrd3.asym ((Bl.1 h).1 x b))
theorem zz6 (a:Ac) (l:List Ac) (h:ordE l) (f: ∀x∈l,entLt x a=false):ordE (skp a l)/\(∀x∈skp a l,entLt a x=true)/\∀c,c≠keyE a->(skp a l).filter (λx=>decide (keyE x=c))=l.filter (λx=>decide (keyE x=c)):=by
 match l,h,f with
 | [],_,_=>exact ⟨List.Pairwise.nil,λx b=>by trivial,λc _=>rfl⟩
 | y::t,h,f=>
   have d:=Bl.1 h;have e:skp a (y::t)=if entLt a y=true then y::t else t:=rfl
   rw[e];cases g:entLt a y with
   | true=>
     rw[if_pos rfl];refine ⟨h,λx b=>?_,λc _=>rfl⟩;rcases Da.1 b with rfl | b
     ·trivial
     ·exact entOrd3.trans a y x g (d.1 x b)
   | false=>
     rw[if_neg (by simp)];have i:keyE a=keyE y:=by
      rcases entOrd3.tri a y with t | t | t
      ·simp_all
      ·exact t
      ·simp_all
     refine ⟨d.2,λx b=>?_,λc j=>?_⟩
     ·exact entOrd3.le_lt (entOrd3.irr y a i.symm) (d.1 x b)
     ·grind
theorem zyO: ∀(l e:List Ac),ordE l->ordE e->ordE (mg l e)/\FstL keyE (mg l e) (l++e):=by
 intro l;induction l with
 | nil=>intro e _ f;exact ⟨f,λc=>(zv2 f c).symm⟩
 | cons a t ih=>
   intro e hl f;unfold mg;have j:=Bl.1 hl;have D:e=e.takeWhile (λx=>entLt x a)++e.dropWhile (λx=>entLt x a):=(Em).symm;have q:=zl5 a e f;have h: ∀x∈e.takeWhile (λx=>entLt x a),entLt x a=true:=λx b=>by have:=Ds.1 (List.all_takeWhile (p:=λx=>entLt x a) (l:=e)) x b;trivial
   generalize e.takeWhile (λx=>entLt x a)=E1 at*;generalize e.dropWhile (λx=>entLt x a)=E2 at*;subst D;have g:=Cv.1 f;obtain ⟨s,z,u⟩:=zz6 a E2 g.2.1 q;generalize skp a E2=E3 at*;obtain ⟨v,k⟩:=ih E3 j.2 s;have i: ∀x∈mg t E3,entLt a x=true:=λx b=>by
    rcases Di.1 (k.mem b) with b | b
    ·simp_all
    ·simp_all
   refine ⟨Cv.2 ⟨g.1,Bl.2 ⟨i,v⟩,?_⟩,?_⟩
   ·intro x b y d;rcases Da.1 d with rfl | d
    ·simp_all
    ·exact entOrd3.trans x a y (h x b) (i y d)
   ·intro c;by_cases m:keyE a=c
    ·subst m;rw[Bz,Ez (by simp),zks (l:=E1) (a:=a) (λx b=>.inr (h x b)),zks (l:=mg t E3) (a:=a) (λx b=>.inl (i x b)),Db,Ez (by simp)];rfl
    ·have n:=k c;rw[Bz]at n;rw[Bz,Df (by simp_all),n,Db,Df (by simp_all),Bz,Bz,u c (λe=>m e.symm)]
     match A:E1.filter (λx=>decide (keyE x=c)) with
     | []=>rw[By,By]
     | x::r=>
       have b:x∈E1.filter (λx=>decide (keyE x=c)):=by simp_all
       have o:=(Dl.1 b).1;have w:keyE x=c:=by grind
       subst w;have B:t.filter (λy=>decide (keyE y=keyE x))= []:=zks λy d=>.inl (entOrd3.trans x a y (h x o) (j.1 y d));have t2:E2.filter (λy=>decide (keyE y=keyE x))= []:=zks λy d=>.inl (g.2.2 x o y d);have C:=zv2 g.1 (keyE x);grind
def ddA:Option Ac->List Ac->List Ac
 | _,[]=>[]
 | p,x::t=>if p.any (λy=>decide (keyE y=keyE x))=true then ddA (some x) t else x::ddA (some x) t
theorem zyx: ∀(l:List Ac) (y:Ac),SrtL entLt (y::l)->ordE (y::ddA (some y) l)/\∀c,(ddA (some y) l).filter (λx=>decide (keyE x=c))=if keyE y=c then [] else (l.filter (λx=>decide (keyE x=c))).take 1:=by
 intro l;induction l with
 | nil=>intro y _;exact ⟨by simp[ddA,ordE],λc=>by simp[ddA]⟩
 | cons x t ih=>
   intro y h;have b:=Bl.1 h;have k:=Bl.1 b.2;obtain ⟨d,f⟩:=ih x b.2;have j1:=Bl.1 d;by_cases g:keyE y=keyE x
   ·have e:ddA (some y) (x::t)=ddA (some x) t:=by show (if _ then _ else _)=_;simp_all
    rw[e];refine ⟨Bl.2 ⟨λz a=>entOrd3.le_lt (entOrd3.irr x y g.symm) (j1.1 z a),j1.2⟩,λc=>?_⟩;rw[f c,<-g];grind
   ·have e:ddA (some y) (x::t)=x::ddA (some x) t:=by show (if _ then _ else _)=_;simp_all
    rw[e];have i:entLt y x=true:=by
     rcases entOrd3.tri y x with q | q | q
     ·exact q
     ·trivial
     ·simp_all
    refine ⟨Bl.2 ⟨λz a=>?_,d⟩,λc=>?_⟩
    ·rcases Da.1 a with rfl | a
     ·trivial
     ·exact entOrd3.trans y x z i (j1.1 z a)
    ·by_cases j:keyE x=c
     ·subst j;simp_all
     ·rw[Df (by simp_all),Df (by simp_all),f,if_neg j];by_cases m:keyE y=c
      ·subst m;rw[if_pos rfl,zks (λz a=>.inl (entOrd3.lt_le i (k.1 z a)))];rfl
      ·simp_all
def zyw (l:List Ac) (h:SrtL entLt l):ordE (ddA none l)/\FstL keyE (ddA none l) l:=by
 match l,h with
 | [],_=>exact ⟨List.Pairwise.nil,λc=>rfl⟩
 | x::t,h=>
   obtain ⟨b,d⟩:=zyx t x h;have e:ddA none (x::t)=x::ddA (some x) t:=rfl;rw[e];refine ⟨b,λc=>?_⟩;by_cases a:keyE x=c
   ·subst a;simp_all
   ·rw[Df (by simp_all),Df (by simp_all),d,if_neg a]
def ziF: ∀(L:List (List Ac)) (A F:List Ac),(∀e∈L,ordE e)->ordE A->FstL keyE A F->ordE (L.foldl mg A)/\FstL keyE (L.foldl mg A) (F++L.flatten):=by
 intro L;induction L with
 | nil=>intro A F _ a b;simpa using ⟨a,b⟩
 | cons e L ih=>
   intro A F h a b;obtain ⟨m1,m2⟩:=zyO A e a (h e (by simp));have:=ih (mg A e) (F++e) (λB d=>h B (Ed _ d)) m1 (λc=>by
    rw[m2 c,Bz,Bz,b c]
    match F.filter (λx=>decide (keyE x=c)) with
    | []=>rfl
    | x::r=>rfl)
   simp_all
def zq6 (l:List α) (b:Nat) (hi:Int) (a:hi=(b:Int)) (c:b<=l.length):piece l (0:Int) hi=some (l.take b):=by rw[zZ l 0 b 0 hi rfl a (by omega) c];simp
def zcC (l:List (List Ac)):l.flatten.length=totalV l:=by unfold totalV;simp
theorem zvA (n:Nat) (h:n<=1048576):zcL (n:Int)=some []:=by
 unfold zcL;rw[if_neg (by simp)];have a:I6.wrap (((0:Nat):Int) - ((([]:List Ac).length:Nat):Int))=0:=by rfl
 have b:I6.wrap ((n:Int) - 0)=(n:Int):=by rw[za (by omega) (by omega)];omega
 simp only[a,b];rcases Nat.eq_zero_or_pos n with c | c
 ·simp_all
 ·have z:zapp 48 (n:Int)=some n:=by unfold zapp;grind
  rw[if_pos (decide_eq_true (by omega)),z];rfl
theorem zxu (l:List (List Ac)) (h:l.length<=1048576) (i:totalV l<=1048576):zdo l=some l.flatten:=by
 unfold zdo;have b: ∀k,k<=l.length->totalV (l.take k)<=totalV l:=by intro k _;have:=zcC l;have e:=zcC (l.take k);rw[<-Bt k l,Ff,Bf]at this;simp_all;omega
 have c: ∀k (a:k<l.length),(l.take (k+1)).flatten=(l.take k).flatten++l[k]:=by intro k a;rw[zbc l k a,Ff];simp
 have d: ∀k (a:k<l.length),totalV (l.take (k+1))=totalV (l.take k)+l[k].length:=by intro k a;rw[<-zcC,c k a,Bf,zcC]
 refine zb7 (τ:=Int × Int) (ρ:=Int) (R:=List Ac) (λx=>x=some l.flatten) (λk s=>s=((totalV (l.take k):Int),(k:Int))) l.length (λr=>r= .go (totalV l:Int)) ?_ ?_ ?_ ?_
 ·rfl
 ·rintro k _ a rfl;left;have f:idx l (k:Int)=some l[k]:=zb l k a;have j:=d k a;have m:=b (k+1) (by omega);have n:I6.wrap ((totalV (l.take k):Int)+((l[k].length:Nat):Int))=(totalV (l.take (k+1)):Int):=by rw[za (by omega) (by omega)];omega
  have g:I6.wrap ((k:Int)+1)=((k+1:Nat):Int):=by rw[za (by omega) (by omega)];omega
  grind
 ·simp
 ·rintro _ rfl;rw[zd,zvA _ i];simp only[An];refine zb7 (τ:=Int × List Ac) (ρ:=List Ac) (R:=List Ac) (λx=>x=some l.flatten) (λk s=>s=((k:Int),(l.take k).flatten)) l.length (λr=>r= .go l.flatten) ?_ ?_ ?_ ?_
  ·rfl
  ·rintro k _ a rfl;left;have f:idx l (k:Int)=some l[k]:=zb l k a;have j:=d k a;have m:=b (k+1) (by omega);have o:=zcC (l.take k);have g:I6.wrap ((k:Int)+1)=((k+1:Nat):Int):=by rw[za (by omega) (by omega)];omega
   refine ⟨_,?_,rfl⟩;simp only[f,An,g];rw[if_pos (decide_eq_true (by omega)),zg (by omega) (by omega),c k a];rfl
  ·simp
  ·simp
def zpf (a b:Ac):zeQ a b=some (Dc (keyE a=keyE b)):=by
 unfold zeQ;by_cases c:a.g=b.g
 ·simp_all
 ·simp_all
def zxw (y x:Ac) (t:List Ac):ddA (some y) (x::t)=if keyE y=keyE x then ddA (some x) t else x::ddA (some x) t:=by show (if _ then _ else _)=_;simp
theorem zvv (s:List Ac) (h:s.length<=1048576):z9 s=some (ddA none s):=by
 unfold z9;by_cases c:s.length<2
 ·rw[if_pos (decide_eq_true (by omega))]
  match s,c with
  | [],_=>rfl
  | [x],_=>rfl
  | _::_::_,c=>simp at c;omega
 ·rw[if_neg (by grind)];refine zb7 (τ:=Int) (ρ:=Unit) (R:=List Ac) (λx=>x=some (ddA none s)) (λt i=>i=((t+1:Nat):Int)/\∃h:t<s.length,ddA none s=s.take (t+1)++ddA (some s[t]) (s.drop (t+1))) (s.length - 1)
   (λr=>(r= .go ()/\ddA none s=s)\/r= .done (ddA none s)) ⟨rfl,by omega,?_⟩ ?_ ?_ ?_
  ·match s,c with
   | [],c=>simp at c
   | x::t,_=>rfl
  ·rintro t _ M ⟨rfl,v,a⟩;have d:t+1<s.length:=by omega
   have C:idx s ((t+1:Nat):Int)=some s[t+1]:=zb s (t+1) d;have D:I6.wrap (((t+1:Nat):Int) - 1)=((t:Nat):Int):=by rw[za (by omega) (by omega)];omega
   have E:I6.wrap (((t+1:Nat):Int)+1)=((t+1+1:Nat):Int):=by rw[za (by omega) (by omega)];omega
   have F:idx s ((t:Nat):Int)=some s[t]:=zb s t v;rw[Bh d,zxw]at a;have G:Dc (((t+1:Nat):Int)<(s.length:Int))=true:=decide_eq_true (by omega);simp only[G,if_true,C,D,F,An,zpf];by_cases n:keyE s[t+1]=keyE s[t]
   ·rw[if_pos (decide_eq_true n)];rw[if_pos n.symm]at a;rw[zZ s (t+1) s.length _ _ rfl rfl (by omega) (by omega)];simp only[An];right;refine zb7 (τ:=Int × Int × List Ac) (ρ:=Int × List Ac) (R:=Ctl Int (Ctl Unit (List Ac))) (λx=>∃r,x=some (.done r)/\((r= .go ()/\ddA none s=s)\/r= .done (ddA none s)))
     (λu q=>∃(k:Nat) (O:List Ac),q=((k:Int),((u+1:Nat):Int),O)/\O.length=s.length/\k<=t+1+u/\O.drop (t+1+u)=s.drop (t+1+u)/\∃h:t+1+u<s.length,ddA none s=O.take k++ddA (some s[t+1+u]) (s.drop (t+1+u+1))) (s.length - (t+2))
     (λr=>∃(k:Nat) (O:List Ac),r= .go ((k:Int),O)/\O.length=s.length/\k<=s.length/\ddA none s=O.take k)
     ⟨t+1,s,rfl,rfl,by omega,rfl,d,a⟩ ?_ ?_ ?_
    ·rintro u _ w ⟨k,O,rfl,g,y,f,z,b⟩;left;have m:t+1+u+1<s.length:=by omega
     have o:piece O ((t+1:Nat):Int) (s.length:Int)=some (O.drop (t+1)):=by rw[zZ O (t+1) s.length _ _ rfl rfl (by omega) (by omega),Bo (by simp_all)]
     have p:Dc (((u+1:Nat):Int)<(((O.drop (t+1)).length:Nat):Int))=true:=decide_eq_true (by grind);have A: ∀j (H:t+1+u+j<s.length),idx (O.drop (t+1)) ((u+j:Nat):Int)=some s[t+1+u+j]:=by intro j H;rw[zb _ (u+j) (by grind),List.getElem_drop];have:=congrArg (λl=>l[j]?) f;grind
     have I:I6.wrap (((u+1:Nat):Int) - 1)=((u+0:Nat):Int):=by rw[za (by omega) (by omega)];omega
     have J:I6.wrap (((u+1:Nat):Int)+1)=((u+1+1:Nat):Int):=by rw[za (by omega) (by omega)];omega
     simp only[o,An,p,if_true,A 1 m,I,A 0 z,zpf,J];rw[Bh m,zxw]at b;have N:s[t+1+u+0]=s[t+1+u]:=rfl;by_cases B:keyE s[t+1+u+1]=keyE s[t+1+u]
     ·rw[if_pos B.symm]at b;rw[if_neg (by simp_all)];refine ⟨_,rfl,k,O,rfl,g,by omega,?_,m,b⟩;have:=congrArg (List.drop 1) f;rw[Dj,Dj]at this;trivial
     ·rw[if_neg (λe=>B e.symm)]at b;rw[if_pos (by grind)];have K:idx O (k:Int)=some O[k]:=zb O k (by omega);have L:I6.wrap ((k:Int)+1)=((k+1:Nat):Int):=by rw[za (by omega) (by omega)];omega
      simp only[K,An,L,Dg];refine ⟨_,rfl,k+1,O.set k s[t+1+u+1],rfl,by simp_all,by omega,?_,m,?_⟩
      ·rw[List.drop_set_of_lt (by omega)];have:=congrArg (List.drop 1) f;rw[Dj,Dj]at this;trivial
      ·rw[b,List.take_succ_eq_append_getElem (by grind),List.take_set_of_le (by omega)];grind
    ·rintro _ ⟨k,O,rfl,g,y,f,z,b⟩;have w:t+1+(s.length - (t+2))+1=s.length:=by omega
     rw[w,El]at b;have o:piece O ((t+1:Nat):Int) (s.length:Int)=some (O.drop (t+1)):=by rw[zZ O (t+1) s.length _ _ rfl rfl (by omega) (by omega),Bo (by simp_all)]
     have p:Dc (((s.length - (t+2)+1:Nat):Int)<(((O.drop (t+1)).length:Nat):Int))=false:=decide_eq_false (by grind);simp only[o,An,p];refine ⟨_,rfl,k,O,rfl,g,by omega,?_⟩;rw[b];exact Cx _
    ·rintro _ ⟨k,O,rfl,g,y,f⟩;rw[zd];simp only;rw[zZ O k O.length _ _ rfl rfl (by omega) (by omega),zq6 O k _ rfl (by omega)];simp_all
   ·left;rw[if_neg (by simp_all),E];rw[if_neg (λe=>n e.symm)]at a;refine ⟨_,rfl,rfl,d,?_⟩;rw[zbc s (t+1) d,Bm];trivial
  ·rintro _ ⟨rfl,v,a⟩;refine ⟨.go (),?_,.inl ⟨rfl,?_⟩⟩
   ·grind
   ·have e:s.length - 1+1=s.length:=by omega
    rw[e,Eg,El]at a;rw[a];exact Cx _
  ·rintro _ (⟨rfl,a⟩ | rfl)
   ·simp_all
   ·rfl
def zs6 (l:List (List Ac)) (h:l.length<=1048576) (j:totalV l<=262144) (b: ∀e∈l,ordE e):zca l=some (l.foldl mg []):=by unfold zca;rw[zxu l h (by omega)];simp only[An];obtain ⟨R,d,f,a⟩:=zyb l.flatten (by rw[zcC];trivial);have A:R.length=l.flatten.length:=a.length;rw[zcC]at A;rw[d];simp only[An];rw[zvv R (by omega)];simp only[An];obtain ⟨g,i⟩:=zyw R f;obtain ⟨m1,m2⟩:=ziF l [] [] b List.Pairwise.nil (λc=>rfl);have:ddA none R=l.foldl mg []:=FstL.uniq g m1 i m2 a;rw[this];unfold zgw;rw[zq6 _ _ _ rfl (Cy _),Eg];rfl
theorem zzN (a:Ac) (l:List Ac):(skp a l).length<=l.length:=by
 match l with
 | []=>exact Cy _
 | x::r=>show (if entLt a x=true then x::r else r).length<=_;grind
theorem zxZ: ∀(l e:List Ac),(mg l e).length<=l.length+e.length:=by
 intro l;induction l with
 | nil=>intro e;simp[mg]
 | cons a t ih=>
   intro e;have b:=ih (skp a (e.dropWhile (λx=>entLt x a)));have c:=zzN a (e.dropWhile (λx=>entLt x a));have d:(e.takeWhile (λx=>entLt x a)).length+(e.dropWhile (λx=>entLt x a)).length=e.length:=by rw[<-Bf,Em]
   show (_++_::_).length<=_;grind
theorem zkv: ∀(L:List (List Ac)) (h:List Ac),(L.foldl mg h).length<=h.length+totalV L:=by
 intro L;induction L with
 | nil=>intro h;simp
 | cons e L ih=>
   intro h;have a:=ih (mg h e);have b:=zxZ h e;have c:totalV (e::L)=e.length+totalV L:=by rfl
   grind
def zor {l:List (List Ac)} {e:List Ac} (h:e∈l):e.length<=totalV l:=ze8 Ej h
def zz3 (e:List Ac):mg [] e=e:=rfl
def zzD (a:Ac) (t e:List Ac):mg (a::t) e=e.takeWhile (λx=>entLt x a)++a::mg t (skp a (e.dropWhile (λx=>entLt x a))):=rfl
def mergeOk (l:List (List Ac)):Bool:=Dc (totalV l<=400)&&l.all entsV
def mergeR (l:List (List Ac)):List Ac:=bif mergeOk l then l.foldl mg [] else []
def zmr (p:α->Bool) (x:α) (t:List α) (h:p x=false):(x::t).takeWhile p= []/\(x::t).dropWhile p=x::t:=by simp_all
def zms (p:α->Bool) (x:α) (t:List α) (h:p x=true):(x::t).takeWhile p=x::t.takeWhile p/\(x::t).dropWhile p=t.dropWhile p:=by simp_all
theorem zjO (l:List (List Ac)) (h:l.length<=1048576) (A:totalV l<=1048576):zep l=some (mergeR l):=by
 unfold zep;have B: ∀e∈l,entsV e=false->mergeR l= []:=by
  intro e n p;have:l.all entsV=false:=by grind
  unfold mergeR mergeOk;grind
 have M:400<totalV l->mergeR l= []:=by intro N;unfold mergeR mergeOk;grind
 refine zb7 (τ:=Int × List Ac) (ρ:=List Ac) (R:=List Ac) (λx=>x=some (mergeR l)) (λk s=>s=((k:Int),(l.take k).foldl mg [])/\∀e∈l.take k,entsV e=true) l.length
  (λr=>(r= .go (l.foldl mg [])/\∀e∈l,entsV e=true)\/(r= .done []/\mergeR l= [])) ⟨rfl,by simp⟩ ?_ ?_ ?_
 ·rintro k _ d ⟨rfl,p⟩;have w:l[k]∈l:=De d;have n:=zor w;have C:=zkv (l.take k) [];have O:=zkk l k d;have P:=zm3 l (k+1);rw[Ft,Fk]at C;have Q:(l.take (k+1)).foldl mg []=mg ((l.take k).foldl mg []) l[k]:=by rw[zbc l k d,Fq];rfl
  generalize S:(l.take k).foldl mg []=acc at*;have D:Dc ((k:Int)<(l.length:Int))=true:=decide_eq_true (by omega);simp only[D,if_true,zb l k d,An,zgp l[k] (by omega)];cases E:entsV l[k] with
  | false=>exact .inr ⟨_,rfl,.inr ⟨rfl,B _ w E⟩⟩
  | true=>
    by_cases T:l[k].length>400
    ·grind
    ·rw[decide_eq_false (by omega)];by_cases U:acc.length>400
     ·grind
     ·rw[decide_eq_false (by omega)];have F:app 48 ([]:List Ac) l[k]=some l[k]:=zg (by grind) (by grind);simp only[Cg,Ba,if_false,An,F];left;have V:ordE acc:=by have:=ziF (l.take k) [] [] (λe n=>((zbn e).1 (p e n)).2) List.Pairwise.nil (λc=>rfl);simp_all
      have W: ∀e∈l.take (k+1),entsV e=true:=by intro e n;rw[zbc l k d]at n;grind
      have X: ∀(out:List Ac) (j:Nat),j<=l[k].length->out++l[k].drop j=mg acc l[k]->∃s',((piece l[k] (j:Int) ((l[k].length:Nat):Int)).bind λE73=>(app 48 out E73).bind λE76=>some (Ctl.go (ρ:=Ctl (List Ac) (List Ac)) (I6.wrap ((k:Int)+(1:Int)),E76)))=some (.go s')/\s'=(((k+1:Nat):Int),(l.take (k+1)).foldl mg [])/\∀e∈l.take (k+1),entsV e=true:=by intro out j o f;have Y:=zxZ acc l[k];have G:=congrArg Ej f;rw[Bf,Cr]at G;rw[zZ l[k] j l[k].length _ _ rfl rfl o (Cy _),Bo (by simp)];simp only[An];rw[zg (by grind) (by grind),f,za (by omega) (by omega)];simp_all
      generalize l[k]=e at*;refine zb7 (τ:=Int × Int × List Ac) (ρ:=Int × List Ac) (R:=Ctl (Int × List Ac) (Ctl (List Ac) (List Ac))) (λx=>∃s',x=some (.go s')/\s'=(((k+1:Nat):Int),(l.take (k+1)).foldl mg [])/\∀e∈l.take (k+1),entsV e=true)
       (λi s=>∃(j:Nat) (out:List Ac),s=((j:Int),(i:Int),out)/\j<=e.length/\out++mg (acc.drop i) (e.drop j)=mg acc e/\out.length<=i+j) acc.length
       (λr=>∃(j:Nat) (out:List Ac),r= .go ((j:Int),out)/\j<=e.length/\out++e.drop j=mg acc e) ⟨0,[],rfl,by omega,by simp,by simp⟩ ?_ ?_ ?_
      ·rintro i _ hi ⟨j,out,rfl,o,f,y⟩;left;have H:Dc ((i:Int)<(acc.length:Int))=true:=decide_eq_true (by omega);simp only[H,if_true,zb acc i hi,An];rw[Bh hi,zzD]at f;refine zb7 (τ:=Int × List Ac) (ρ:=Int × List Ac) (R:=Ctl (Int × Int × List Ac) (Ctl (Int × List Ac) (Ctl (Int × List Ac) (Ctl (List Ac) (List Ac)))))
        (λx=>∃s',x=some (.go s')/\∃(j:Nat) (out:List Ac),s'=((j:Int),((i+1:Nat):Int),out)/\j<=e.length/\out++mg (acc.drop (i+1)) (e.drop j)=mg acc e/\out.length<=i+1+j)
        (λt s=>∃(j':Nat) (out':List Ac),s=((j':Int),out')/\j'=j+t/\j'<=e.length/\out'++((e.drop j').takeWhile (λx=>entLt x acc[i])++acc[i]::mg (acc.drop (i+1)) (skp acc[i] ((e.drop j').dropWhile (λx=>entLt x acc[i]))))=mg acc e/\out'.length<=i+j') (e.length - j)
        (λr=>∃(j':Nat) (out':List Ac),r= .go ((j':Int),out')/\j'<=e.length/\out'++(acc[i]::mg (acc.drop (i+1)) (skp acc[i] (e.drop j')))=mg acc e/\out'.length<=i+j') ⟨j,out,rfl,rfl,o,f,y⟩ ?_ ?_ ?_
       ·rintro t _ A ⟨j',out',rfl,I,z,a,q⟩;have b:j'<e.length:=by omega
        have g:Dc ((j':Int)<(e.length:Int))=true:=decide_eq_true (by omega);simp only[g,if_true,zb e j' b,An,zdP];rw[Bh b]at a;cases m:entLt e[j'] acc[i] with
        | true=>left;rw[(zms (λx=>entLt x acc[i]) _ _ m).1,(zms (λx=>entLt x acc[i]) _ _ m).2]at a;rw[if_pos rfl,zg (by grind) (by grind),za (by omega) (by omega)];grind
        | false=>right;rw[(zmr (λx=>entLt x acc[i]) _ _ m).1,(zmr (λx=>entLt x acc[i]) _ _ m).2,<-Bh b]at a;grind
       ·rintro _ ⟨j',out',rfl,I,z,a,q⟩;have b:j'=e.length:=by omega
        have g:Dc ((j':Int)<(e.length:Int))=false:=decide_eq_false (by omega);simp only[g];refine ⟨_,rfl,j',out',rfl,by omega,?_,q⟩;simp_all
       ·rintro _ ⟨j',out',rfl,z,a,q⟩;rw[zd];have J:app 48 out' [acc[i]]=some (out'++ [acc[i]]):=zg (by grind) (by grind);have u:I6.wrap ((i:Int)+1)=((i+1:Nat):Int):=by rw[za (by omega) (by omega)];omega
        have v:I6.wrap ((j':Int)+1)=((j'+1:Nat):Int):=by rw[za (by omega) (by omega)];omega
        simp only[J,u,v,An,zdP];have K: ∀r,(out'++ [acc[i]])++mg (acc.drop (i+1)) r=out'++(acc[i]::mg (acc.drop (i+1)) r):=λr=>by simp
        rcases Ct j' e.length with b | b
        ·have g:Dc ((j':Int)<(e.length:Int))=true:=decide_eq_true (by omega);simp only[g,if_true,zb e j' b,An];rw[Bh b]at a;have es:skp acc[i] (e[j']::e.drop (j'+1))=if entLt acc[i] e[j']=true then e[j']::e.drop (j'+1) else e.drop (j'+1):=rfl
         rw[es]at a;cases m:entLt acc[i] e[j'] with
         | true=>rw[m,if_pos rfl,<-Bh b]at a;exact ⟨_,rfl,j',out'++ [acc[i]],rfl,by omega,by simp_all,by grind⟩
         | false=>rw[m,if_neg (by simp)]at a;exact ⟨_,rfl,j'+1,out'++ [acc[i]],rfl,by omega,by simp_all,by grind⟩
        ·have g:Dc ((j':Int)<(e.length:Int))=false:=decide_eq_false (by omega);simp only[g];refine ⟨_,rfl,j',out'++ [acc[i]],rfl,by omega,?_,by grind⟩;rw[K];rw[Bp b]at a |-
         trivial
      ·rintro _ ⟨j,out,rfl,o,f,y⟩;refine ⟨.go ((j:Int),out),?_,j,out,rfl,o,?_⟩
       ·simp
       ·rw[El,zz3]at f;exact f
      ·simp_all
 ·simp
 ·rintro _ (⟨rfl,p⟩ | ⟨rfl,Z⟩)
  ·rw[zd];refine zb7 (τ:=Int × Int) (ρ:=Int) (R:=List Ac) (λx=>x=some (mergeR l)) (λk s=>s=((totalV (l.take k):Int),(k:Int))) l.length (λr=>r= .go (totalV l:Int)) rfl ?_ ?_ ?_
   ·rintro k _ d rfl;left;have L:=zkk l k d;have h2:=zm3 l (k+1);have u:I6.wrap ((totalV (l.take k):Int)+((l[k].length:Nat):Int))=(totalV (l.take (k+1)):Int):=by rw[za (by omega) (by omega)];omega
    have v:I6.wrap ((k:Int)+1)=((k+1:Nat):Int):=by rw[za (by omega) (by omega)];omega
    refine ⟨_,?_,rfl⟩;simp only[zb l k d,An,u,v];simp_all
   ·simp
   ·rintro _ rfl;rw[zd];by_cases L:totalV l<=400
    ·rw[if_neg (by grind)];unfold mergeR mergeOk;grind
    ·grind
  ·simp_all
def mergeC (e:Aa):List Ac:=finE true (keepT e.t (e.q.foldl mg []) 0 (e.q.foldl mg []).length)
def tab1 (c:List Ac):List (List Ac):=bif Dc (0<c.length) then [c] else []
def mergeS (e:Aa):Bool × Aa:=bif Dc (e.q.length=0) then (false,e) else (true,⟨e.s,tab1 (mergeC e),e.b,e.t⟩)
def mergeER (e:Aa):Aa × Bool:=bif engV e then ((mergeS e).2,(mergeS e).1) else (⟨[],[],0,[]⟩,false)
theorem zdS {seq:Int} : ∀(t:List (List Ac)) (A:Int),tabsV seq A t=true->∀x∈t,entsV x=true/\∀y∈x,y.b<A/\y.b<=seq:=by
 intro t;induction t with
 | nil=>intro _ _ x c;simp at c
 | cons a t ih=>
   intro A h x c;simp only[tabsV,Cu,decide_eq_true_eq]at h;obtain ⟨⟨e,l,m,n⟩,f⟩:=h;have g:=(zjp a (rangeV a).2).1 (En _);rcases Da.1 c with rfl | c
   ·grind
   ·obtain ⟨i,j⟩:=ih _ f x c;refine ⟨i,λy k=>?_⟩;have:=j y k;obtain ⟨z,d⟩:=Ev a e;have o:=g.2 z d;have p:=((zey a (rangeV a).1).1 (En _)).2 z d;omega
def zkc (h:engV e=true):entsV (e.q.foldl mg [])=true/\(e.q.foldl mg []).length<=totalV e.q/\∀x∈e.q.foldl mg [],∃t∈e.q,x∈t:=by
 obtain ⟨k,l,m,n,o,p,f,s⟩:=zbe h;have b:=zdS e.q _ f;obtain ⟨m1,m2⟩:=ziF e.q [] [] (λt g=>((zbn t).1 (b t g).1).2) List.Pairwise.nil (λc=>rfl);have hl:=zkv e.q [];have d: ∀x∈e.q.foldl mg [],∃t∈e.q,x∈t:=λx a=>by have:=m2.mem a;simp_all
 refine ⟨(zbn _).2 ⟨λx a=>?_,m1⟩,by simp_all,d⟩;obtain ⟨t,i,j⟩:=d x a;exact ((zbn t).1 (b t i).1).1 x j
theorem zwZ (h:engV e=true):(mergeC e).Sublist (e.q.foldl mg []):=by
 obtain ⟨d,f,g,i,j,k,m,n⟩:=zbe h;obtain ⟨a,o,_⟩:=zkc h;have b:=zwA e.t true (l:=e.q.foldl mg []) (by omega) a;have c:compactR (e.q.foldl mg []) e.t true=mergeC e:=by unfold compactR mergeC;grind
 rw[<-c,b];exact (zyF _ _).trans (zn2 _ _ _)
def zob (h:engV e=true):entsV (mergeC e)=true/\(mergeC e).length<=totalV e.q/\∀x∈mergeC e,x.b<(rangeV e.s).1/\x.b<=e.b:=by obtain ⟨l,m,n,o,p,u,c,v⟩:=zbe h;obtain ⟨d,f,g⟩:=zkc h;have a:=zwZ h;refine ⟨ztC a d,Ey a.length_le f,λx i=>?_⟩;obtain ⟨t,j,k⟩:=g x (a.mem i);exact (zdS e.q _ c t j).2 x k
def zvk (c:List Ac):(tab1 c).length<=1/\totalV (tab1 c)<=c.length/\∀t∈tab1 c,t=c:=by
 unfold tab1;by_cases a:0<c.length
 ·rw[decide_eq_true a];exact ⟨Cy _,by simp[totalV],λt b=>by simp_all⟩
 ·rw[decide_eq_false a];exact ⟨by simp,by simp[totalV],λt b=>by trivial⟩
theorem zxW (h:engV e=true):engV (mergeS e).2=true:=by
 unfold mergeS;by_cases c:e.q.length=0
 ·simp_all
 ·rw[decide_eq_false c];obtain ⟨j,k,p,u,l,m,v,n⟩:=zbe h;obtain ⟨o,w,a⟩:=zob h;obtain ⟨y,t2,A⟩:=zvk (mergeC e);show engV ⟨e.s,tab1 (mergeC e),e.b,e.t⟩=true;unfold engV memV;simp only[Cu,decide_eq_true_eq];refine ⟨⟨j,k,by omega,by omega,l,m,?_⟩,n⟩;unfold tab1;by_cases d:0<(mergeC e).length
  ·rw[decide_eq_true d];show tabsV _ _ [mergeC e]=true;have B:(rangeV e.s).1<=1000001:=((zey e.s _).1 (En _)).1;obtain ⟨z,f⟩:=Ev (mergeC e) (by grind);have C:=a z f;have g:=((zbn _).1 o).1 z f;unfold entV at g;simp only[Cu,decide_eq_true_eq]at g;have D:(rangeV (mergeC e)).2<=(rangeV e.s).1 - 1:=(zjp _ _).2 ⟨by omega,λx i=>by grind⟩;have E:(rangeV (mergeC e)).2<=e.b:=(zjp _ _).2 ⟨by omega,λx i=>(a x i).2⟩;simp only[tabsV,Cu,decide_eq_true_eq];grind
  ·rw[decide_eq_false d];rfl
def zjL (h:engV e=true):zfT e=some (mergeS e):=by
 obtain ⟨j,k,l,m,n,o,a,p⟩:=zbe h;obtain ⟨u,v,w⟩:=zkc h;have d:=zdS e.q _ a;unfold zfT mergeS;by_cases c:e.q.length=0
 ·simp_all
 ·rw[if_neg (λf=>absurd (of_decide_eq_true f) (by omega)),decide_eq_false c,zs6 e.q (by omega) (by omega) (λt g=>((zbn t).1 (d t g).1).2)];simp only[An];rw[zoT _ e.t true (by omega) (by omega)];simp only[An];show _=some (true,(⟨e.s,tab1 (mergeC e),e.b,e.t⟩:Aa));have i:finE true (keepT e.t (e.q.foldl mg []) 0 (e.q.foldl mg []).length)=mergeC e:=rfl;rw[i];generalize mergeC e=x;unfold tab1;by_cases y:0<x.length
  ·simp_all
  ·simp_all
def zbC (h:engV e=true):e.s.length<=1048576/\e.q.length<=1048576/\totalV e.q<=1048576/\e.t.length<=1048576/\∀t∈e.q,t.length<=1048576:=by obtain ⟨b,c,d,f,g,i,j,k⟩:=zbe h;exact ⟨by omega,by omega,by omega,by omega,λt a=>by have:=zor a;omega⟩
theorem zp9 (e:Aa) (h:e.s.length<=1048576) (d:e.q.length<=1048576) (i:totalV e.q<=1048576) (f:e.t.length<=1048576):zgZ e=some (mergeER e):=by
 unfold zgZ mergeER;rw[zb2 e h d i f];cases a:engV e with
 | false=>rfl
 | true=>
   obtain ⟨n,o,p,u,v,w,j,y⟩:=zbe a;obtain ⟨z,A,B⟩:=zkc a;obtain ⟨_,_,_,_,k⟩:=zbC a;have C:=zdS e.q _ j;simp only[An,Cg,Ba,if_false,zcj e h d k f,cond_true];unfold mergeS;by_cases c:e.q.length=0
   ·simp_all
   ·have D:mergeR e.q=e.q.foldl mg []:=by unfold mergeR mergeOk;grind
    have g:compactR (e.q.foldl mg []) e.t true=mergeC e:=by unfold compactR mergeC;grind
    rw[if_neg (λl=>absurd (of_decide_eq_true l) (by omega)),decide_eq_false c,zjO e.q d i,D];simp only[An];rw[znC _ e.t true (by omega) f,g];simp only[An];have m:=(zob a).2.1;show _=some ((⟨e.s,tab1 (mergeC e),e.b,e.t⟩:Aa),true);generalize mergeC e=x at m;unfold tab1;by_cases g:0<x.length
    ·rw[if_pos (decide_eq_true (by omega)),decide_eq_true g,zg (by simp) (by simp)];rfl
    ·simp_all
theorem zji (h:engV e=true):engV (flushS e).2=true:=by
 by_cases c:e.s.length=0\/6<=e.q.length
 ·rw[zeC c];exact h
 ·rw[zhC c];obtain ⟨a,d,l,m,f,g,i,j⟩:=zbe h;show engV ⟨[],e.s::e.q,e.b,e.t⟩=true;have k:e.s≠[]:=by simp_all
  have n:totalV (e.s::e.q)=e.s.length+totalV e.q:=by rfl
  unfold engV memV;simp only[Cu,decide_eq_true_eq,tabsV];refine ⟨⟨a,d,by grind,by grind,⟨by simp,rfl⟩,by show (-1:Int)<=e.b;omega,⟨⟨k,f.2,by show (rangeV e.s).2<1000001;omega,g⟩,i⟩⟩,j⟩
def zqs (e:Aa):(flushS e).2.b=e.b/\(flushS e).2.t=e.t:=by
 by_cases c:e.s.length=0\/6<=e.q.length
 ·rw[zeC c];exact ⟨rfl,rfl⟩
 ·rw[zhC c];exact ⟨rfl,rfl⟩
theorem zmL (e:Aa):(mergeS e).2.s=e.s/\(mergeS e).2.b=e.b/\(mergeS e).2.t=e.t:=by unfold mergeS;grind
def allR (e:Aa):List Ac:=(e.s::e.q).foldl mg []
def zxF {L:List (List Ac)} (h: ∀t∈L,entsV t=true):entsV (L.foldl mg [])=true/\(L.foldl mg []).length<=totalV L/\∀x∈L.foldl mg [],∃t∈L,x∈t:=by
 obtain ⟨m1,m2⟩:=ziF L [] [] (λt d=>((zbn t).1 (h t d)).2) List.Pairwise.nil (λc=>rfl);have hl:=zkv L [];have b: ∀x∈L.foldl mg [],∃t∈L,x∈t:=λx a=>by have:=m2.mem a;simp_all
 refine ⟨(zbn _).2 ⟨λx a=>?_,m1⟩,by simp_all,b⟩;obtain ⟨t,e,f⟩:=b x a;exact ((zbn t).1 (h t e)).1 x f
def zmv (h:engV e=true):(∀t∈e.s::e.q,entsV t=true)/\totalV (e.s::e.q)<=400/\(e.s::e.q).length<=7:=by
 obtain ⟨c,d,f,g,i,j,b,k⟩:=zbe h;refine ⟨λt a=>?_,?_,by simp_all⟩
 ·rcases Da.1 a with rfl | a
  ·simp_all
  ·exact (zdS e.q _ b t a).1
 ·have:totalV (e.s::e.q)=e.s.length+totalV e.q:=by rfl
  omega
def zez (h:engV e=true):entsV (allR e)=true/\(allR e).length<=400:=by obtain ⟨a,b,f⟩:=zmv h;obtain ⟨c,d,_⟩:=zxF a;exact ⟨c,Ey d b⟩
theorem zqu (h:engV e=true):zky e=some (allR e):=by obtain ⟨a,d,f⟩:=zmv h;unfold zky;have b:app 24 [e.s] e.q=some (e.s::e.q):=zg (l:=[e.s]) (by grind) (by grind);rw[b];simp only[An];rw[zs6 _ (by omega) (by omega) (λt c=>((zbn t).1 (a t c)).2)];rfl
theorem zmk (h:engV e=true):zgH e=some (allR e):=by
 obtain ⟨b,c,d⟩:=zmv h;unfold zgH;have a:app 24 [e.s] e.q=some (e.s::e.q):=zg (l:=[e.s]) (by grind) (by grind);rw[a];simp only[An];rw[zjO _ (by omega) (by omega)];have A:mergeR (e.s::e.q)=allR e:=by unfold mergeR mergeOk allR;grind
 simp_all
def getE (l:List Ac) (key:List UInt8) (seq:Int):Ac × Bool:=match l.find? (λd=>decide (d.g=key)&&Dc (d.b<=seq)) with | some d=>(d,true) | none=>(⟨[],0,false,[]⟩,false)
theorem zvE (l:List Ac) (key:List UInt8) (seq:Int) (h:l.length<=1048576):zmC l key seq=some (getE l key seq):=by
 unfold zmC getE;generalize m:(λd:Ac=>decide (d.g=key)&&Dc (d.b<=seq))=p;refine zb7 (τ:=Int) (ρ:=Unit) (R:=Ac × Bool) (λx=>x=some (match l.find? p with | some d=>(d,true) | none=>(⟨[],0,false,[]⟩,false))) (λk s=>s=(k:Int)/\l.find? p=(l.drop k).find? p) l.length
  (λr=>(∃d,l.find? p=some d/\r= .done (d,true))\/(l.find? p=none/\r= .go ())) ⟨rfl,rfl⟩ ?_ ?_ ?_
 ·rintro k _ c ⟨rfl,a⟩;rw[Bh c,List.find?_cons]at a;have f:Dc ((k:Int)<(l.length:Int))=true:=decide_eq_true (by omega);simp only[f,if_true,zb l k c,An];have i:(if (Dc (l[k].g=key))=true then (some (Dc (l[k].b<=seq))) else (some false))=some (p l[k]):=by grind
  rw[i];simp only[An];cases j:p l[k] with
  | true=>simp_all
  | false=>rw[j]at a;refine .inl ⟨_,rfl,?_,a⟩;rw[za (by omega) (by omega)];omega
 ·simp
 ·rintro _ (⟨d,e,rfl⟩ | ⟨e,rfl⟩)
  ·simp_all
  ·rw[e];rfl
def zvg (l:List Ac) (key:List UInt8) (seq:Int) (h:l.length<=1048576):zdQ l key seq=some (getE l key seq):=zjG l key seq h
def valE (x:Ac × Bool):List UInt8 × Bool:=if x.2=true/\x.1.M=false then (x.1.F,true) else ([],false)
def getR (e:Aa) (key:List UInt8) (seq:Int):List UInt8 × Bool:=bif engV e then valE (getE (allR e) key seq) else ([],false)
theorem zwv (x:Ac × Bool):((if (!x.2)=true then (some true) else (some x.1.M)).bind (λ(h:Bool)=>if h=true then (some (([]:List UInt8),false)) else (some (x.1.F,true))))=some (valE x):=by obtain ⟨d,b⟩:=x;unfold valE;grind
def zsr (e:Aa) (key:List UInt8) (seq:Int) (b:e.s.length<=1048576) (c:e.q.length<=1048576) (d:totalV e.q<=1048576) (f:e.t.length<=1048576):zi8 e key seq=some (getR e key seq):=by
 unfold zi8 getR;rw[zb2 e b c d f];cases a:engV e with
 | false=>rfl
 | true=>have hl:=(zez a).2;simp only[An,Cg,Ba,if_false,cond_true];rw[zmk a];simp only[An];rw[zvg _ key seq (by omega)];simp only[An];rw[zwv]
def mapR (e:Aa) (seq:Int):List KV:=bif engV e then visL (allR e) seq (allR e).length else []
def zkO (e:Aa) (seq:Int):(mapR e seq).length<=400:=by
 unfold mapR;cases a:engV e with
 | false=>simp
 | true=>exact Ey (zqj _ seq _ (Cy _)) (zez a).2
def ziP (e:Aa) (seq:Int) (b:e.s.length<=1048576) (c:e.q.length<=1048576) (d:totalV e.q<=1048576) (f:e.t.length<=1048576):ze6 e seq=some (mapR e seq):=by
 unfold ze6 mapR;rw[zb2 e b c d f];cases a:engV e with
 | false=>rfl
 | true=>obtain ⟨h,hl⟩:=zez a;simp only[An,Cg,Ba,if_false,cond_true];rw[zmk a];simp only[An];rw[zub _ seq h (by omega)];rfl
def opB (o:Op):List UInt8:=(if o.M=true then [1] else [0])++pieceV o.g++(if o.M=true then [] else pieceV o.F)
def showB (l:List Op):List UInt8:=varV (l.length:Int)++l.flatMap opB
def shownB (l:List Op):List UInt8:=bif batchV l then showB l else []
theorem zkp (h:opV o=true):(1<=o.g.length/\o.g.length<=10)/\o.F.length<=16/\(o.M=true->o.F= []):=by unfold opV at h;grind
def zcd {l:List Op} (h:batchV l=true):(1<=l.length/\l.length<=6)/\∀o∈l,opV o=true:=by unfold batchV at h;simp_all
theorem zl4 (h:opV o=true):(opB o).length<=41:=by obtain ⟨a,b,_⟩:=zkp h;have c:=zgd o.g;have d:=zgd o.F;unfold opB;grind
theorem zlt {l:List Op} (h:batchV l=true):(showB l).length<=253:=by obtain ⟨c,a⟩:=zcd h;have d:=zpB opB 41 l λo b=>zl4 (a o b);have e:=zdX (l.length:Int);unfold showB;grind
theorem zgy (l:List Op) (h:l.length<=1048576):zes l=some (shownB l):=by
 unfold zes shownB;rw[zdN l h];cases e:batchV l with
 | false=>rfl
 | true=>
   obtain ⟨f,b⟩:=zcd e;have i:=zdX (l.length:Int);simp only[An,Cg,Ba,if_false,cond_true,zja];rw[zb3 (I:=λk S=>S=(varV (l.length:Int)++(l.take k).flatMap opB,(k:Int))) l.length (.go (showB l)) (by simp) ?_ ?_]
   ·rfl
   ·rintro k _ a rfl;left;have hl:=zm8 opB 41 l k λo c=>zl4 (b o c);have c:=zl4 (b _ (De a));obtain ⟨j,m,_⟩:=zkp (b _ (De a));have p:=zgd l[k].g;have q:=zgd l[k].F;simp only[zb l k a,An,zlz l[k].g (by omega),zlz l[k].F (by omega),zsV opB l k a];rw[if_pos (by simp_all),za (n:=(k:Int)+1) (by omega) (by omega)];cases d:l[k].M with
    | true=>simp only[if_true];rw[zcv (by grind)];simp only[An];rw[zcv (by grind)];refine ⟨_,rfl,?_⟩;simp only[opB,d,if_true,Cx,Bm];rfl
    | false=>simp only[Ba,if_false];rw[zcv (by grind)];simp only[An];rw[zcv (by grind)];simp only[An];rw[zcv (by grind)];refine ⟨_,rfl,?_⟩;simp only[opB,d,Ba,if_false,Bm];rfl
   ·rintro _ rfl;simp only;rw[if_neg (by simp),Eg];rfl
def zu8 {l:List Op} (h:batchV l=true):showB l≠[]:=by obtain ⟨a,_⟩:=zcd h;unfold showB;have:=zzX (n:=(l.length:Int)) (by omega);simp_all
theorem zoQ (l:List Op) (h:l.length<=1048576):zfY l=some (shownB l):=by
 unfold zfY shownB;rw[zfg l h];cases c:batchV l with
 | false=>rfl
 | true=>
   obtain ⟨f,b⟩:=zcd c;have i:=zdX (l.length:Int);simp only[An,Cg,Ba,if_false,cond_true,zlG];rw[zg (by grind) (by grind)];simp only[An,By];rw[zb3 (I:=λk S=>S=((k:Int),varV (l.length:Int)++(l.take k).flatMap opB)) l.length (.go (showB l)) (by simp) ?_ ?_]
   ·simp only[bindC,An];unfold strOf;rw[if_neg (zu8 c)];rfl
   ·rintro k _ a rfl;left;have hl:=zm8 opB 41 l k λo d=>zl4 (b o d);have d:=zl4 (b _ (De a));obtain ⟨j,m,_⟩:=zkp (b _ (De a));have p:=zgd l[k].g;have q:=zgd l[k].F;simp only[zb l k a,An,znd l[k].g (by omega),znd l[k].F (by omega),zsV opB l k a];rw[if_pos (by simp_all),za (n:=(k:Int)+1) (by omega) (by omega)];unfold znV;cases e:l[k].M with
    | true=>simp only[if_true,An];rw[zcv (by grind)];simp only[An];rw[zg (by grind) (by grind)];refine ⟨_,rfl,?_⟩;simp only[opB,e,if_true,Cx,Bm];rfl
    | false=>simp only[Ba,if_false,An];rw[zcv (by grind)];simp only[An];rw[zg (by grind) (by grind)];simp only[An,Ec,if_true];rw[zg (by grind) (by grind)];refine ⟨_,rfl,?_⟩;simp only[opB,e,Ba,if_false,Bm];rfl
   ·rintro _ rfl;simp only;rw[if_neg (by simp),Eg];rfl
def placeV (boot seq:Int):Bool:=Dc (0<=boot/\boot<=1000)&&Dc (0<=seq/\seq<=999999)
theorem zoo (boot seq:Int):zjt boot seq=some (placeV boot seq):=by unfold zjt placeV;simp only[zbm,An];grind
theorem zlh (boot seq:Int):zfA boot seq=some (placeV boot seq):=by unfold zfA placeV;simp only[z6,An];grind
def placeN (boot seq:Int):List UInt8:=nonceV 3 (I6.wrap (I6.wrap (boot*1000000)+seq))
def sealB (key:List UInt8) (boot seq:Int) (l:List Op):List UInt8:=bif batchV l&&(Dc (key.length=32)&&placeV boot seq) then streamV key 0 (placeN boot seq) (showB l) else []
def len32 (key:List UInt8):Dc ((key.length:Int)=32)=Dc (key.length=32):=decide_eq_decide.2 (by omega)
def ztm (l:List Op):(shownB l).length<=253:=by
 unfold shownB;cases h:batchV l with
 | true=>exact zlt h
 | false=>exact Dq _
theorem zjQ (key:List UInt8) (boot seq:Int) (l:List Op) (h:l.length<=1048576):zer key boot seq l=some (sealB key boot seq l):=by unfold zer sealB;have hs:=ztm l;simp only[zdN l h,zoo,ziq,zgy l h,len32,An,zjN key 0 _ (shownB l) (by omega)];unfold shownB placeN;grind
theorem zjM (key:List UInt8) (boot seq:Int) (l:List Op) (h:l.length<=1048576):zfW key boot seq l=some (sealB key boot seq l):=by unfold zfW sealB zeR;have hs:=ztm l;simp only[zfg l h,zlh,zhG,zoQ l h,len32,An,zjK key 0 _ (shownB l) (by omega)];unfold shownB placeN;grind
def rdF (t:List UInt8) (a:Nat) (bad:Bool):Bool × Nat × Bool:=(Dc ((rdB t a bad 1).1= [1]),(rdB t a bad 1).2.1,(!Dc ((rdB t a bad 1).1= [0])&& !Dc ((rdB t a bad 1).1= [1]))||(rdB t a bad 1).2.2)
def zzl (t:List UInt8) (a:Nat) (bad:Bool) (h:a<=t.length) (b:t.length<=1099511627776):zdb ⟨t,(a:Int),bad⟩=some ((rdF t a bad).1,⟨t,((rdF t a bad).2.1:Int),(rdF t a bad).2.2⟩):=by unfold zdb rdF;rw[zuj t a bad 1 h b (by omega)];simp only[An];cases Dc ((rdB t a bad 1).1= [0])<;>cases Dc ((rdB t a bad 1).1= [1])<;>rfl
def zoe (t:List UInt8) (a:Nat) (bad:Bool) (h:a<=t.length):(rdF t a bad).2.1<=t.length/\a<=(rdF t a bad).2.1/\((rdF t a bad).2.2=false->bad=false):=by obtain ⟨b,c,d⟩:=zta t a bad 1 h;refine ⟨b,c,λe=>d ?_⟩;unfold rdF at e;simp_all
def rdO (t:List UInt8) (a:Nat):Op × Nat × Bool:=
 if (rdF t a false).1=true then (⟨(rdS t (rdF t a false).2.1 (rdF t a false).2.2).1,true,[]⟩,(rdS t (rdF t a false).2.1 (rdF t a false).2.2).2)
 else (⟨(rdS t (rdF t a false).2.1 (rdF t a false).2.2).1,false,(rdS t (rdS t (rdF t a false).2.1 (rdF t a false).2.2).2.1 (rdS t (rdF t a false).2.1 (rdF t a false).2.2).2.2).1⟩,
  (rdS t (rdS t (rdF t a false).2.1 (rdF t a false).2.2).2.1 (rdS t (rdF t a false).2.1 (rdF t a false).2.2).2.2).2)
theorem zte (t:List UInt8) (a:Nat) (h:a<=t.length):(rdO t a).2.1<=t.length:=by obtain ⟨b,_,_⟩:=zoe t a false h;obtain ⟨c,_⟩:=zhu t (rdF t a false).2.1 (rdF t a false).2.2 b;obtain ⟨d,_⟩:=zhu t (rdS t (rdF t a false).2.1 (rdF t a false).2.2).2.1 (rdS t (rdF t a false).2.1 (rdF t a false).2.2).2.2 c;unfold rdO;grind
def opsI (t:List UInt8):Nat->Nat->Bool->List Op->Nat × Bool × List Op
 | 0,a,bad,out=>(a,bad,out)
 | f+1,a,bad,out=>bif bad then (a,bad,out) else opsI t f (rdO t a).2.1 (rdO t a).2.2 (out++ [(rdO t a).1])
def opsR (t:List UInt8):Nat × Bool × List Op:=opsI t (goMin (rdN t 0 false).1 6).toNat (rdN t 0 false).2.1 (rdN t 0 false).2.2 []
def readB (t:List UInt8):List Op × Bool:=
 bif (!(opsR t).2.1&&Dc ((opsR t).1=t.length))&&(Dc (((opsR t).2.2.length:Int)=(rdN t 0 false).1)&&batchV (opsR t).2.2) then ((opsR t).2.2,true) else ([],false)
theorem zq3 (t:List UInt8): ∀(f a:Nat) (bad:Bool) (A:List Op),a<=t.length->(opsI t f a bad A).1<=t.length/\(opsI t f a bad A).2.2.length<=A.length+f
 | 0,a,bad,A,h=>⟨h,Cy _⟩
 | f+1,a,true,A,h=>⟨h,by simp[opsI]⟩
 | f+1,a,false,A,h=>by obtain ⟨b,c⟩:=zq3 t f (rdO t a).2.1 (rdO t a).2.2 (A++ [(rdO t a).1]) (zte t a h);refine ⟨b,?_⟩;simp only[opsI,cond_false];grind
def zoN (t:List UInt8) (o:t.length<=1048576):zfU t=some (readB t):=by
 unfold zfU readB;obtain ⟨p,d,_⟩:=zjq t 0 false (Dq _);rw[show zbl ⟨t,0,false⟩=_ from zs8 t 0 false (Dq _) (by omega)];simp only[An];have h: ∀(f a i:Nat) (bad:Bool) (A:List Op),a<=t.length->(i:Int)+(f:Int)=goMin (rdN t 0 false).1 6->i+f<=6->A.length<=i->
  loopO (ρ:=Ctl (List UInt8 × Int × Bool × List Op) (List Op × Bool)) (λ(D:List UInt8 × Int × Bool × Int × List Op)=>(if (Dc (D.2.2.2.1<goMin (rdN t 0 false).1 (6:Int)))=true then (some (!D.2.2.1))
   else (some false)).bind (λ(J:Bool)=>
 if J=true then ((zdb (⟨D.1,D.2.1,D.2.2.1⟩:A5)).bind λG=>
 (zbT G.2).bind λB=>
 bindC (if (!G.1)=true then ((zbT B.2).bind λE=>
 some (.go (E.2.text,E.2.U,E.2.V,E.1)))
 else (some (.go (B.2.text,B.2.U,B.2.V,[]))))
 (λ(F:List UInt8 × Int × Bool × List UInt8)=>(app 40 D.2.2.2.2 ([(⟨B.1,G.1,F.2.2.2⟩:Op)])).bind λI=>
 some (.go (F.1,F.2.1,F.2.2.1,I6.wrap (D.2.2.2.1+(1:Int)),I))))
 else (some (.done (.go (D.1,D.2.1,D.2.2.1,D.2.2.2.2))))))
   (t,(a:Int),bad,(i:Int),A)=some (.go (t,((opsI t f a bad A).1:Int),(opsI t f a bad A).2.1,(opsI t f a bad A).2.2)):=by
  intro f
  induction f with
  | zero=>
    intro a i bad A b hi j k
    rw[zz]
    simp only[decide_eq_false (by omega: ¬(i:Int)<goMin (rdN t 0 false).1 6),Ba,if_false,An]
    rfl
  | succ f ih=>
    intro a i bad A b hi j k
    rw[zz]
    simp only[decide_eq_true (by omega:(i:Int)<goMin (rdN t 0 false).1 6),if_true,An]
    cases bad with
    | true=>simp only[Cg,Ba,if_false];rfl
    | false=>
      obtain ⟨g,_,_⟩:=zoe t a false b
      obtain ⟨c,_⟩:=zhu t (rdF t a false).2.1 (rdF t a false).2.2 g
      obtain ⟨l,_⟩:=zhu t (rdS t (rdF t a false).2.1 (rdF t a false).2.2).2.1 (rdS t (rdF t a false).2.1 (rdF t a false).2.2).2.2 c
      simp only[Ec,if_true,zzl t a false b (by omega),An,zu7 t _ _ g (by omega),zu7 t _ _ c (by omega)]
      rw[opsI]
      simp only[cond_false]
      unfold rdO
      cases q:(rdF t a false).1 with
      | true=>
        simp only[Cg,Ba,if_false,if_true,zd]
        rw[zg (by simp;omega) (by simp;omega),za (n:=(i:Int)+1) (by omega) (by omega)]
        exact ih _ (i+1) _ _ c (by omega) (by omega) (by simp;omega)
      | false=>
        simp only[Ec,Ba,if_false,if_true,zd]
        rw[zg (by simp;omega) (by simp;omega),za (n:=(i:Int)+1) (by omega) (by omega)]
        exact ih _ (i+1) _ _ l (by omega) (by omega) (by simp;omega)
 have s:0<=goMin (rdN t 0 false).1 6/\goMin (rdN t 0 false).1 6<=6:=by unfold goMin;split<;>omega
 have hl:=h (goMin (rdN t 0 false).1 6).toNat (rdN t 0 false).2.1 0 (rdN t 0 false).2.2 [] d (by omega) (by omega) (by simp);rw[show ((0:Nat):Int)=0 from rfl]at hl;rw[hl];have e:opsI t (goMin (rdN t 0 false).1 6).toNat (rdN t 0 false).2.1 (rdN t 0 false).2.2 []=opsR t:=rfl;rw[e];obtain ⟨r1,r2⟩:=zq3 t (goMin (rdN t 0 false).1 6).toNat (rdN t 0 false).2.1 (rdN t 0 false).2.2 [] d;rw[e]at r1 r2;unfold zda;have m:Dc ((((opsR t).1:Nat):Int)=(t.length:Int))=Dc ((opsR t).1=t.length):=decide_eq_decide.2 (by omega);simp only[zd,m,zfg (opsR t).2.2 (by simp only[Ft]at r2;omega),An];cases (opsR t).2.1<;>cases Dc ((opsR t).1=t.length)<;>cases Dc (((opsR t).2.2.length:Int)=(rdN t 0 false).1)<;>cases batchV (opsR t).2.2<;>rfl
theorem zzJ {b:Bool} (h:t.drop a=(if b=true then [1] else [0])++rest):rdF t a false=(b,a+1,false):=by
 have hl:a+1<=t.length:=by have:=congrArg Ej h;grind
 unfold rdF rdB;rw[decide_eq_false (show ¬t.length<a+(1:Int).toNat from by omega),h];cases b<;>rfl
theorem zzK (i:opV o=true) (h:t.drop a=opB o++rest):rdO t a=(o,a+(opB o).length,false):=by
 obtain ⟨n,p,j⟩:=zkp i;have b:t.drop a=(if o.M=true then [1] else [0])++(pieceV o.g++((if o.M=true then [] else pieceV o.F)++rest)):=by rw[h];unfold opB;simp
 have e:=congrArg Ej b;rw[Cr]at e;simp only[Bf]at e;have l:(if o.M=true then [1] else [0]:List UInt8).length=1:=by grind
 have q:1<=(pieceV o.g).length:=by unfold pieceV;grind
 have m:a+1+(pieceV o.g).length<=t.length:=by omega
 have c:=zc8 b;rw[l]at c;have f:=zc8 c;unfold rdO;rw[zzJ b];simp only;rw[zwo c (by omega) (by omega)];obtain ⟨k,d,v⟩:=o;cases d with
 | true=>have:v= []:=j rfl;subst this;simp[opB];omega
 | false=>
   simp only[Ba,if_false]at f |-
   rw[zwo f (by grind) m];simp[opB];omega
theorem zuX (t:List UInt8): ∀(l:List Op) (a:Nat) (h:List Op) (rest:List UInt8),(∀o∈l,opV o=true)->t.drop a=l.flatMap opB++rest->opsI t l.length a false h=(a+(l.flatMap opB).length,false,h++l)
 | [],a,h,rest,_,_=>by simp[opsI]
 | o::l,a,h,rest,b,d=>by
   have c:t.drop a=opB o++(l.flatMap opB++rest):=by simp_all
   rw[Ee,opsI,zzK (b o (by simp)) c];simp only[cond_false];rw[zuX t l (a+(opB o).length) (h++ [o]) rest (λy e=>b y (by simp_all)) (zc8 c)];grind
def zq9 {l:List Op} (h:batchV l=true):readB (showB l)=(l,true):=by
 obtain ⟨f,b⟩:=zcd h;have a:(showB l).drop 0=varV (l.length:Int)++(l.flatMap opB++ []):=by simp[showB]
 have c:=zc8 a;have d:=zwn a (by omega);have e:goMin (l.length:Int) 6=(l.length:Int):=by unfold goMin;omega
 have g:opsR (showB l)=((showB l).length,false,l):=by unfold opsR;rw[d];simp only[e,Dg];rw[zuX (showB l) l _ [] [] b c];simp_all
 unfold readB;simp_all
def openB (key:List UInt8) (boot seq:Int) (s:List UInt8):List Op × Bool:=bif Dc (key.length=32)&&(placeV boot seq&&Dc (s.length<=300)) then readB (streamV key 0 (placeN boot seq) s) else ([],false)
def zpo (key:List UInt8) (counter:Int) (nonce text:List UInt8):(streamV key counter nonce text).length<=text.length:=by
 unfold streamV;cases streamOk key counter nonce text.length with
 | true=>exact Nat.le_of_eq (zck _ _ _ _)
 | false=>exact Dq _
theorem zoM (key:List UInt8) (boot seq:Int) (s:List UInt8) (h:s.length<=1048576):zea key boot seq s=some (openB key boot seq s):=by
 unfold zea openB zeR;have hs:=zpo key 0 (placeN boot seq) s;have a:Dc ((s.length:Int)>300)= !Dc (s.length<=300):=by grind
 simp only[zlh,zhG,len32,An,zjK key 0 _ s (by omega),a];have b:=zoN (streamV key 0 (placeN boot seq) s) (by omega);unfold placeN at b;unfold placeN;grind
def zw1 {boot seq:Int} {l:List Op} (h:sealB key boot seq l≠[]):openB key boot seq (sealB key boot seq l)=(l,true)/\(sealB key boot seq l).length=(showB l).length/\batchV l=true/\key.length=32/\placeV boot seq=true/\sealB key boot seq l=streamV key 0 (placeN boot seq) (showB l):=by
 unfold sealB at h |-
 cases a:batchV l with
 | false=>rw[a]at h;exact absurd rfl h
 | true=>
   cases b:Dc (key.length=32) with
   | false=>rw[a,b]at h;exact absurd rfl h
   | true=>
     cases c:placeV boot seq with
     | false=>rw[a,b,c]at h;exact absurd rfl h
     | true=>
       rw[a,b,c]at h;simp only[Eu,cond_true]at h |-
       obtain ⟨d,e⟩:=zvS h;have hl:=zlt a;refine ⟨?_,d,trivial,of_decide_eq_true b,trivial,trivial⟩;unfold openB;rw[b,c,decide_eq_true (by omega),e];exact zq9 a
def seeE (l:List Ac) (key:List UInt8) (seq:Int):Option Ac:=l.find? λd=>decide (d.g=key)&&Dc (d.b<=seq)
def valO:Option Ac->Option (List UInt8)
 | some e=>bif e.M then none else some e.F
 | none=>none
theorem zx6 (e:Ac) (r:List Ac) (key:List UInt8) (seq:Int):seeE (e::r) key seq=if e.g=key/\e.b<=seq then some e else seeE r key seq:=by unfold seeE;grind
def zp6 {seq:Int} {e:Ac} (h:seeE l key seq=some e):e∈l/\e.g=key/\e.b<=seq:=by have a:=List.mem_of_find?_eq_some h;have c:=List.find?_some h;simp_all
theorem zmt (seq:Int): ∀(l:List Ac) (last:Option (List UInt8)),ordE l->(∀k,last=some k->∀e∈l,sLt k e.g=true\/k=e.g)->∀A:KV,A∈visG seq last l↔(last≠some A.g/\valO (seeE l A.g seq)=some A.F)
 | [],last,_,_,A=>by simp[visG,seeE,valO]
 | e::r,last,q,hl,A=>by
   have f:=Bl.1 q;have s: ∀y∈r,sLt e.g y.g=true\/e.g=y.g:=λy a=>zxN (f.1 y a);rw[visG,zx6];by_cases d:e.b<=seq
   ·by_cases j:last=some e.g
    ·rw[decide_eq_true d,decide_eq_true j];simp only[Cg,Bool.and_false,cond_false];rw[zmt seq r last f.2 (λk c y a=>hl k c y (Ed _ a)) A];simp_all
    ·rw[decide_eq_true d,decide_eq_false j];simp only[Ec,Fz,cond_true];have ih:=zmt seq r (some e.g) f.2 (λk c y a=>by simp_all) A;by_cases m:e.g=A.g
     ·rw[if_pos ⟨m,d⟩];have n: ¬A∈visG seq (some e.g) r:=by simp_all
      have u:last≠some A.g:=by simp_all
      cases o:e.M with
      | true=>simp[n,valO,o]
      | false=>simp only[cond_false,Da,n,or_false,valO,o,Dy];obtain ⟨v,w⟩:=A;grind
     ·rw[if_neg λh=>m h.1];have t:A∈(bif e.M then visG seq (some e.g) r else ⟨e.g,e.F⟩::visG seq (some e.g) r)↔A∈visG seq (some e.g) r:=by grind
      rw[t,ih];constructor
      ·rintro ⟨_,h⟩;refine ⟨λc=>?_,h⟩;cases hs:seeE r A.g seq with
       | none=>rw[hs]at h;cases h
       | some y=>
         obtain ⟨m1,m2,_⟩:=zp6 hs;rcases hl _ c e (by simp) with p | p
         ·rcases s y m1 with i | i
          ·rw[m2]at i;have:=zcZ p i;rw[zb0]at this;cases this
          ·simp_all
         ·simp_all
      ·simp_all
   ·rw[decide_eq_false d,Fw];simp only[cond_false];rw[zmt seq r last f.2 (λk c y a=>hl k c y (Ed _ a)) A,if_neg λh=>d h.2]
def srtK (m:List KV):Prop:=m.Pairwise λa b=>sLt a.g b.g=true
theorem zsJ (seq:Int): ∀(l:List Ac) (last:Option (List UInt8)),ordE l->(∀k,last=some k->∀e∈l,sLt k e.g=true\/k=e.g)->srtK (visG seq last l)
 | [],_,_,_=>List.Pairwise.nil
 | e::r,last,j,hl=>by
   have a:=Bl.1 j;have n: ∀y∈r,sLt e.g y.g=true\/e.g=y.g:=λy c=>zxN (a.1 y c);have d: ∀k,some e.g=some k->∀y∈r,sLt k y.g=true\/k=y.g:=λk f y c=>by simp_all
   have h:=zsJ seq r (some e.g) a.2 d;rw[visG];cases (Dc (e.b<=seq)&& !Dc (last=some e.g)) with
   | false=>exact zsJ seq r last a.2 λk f y c=>hl k f y (Ed _ c)
   | true=>
     simp only[cond_true];cases e.M with
     | true=>exact h
     | false=>
       refine Bl.2 ⟨λA m=>?_,h⟩;obtain ⟨o,i⟩:=(zmt seq r (some e.g) a.2 d A).1 m;cases hs:seeE r A.g seq with
       | none=>rw[hs]at i;cases i
       | some y=>obtain ⟨m1,m2,_⟩:=zp6 hs;grind
theorem ztr {seq:Int} : ∀(t:List (List Ac)) (D:Int),tabsV seq D t=true->∀x∈t.flatten,∀y∈t.flatten,keyE x=keyE y->x=y:=by
 intro t;induction t with
 | nil=>intro _ _ x d;simp at d
 | cons a t ih=>
   intro D h x d y e f;have g:=h;simp only[tabsV,Cu,decide_eq_true_eq]at g;obtain ⟨⟨u,m,v,w⟩,n⟩:=g;have z:=(zey a (rangeV a).1).1 (En _);have A:=zdS t _ n;have hs:x.b=y.b:=by simp_all
   have o:=((zbn a).1 m).2;have B: ∀x∈a,∀y∈a,keyE x=keyE y->x=y:=by
    intro x d y e f;rcases Cq.1 o with k
    obtain ⟨i,hi,rfl⟩:=Cj d;obtain ⟨j,l,rfl⟩:=Cj e;rcases Ea i j with c | c | c
    ·have:=k i j hi l c;rw[entOrd3.irr _ _ f]at this;cases this
    ·simp_all
    ·have:=k j i l hi c;rw[entOrd3.irr _ _ f.symm]at this;cases this
   rw[Ew,Di]at d e;rcases d with d | d<;>rcases e with e | e
   ·grind
   ·obtain ⟨s,p,q⟩:=Du.1 e;grind
   ·obtain ⟨s,p,q⟩:=Du.1 d;grind
   ·grind
theorem zv9 {r:List Ac} (h:FstL keyE r l) (e: ∀x∈l,∀y∈l,keyE x=keyE y->x=y) (x:Ac):x∈r↔x∈l:=by
 refine ⟨h.mem,λc=>?_⟩;have d:=h (keyE x);have a:x∈l.filter (λy=>decide (keyE y=keyE x)):=Dl.2 ⟨c,by simp⟩;cases b:l.filter (λy=>decide (keyE y=keyE x)) with
 | nil=>rw[b]at a;simp at a
 | cons y t=>
   rw[b]at d;have f:y∈r.filter (λy=>decide (keyE y=keyE x)):=by simp_all
   grind
def tabE (e:Aa):List Ac:=e.q.foldl mg []
def zzT (h:engV e=true):ordE (tabE e)/\∀x,x∈tabE e↔∃t∈e.q,x∈t:=by obtain ⟨f,g,i,j,k,l,a,m⟩:=zbe h;have b:=zdS e.q _ a;obtain ⟨m1,m2⟩:=ziF e.q [] [] (λt d=>((zbn t).1 (b t d).1).2) List.Pairwise.nil (λc=>rfl);rw[By]at m2;refine ⟨m1,λx=>?_⟩;rw[<-Du];exact zv9 m2 (ztr e.q _ a) x
theorem zvV (h:engV e=true):ordE (allR e)/\∀x,x∈allR e↔x∈e.s\/x∈tabE e:=by
 obtain ⟨w,z,A,B,m,C,g,D⟩:=zbe h;have E:=zdS e.q _ g;obtain ⟨n,_,_⟩:=zmv h;obtain ⟨m1,m2⟩:=ziF (e.s::e.q) [] [] (λt o=>((zbn t).1 (n t o)).2) List.Pairwise.nil (λc=>rfl);rw[By]at m2;refine ⟨m1,λx=>?_⟩;rw[(zzT h).2 x,<-Du,<-Di,<-Ew];refine zv9 m2 ?_ x;have F:=(zey e.s (rangeV e.s).1).1 (En _);have p:=((zbn e.s).1 m.2).2;intro x a y d f;have hs:x.b=y.b:=by simp_all
 rw[Ew,Di]at a d;rcases a with a | a<;>rcases d with d | d
 ·have k:=Cq.1 p;obtain ⟨i,hi,rfl⟩:=Cj a;obtain ⟨j,l,rfl⟩:=Cj d;rcases Ea i j with c | c | c
  ·have:=k i j hi l c;rw[entOrd3.irr _ _ f]at this;cases this
  ·simp_all
  ·have:=k j i l hi c;rw[entOrd3.irr _ _ f.symm]at this;cases this
 ·obtain ⟨s,u,v⟩:=Du.1 d;grind
 ·obtain ⟨s,u,v⟩:=Du.1 a;grind
 ·exact ztr e.q _ g x a y d f
def zxT (h:engV e=true) (seq:Int):mapR e seq=visG seq none (allR e):=by unfold mapR;rw[h];exact zAc (zez h).1 seq
def zyL (h:engV e=true) (seq:Int) (A:KV):A∈mapR e seq↔valO (seeE (allR e) A.g seq)=some A.F:=by rw[zxT h,zmt seq (allR e) none (zvV h).1 (λk a=>by trivial)];simp
def zpW (h:engV e=true) (seq:Int):srtK (mapR e seq):=by rw[zxT h];exact zsJ seq _ none (zvV h).1 λk a=>by trivial
def smallE (e:Aa):Prop:=e.s.length<=2000/\e.q.length<=7/\totalV e.q<=401/\e.t.length<=5
def zoi (h:engV e=true):smallE e:=by obtain ⟨a,b,c,d,f,g,i,j⟩:=zbe h;exact ⟨by omega,by omega,by omega,by omega⟩
def ztq {seq:Int} {l:List Int} (h: ∀k (d:k<l.length),(0<=l[k]/\l[k]<=seq)/\(∀e:0<k,l[k - 1]'(by omega)<l[k])):snapsV seq l=true:=by
 unfold snapsV;rw[Ds];intro k d;have c:k<l.length:=by simp_all
 obtain ⟨a,b⟩:=h k c;rw[zkR seq l k c,Cu];simp_all
def zhB (h:engV e=true) {l:List Int} (hl:l.length<=4) (hs:snapsV e.b l=true):engV {e with t:=l} =true:=by obtain ⟨a,c,d,f,g,i,j,k⟩:=zbe h;unfold engV memV;simp_all
theorem zy0 (h:engV e=true):engV (snapR e).1=true:=by
 obtain ⟨c,j,l,m,n,o,p,a⟩:=zbe h;unfold snapR;rw[if_pos h];by_cases d:e.b∈e.t
 ·simp_all
 ·by_cases f:e.t.length=4
  ·simp_all
  ·rw[if_neg d,if_neg f];refine zhB h (by grind) (ztq λk s=>?_);have i:k<e.t.length+1:=by simp_all
   rcases Nat.lt_succ_iff_lt_or_eq.1 i with g | g
   ·have:=zfH a k g;grind
   ·subst g;rw[List.getElem_append_right (by omega)];simp only[Fl,List.getElem_cons_zero];refine ⟨⟨c.1,En _⟩,λu=>?_⟩;rw[List.getElem_append_left (by omega)];have q:=(zfH a (e.t.length - 1) (by omega)).1;grind
theorem zvy (h:engV e=true) (x:Int):engV (engDropR e x).1=true:=by
 obtain ⟨o,p,b,q,s,u,v,a⟩:=zbe h;unfold engDropR;rw[if_pos h];by_cases f:x∈e.t
 ·rw[if_pos f];obtain ⟨j,l,rfl⟩:=Cj f;have m:=zpx a j l;refine zhB h ?_ (ztq λk g=>?_)
  ·grind
  ·simp only[m]at g |-
   have hl:(e.t.take j).length=j:=by grind
   have w:k<e.t.length - 1:=by grind
   have A: ∀i (hi:i<j) (d:i<(e.t.take j++e.t.drop (j+1)).length),(e.t.take j++e.t.drop (j+1))[i]=e.t[i]'(by omega):=λi hi d=>by simp_all
   have B: ∀i (hi:j<=i) (d:i<(e.t.take j++e.t.drop (j+1)).length) (b:i+1<e.t.length),(e.t.take j++e.t.drop (j+1))[i]=e.t[i+1]'b:=λi hi d b=>by grind
   by_cases c:k<j
   ·rw[A k c];have:=zfH a k (by omega);grind
   ·rw[B k (by omega) g (by omega)];have:=zfH a (k+1) (by omega);refine ⟨this.1,λy=>?_⟩;by_cases n:k=j
    ·subst n;rw[A (k - 1) (by omega)];exact zp7 a (k+1) (by omega) (k - 1) (by omega)
    ·grind
 ·simp_all
def zsm (h:engV e=true) (l:List Op):engV (putR e l).1=true:=by
 unfold putR;rw[h];cases a:batchV l with
 | false=>exact h
 | true=>
   cases b:okB e l with
   | false=>exact h
   | true=>exact (zox h a).trans b
def zva:smallE ⟨[],[],0,[]⟩:=⟨by simp,by simp,by simp[totalV],by simp⟩
def zw2 (h:smallE e) (l:List Op):smallE (putR e l).1:=by
 cases a:engV e with
 | true=>exact zoi (zsm a l)
 | false=>unfold putR;rw[a];exact zva
def opL (l:List Op) (key:List UInt8):Option Op:=l.reverse.find? λo=>decide (o.g=key)
def zuV (a:Op) (t:List Op) (key:List UInt8):opL (a::t) key=(opL t key).or (if a.g=key then some a else none):=by unfold opL;simp
theorem zzG (l:List Op) (key:List UInt8) (o:Op):opL l key=some o↔∃i,∃hi:i<l.length,laterV l i key=false/\l[i].g=key/\o=l[i]:=by
 induction l with
 | nil=>simp[opL]
 | cons a t ih=>
   rw[zuV];have b: ∀i,laterV (a::t) (i+1) key=laterV t i key:=λi=>by rfl
   have c:laterV (a::t) 0 key=t.any λx=>decide (x.g=key):=by rfl
   have d:opL t key=none↔(t.any λx=>decide (x.g=key))=false:=by unfold opL;simp
   constructor
   ·intro h;cases e:opL t key with
    | some x=>grind
    | none=>grind
   ·grind
def newK (o:Op):List KV:=bif o.M then [] else [⟨o.g,o.F⟩]
def putK (m:List KV) (o:Op):List KV:=m.filter (λx=>sLt x.g o.g)++(newK o++m.filter (λx=>sLt o.g x.g))
def applyK (m:List KV) (l:List Op):List KV:=l.foldl putK m
theorem zp0 (o:Op) (h:KV):h∈newK o↔o.M=false/\h.g=o.g/\h.F=o.F:=by unfold newK;obtain ⟨k,v⟩:=h;grind
def zyT (m:List KV) (o:Op) (A:KV):A∈putK m o↔(o.M=false/\A.g=o.g/\A.F=o.F)\/(A.g≠o.g/\A∈m):=by
 unfold putK;rw[Di,Di,zp0,Dl,Dl];constructor
 ·rintro (⟨b,a⟩ | h | ⟨b,a⟩)
  ·exact .inr ⟨λh=>by (rw[h,zb0]at a;cases a),b⟩
  ·simp_all
  ·exact .inr ⟨λh=>by (rw[h,zb0]at a;cases a),b⟩
 ·rintro (h | ⟨b,a⟩)
  ·simp_all
  ·cases c:sLt A.g o.g with
   | true=>exact .inl ⟨a,rfl⟩
   | false=>
     cases d:sLt o.g A.g with
     | true=>exact .inr (.inr ⟨a,rfl⟩)
     | false=>exact absurd (zu5 c d) b
def zyU (h:srtK m) (o:Op):srtK (putK m o):=by
 unfold putK srtK;rw[Cv,Cv];refine ⟨h.filter _,⟨?_,h.filter _,?_⟩,?_⟩
 ·unfold newK;cases o.M<;>simp
 ·intro a d b c;rw[((zp0 o a).1 d).2.1];simp_all
 ·intro a d b c;have e:=(Dl.1 d).2;rcases Di.1 c with c | c
  ·rw[((zp0 o b).1 c).2.1];exact e
  ·exact zcZ e (Dl.1 c).2
def zmw (l:List Op): ∀{m:List KV},srtK m->srtK (applyK m l):=by
 induction l with
 | nil=>intro m h;exact h
 | cons a t ih=>intro m h;exact ih (zyU h a)
theorem zwx (l:List Op): ∀(m:List KV) (h:KV),h∈applyK m l↔match opL l h.g with | some o=>o.M=false/\h.F=o.F | none=>h∈m:=by
 induction l with
 | nil=>intro m h;simp[applyK,opL]
 | cons a t ih=>
   intro m h;show h∈applyK (putK m a) t↔_;rw[ih,zuV];cases b:opL t h.g with
   | some o=>simp
   | none=>simp only[Option.none_or];rw[zyT];grind
theorem zjS (l:List Op): ∀m:List KV,(applyK m l).length<=m.length+l.length:=by
 induction l with
 | nil=>intro m;simp[applyK]
 | cons a t ih=>
   intro m;have b:=ih (putK m a);have d:(putK m a).length<=m.length+1:=by
    unfold putK newK;have q:(m.filter λx=>sLt x.g a.g).length+(m.filter λx=>sLt a.g x.g).length<=m.length:=by
     clear b;induction m with
     | nil=>simp
     | cons x r h=>
       simp only[List.filter_cons,Ee];cases c:sLt x.g a.g with
       | true=>rw[zti c];simp;omega
       | false=>cases sLt a.g x.g<;>simp<;>omega
    grind
   show (applyK (putK m a) t).length<=_;grind
def kvV (x:KV):Bool:=opV ⟨x.g,false,x.F⟩
def zoB (h:engV e=true) (s:Int): ∀x∈mapR e s,kvV x=true:=by
 intro x a;rw[zyL h]at a;cases b:seeE (allR e) x.g s with
 | none=>rw[b]at a;cases a
 | some d=>
   obtain ⟨m1,m2,_⟩:=zp6 b;have c:=((zbn _).1 (zez h).1).1 d m1;rw[b]at a;unfold entV at c;simp only[Cu]at c;have a:(bif d.M then none else some d.F)=some x.F:=a;cases f:d.M with
   | true=>rw[f]at a;cases a
   | false=>rw[f]at a;have i:d.F=x.F:=Option.some.inj a;unfold kvV opV;simp_all
def zsL {l:List Op} (d: ∀x∈m,kvV x=true) (b:batchV l=true): ∀x∈applyK m l,kvV x=true:=by
 intro x a;rw[zwx]at a;unfold batchV at b;rw[Cu,Ds]at b;cases c:opL l x.g with
 | none=>rw[c]at a;exact d x a
 | some o=>rw[c]at a;obtain ⟨i,hi,_,e,rfl⟩:=(zzG l _ o).1 c;have:=b.2 _ (De hi);unfold opV at this;simp only[Cu]at this;unfold kvV opV;simp_all
theorem zmS (p:Nat) (b: ∀x∈m.take p,sLt x.g o.g=true) (d: ∀x∈m.drop p,sLt x.g o.g=false):putK m o=m.take p++(newK o++(m.drop p).filter λx=>!Dc (x.g=o.g)):=by
 unfold putK;have e:m=m.take p++m.drop p:=(Bt p m).symm;have h:m.filter (λx=>sLt x.g o.g)=m.take p:=by
  conv=>lhs;rw[e]
  rw[Bz,List.filter_eq_self.2 b,Dx.2 λx a=>by grind,Cx]
 have i:m.filter (λx=>sLt o.g x.g)=(m.drop p).filter λx=>!Dc (x.g=o.g):=by
  conv=>lhs;rw[e]
  rw[Bz,Dx.2 λx a=>by rw[zti (b x a)];simp,By];refine List.filter_congr λx a=>?_;by_cases c:x.g=o.g
  ·grind
  ·rw[decide_eq_false c];cases f:sLt o.g x.g with
   | true=>rfl
   | false=>exact absurd (zu5 (d x a) f) c
 grind
theorem zt9 (m:List KV) (o:Op) (w:srtK m) (hl:m.length<=1000000):zkg m o=some (putK m o):=by
 unfold zkg;refine zW (λk (S:Bool × Int × List KV)=>S.2.1=(k:Int)/\((S.1=o.M/\S.2.2=m.take k/\∀x∈m.take k,sLt x.g o.g=true)\/
  (S.1=true/\∃p,p<=k/\S.2.2=m.take p++(newK o++((m.take k).drop p).filter λx=>!Dc (x.g=o.g))/\(∀x∈m.take p,sLt x.g o.g=true)/\∀x∈m.drop p,sLt x.g o.g=false))) m.length
  (λr=>∃b a,r= .go (b,a)/\((b=o.M/\a=m/\∀x∈m,sLt x.g o.g=true)\/(b=true/\a=putK m o))) ⟨rfl,.inl ⟨rfl,by simp,by simp⟩⟩ ?_ ?_ ?_
 ·rintro k ⟨b,c,a⟩ q ⟨j,N⟩;simp only at j N;subst j;left;have z:m.take (k+1)=m.take k++ [m[k]]:=by simp
  have A:I6.wrap ((k:Int)+1)=((k+1:Nat):Int):=by rw[za (by omega) (by omega)];omega
  have J: ∀(x y:List KV),x.length<=1000001->y.length<=1->app 32 x y=some (x++y):=λx y D E=>zg (by omega) (by omega);simp only[zb m k q,An,A];rw[if_pos (by simp_all)];rcases N with ⟨e,d,f⟩ | ⟨e,p,s,d,f,l⟩
  ·subst e d;have G:(m.take k).length<=1000000:=by grind
   cases t:sLt m[k].g o.g with
   | true=>
     have B: ¬m[k].g=o.g:=λh=>by rw[h,zb0]at t;trivial
     refine ⟨(o.M,((k+1:Nat):Int),m.take (k+1)),?_,rfl,.inl ⟨rfl,rfl,?_⟩⟩
     ·rw[z];cases o.M<;>simp[B,bindC,J (m.take k) [m[k]] (by omega) (by simp)]
     ·grind
   | false=>
     have l: ∀x∈m.drop k,sLt x.g o.g=false:=by
      intro x n;rw[Bh q]at n;rcases Da.1 n with rfl | n
      ·trivial
      ·have u:=w;unfold srtK at u;rw[<-Bt k m,Cv,Bh q]at u;have C:=(Bl.1 u.2.1).1 x n;cases i:sLt x.g o.g with
       | false=>rfl
       | true=>rw[zcZ C i]at t;cases t
     refine ⟨(true,((k+1:Nat):Int),m.take k++(newK o++((m.take (k+1)).drop k).filter λx=>!Dc (x.g=o.g))),?_,rfl,.inr ⟨rfl,k,by omega,rfl,f,l⟩⟩;have v:(m.take (k+1)).drop k= [m[k]]:=by grind
     rw[v];unfold newK;cases o.M with
     | true=>
       by_cases i:m[k].g=o.g
       ·simp_all
       ·simp[i,bindC,J (m.take k) [m[k]] (by omega) (by simp)]
     | false=>
       by_cases i:m[k].g=o.g
       ·simp[i,bindC,J (m.take k) [(⟨o.g,o.F⟩:KV)] (by omega) (by simp)]
       ·simp[i,bindC,J (m.take k) [(⟨o.g,o.F⟩:KV)] (by omega) (by simp),J (m.take k++ [(⟨o.g,o.F⟩:KV)]) [m[k]] (by simp_all) (by simp)]
  ·subst e d;have v:(m.take (k+1)).drop p=(m.take k).drop p++ [m[k]]:=by grind
   have H:(m.take p++(newK o++((m.take k).drop p).filter λx=>!Dc (x.g=o.g))).length<=1000001:=by
    have I:(newK o).length<=1:=by unfold newK;grind
    grind
   refine ⟨(true,((k+1:Nat):Int),m.take p++(newK o++((m.take (k+1)).drop p).filter λx=>!Dc (x.g=o.g))),?_,rfl,.inr ⟨rfl,p,by omega,rfl,f,l⟩⟩;rw[v,Bz];by_cases i:m[k].g=o.g
   ·simp_all
   ·simp_all
 ·rintro ⟨b,c,a⟩ ⟨j,N⟩;simp only at j N;subst j;refine ⟨.go (b,a),by simp,b,a,rfl,?_⟩;rcases N with ⟨e,d,f⟩ | ⟨e,p,s,d,f,l⟩
  ·simp_all
  ·right;rw[Eg]at d;exact ⟨e,by rw[d,zmS p f l]⟩
 ·rintro r ⟨b,a,rfl,⟨e,d,f⟩ | ⟨e,d⟩⟩
  ·subst e d;have s:putK a o=a++newK o:=by have:=zmS (m:=a) (o:=o) a.length (by simp_all) (by simp);simp_all
   rw[s];unfold newK;cases o.M with
   | true=>simp[bindC]
   | false=>have d:app 32 a [(⟨o.g,o.F⟩:KV)]=some (a++ [⟨o.g,o.F⟩]):=zg (by grind) (by grind);simp_all
  ·simp_all
def zmu (m:List KV) (b:srtK m) (c: ∀x∈m,kvV x=true) (hl:m.length<=1000000):zio m=some true:=by
 unfold zio;refine zW (λk s=>s=(k:Int)) m.length (λr=>r= .go ()) rfl ?_ ?_ (λr e=>by simp_all)
 ·rintro k _ a rfl;left;have d:opV ⟨m[k].g,false,m[k].F⟩=true:=c _ (De a);refine ⟨((k+1:Nat):Int),?_,rfl⟩;simp only[zb m k a,An,zon,d];rw[if_pos (by simp_all),za (n:=(k:Int)+1) (by omega) (by omega)];by_cases f:0<k
  ·have h:=Cq.1 b (k - 1) k (by omega) a (by omega);rw[za (n:=(k:Int) - 1) (by omega) (by omega),show (k:Int) - 1=((k - 1:Nat):Int) by omega,zb m (k - 1) (by omega)];simp_all
  ·simp_all
 ·simp
theorem zty (m:List KV) (l:List Op) (a:srtK m) (b: ∀x∈m,kvV x=true) (e:m.length<=100000) (hl:l.length<=1000):zcN m l=some (bif batchV l then (applyK m l,true) else (m,false)):=by
 unfold zcN;rw[zmu m a b (by omega)];simp only[An,Cg,Ba,if_false];rw[zg (by grind) (by grind),zdN l (by omega)];simp only[An,By];cases batchV l with
 | false=>rfl
 | true=>
   simp only[Cg,Ba,if_false,cond_true];refine zW (λk (S:Int × List KV)=>S=((k:Int),applyK m (l.take k))) l.length (λr=>r= .go (applyK m l)) rfl ?_ ?_ (λr f=>by simp_all)
   ·rintro k _ c rfl;left;have d:l.take (k+1)=l.take k++ [l[k]]:=by simp
    have g:=zjS (l.take k) m;refine ⟨_,?_,rfl⟩;simp only[zb l k c,An];rw[if_pos (by simp_all),zt9 _ _ (zmw _ a) (by grind),za (n:=(k:Int)+1) (by omega) (by omega)];simp only[An];rw[d,show applyK m (l.take k++ [l[k]])=putK (applyK m (l.take k)) l[k] by simp only[applyK,Fq,List.foldl_cons,List.foldl_nil]];rfl
   ·simp
def zrb: ∀(f:Nat) (s:List UInt8) (n k:Nat),readN (f+1) s=some (n,k)->s=varN f n++s.drop k
 | _,[],_,_,h=>by trivial
 | f,x::l,n,k,h=>by
   rw[readN]at h;by_cases c:x.toNat<128
   ·rw[decide_eq_true c]at h;simp only[cond_true,Dy,Et]at h;obtain ⟨rfl,rfl⟩:=h;rw[zhw c,zoJ];rfl
   ·rw[decide_eq_false c]at h;simp only[cond_false]at h;cases f with
    | zero=>simp[readN]at h
    | succ f=>
      cases a:readN (f+1) l with
      | none=>rw[a]at h;cases h
      | some mk=>
        obtain ⟨m,k'⟩:=mk;rw[a]at h;simp only at h;by_cases b:m=0
        ·simp_all
        ·rw[decide_eq_false b]at h;simp only[cond_false,Dy,Et]at h;obtain ⟨rfl,rfl⟩:=h;have ih:=zrb f l m k' a;have i:=x.toNat_lt;have d:(x.toNat % 128+128*m) % 128=x.toNat % 128:=by omega
         have e:(x.toNat % 128+128*m) / 128=m:=by omega
         have g:128+x.toNat % 128=x.toNat:=by omega
         rw[zkq (by omega),d,e,g,zoJ,Db,List.drop_succ_cons,<-ih]
def ztd (b:(rdN t a false).2.2=false):t.drop a=varV (rdN t a false).1++t.drop (rdN t a false).2.1:=by
 unfold rdN at b |-
 simp only[cond_false]at b |-
 cases c:readN 7 (t.drop a) with
 | none=>rw[c]at b;cases b
 | some h=>obtain ⟨n,k⟩:=h;have:=zrb 6 _ n k c;obtain ⟨r1,r2,d⟩:=ze5 c;simp only;unfold varV;rw[decide_eq_true (by omega)];simp only[cond_true,Dg];rw[Dj]at this;trivial
theorem ztb (b:(rdB t a bad n).2.2=false):bad=false/\t.drop a=(rdB t a bad n).1++t.drop (rdB t a bad n).2.1/\(rdB t a bad n).1.length=n.toNat:=by
 unfold rdB at b |-
 cases bad with
 | true=>simp at b
 | false=>
   by_cases c:t.length<a+n.toNat
   ·simp_all
   ·rw[decide_eq_false c]at b |-
    simp only[Bool.or_false,cond_false];refine ⟨trivial,?_,by grind⟩;rw[<-Dj,Bt]
theorem zof (h:a<=t.length) (b:(rdS t a bad).2.2=false):bad=false/\t.drop a=pieceV (rdS t a bad).1++t.drop (rdS t a bad).2.1:=by
 have c:bad=false:=((zhu t a bad h).2 b).1;subst c;refine ⟨rfl,?_⟩;unfold rdS at b |-
 obtain ⟨d,e,f⟩:=ztb b;obtain ⟨r1,_,_⟩:=zjq t a false h;have:=ztd d;rw[this,e];unfold pieceV;grind
theorem ztc (b:(rdF t a bad).2.2=false):bad=false/\t.drop a=(if (rdF t a bad).1=true then [1] else [0])++t.drop (rdF t a bad).2.1:=by
 unfold rdF at b |-
 simp only[Bool.or_eq_false_iff,Bool.and_eq_false_iff,Fi,decide_eq_true_eq]at b;obtain ⟨d,c⟩:=b;obtain ⟨e,f,_⟩:=ztb c;grind
def zx3 (h:a<=t.length) (b:(rdO t a).2.2=false):t.drop a=opB (rdO t a).1++t.drop (rdO t a).2.1:=by
 obtain ⟨e,_,_⟩:=zoe t a false h;obtain ⟨i,_⟩:=zhu t (rdF t a false).2.1 (rdF t a false).2.2 e;unfold rdO at b |-
 cases d:(rdF t a false).1 with
 | true=>
   rw[d]at b;simp only[if_true]at b |-
   obtain ⟨f,g⟩:=zof e b;obtain ⟨_,c⟩:=ztc f;rw[d,if_pos rfl]at c;rw[c,g];simp[opB]
 | false=>
   rw[d]at b;simp only[Ba,if_false]at b |-
   obtain ⟨f,g⟩:=zof i b;obtain ⟨j,k⟩:=zof e f;obtain ⟨_,c⟩:=ztc j;rw[d,if_neg (by simp)]at c;rw[c,k,g];simp[opB]
def zuW (t:List UInt8): ∀(f a:Nat) (bad:Bool) (A:List Op),(opsI t f a bad A).2.1=false->bad=false
 | 0,_,_,_,h=>h
 | f+1,a,true,A,h=>by simp[opsI]at h
 | f+1,a,false,A,h=>rfl
def zq4 (t:List UInt8): ∀(f a:Nat) (bad:Bool) (A:List Op),a<=t.length->(opsI t f a bad A).2.1=false->∃l,(opsI t f a bad A).2.2=A++l/\l.length=f/\t.drop a=l.flatMap opB++t.drop (opsI t f a bad A).1
 | 0,a,bad,A,_,_=>⟨[],by simp[opsI],rfl,by rfl⟩
 | f+1,a,true,A,_,h=>by trivial
 | f+1,a,false,A,b,h=>by
   simp only[opsI,cond_false]at h |-
   have c:=zuW t f _ _ _ h;obtain ⟨l,e,g,d⟩:=zq4 t f (rdO t a).2.1 (rdO t a).2.2 (A++ [(rdO t a).1]) (zte t a b) h;refine ⟨(rdO t a).1::l,by simp_all,by simp_all,?_⟩;rw[zx3 b c,d];simp
theorem zpj (h:(readB t).2=true):batchV (readB t).1=true/\showB (readB t).1=t:=by
 unfold readB at h |-
 cases a:((!(opsR t).2.1&&Dc ((opsR t).1=t.length))&&(Dc (((opsR t).2.2.length:Int)=(rdN t 0 false).1)&&batchV (opsR t).2.2)) with
 | false=>rw[a]at h;cases h
 | true=>
   simp only[cond_true];simp only[Cu,Eb,decide_eq_true_eq]at a;obtain ⟨⟨b,e⟩,c,d⟩:=a;refine ⟨d,?_⟩;obtain ⟨r1,r2,j⟩:=zjq t 0 false (Dq _);unfold opsR at b e c d |-
   have f:=zuW t _ _ _ _ b;obtain ⟨l,g,k,m⟩:=zq4 t _ _ _ _ r2 b;have i:=ztd f;rw[Do]at i;rw[g,By]at c |-
   unfold showB;grind
theorem zpi (h:(readB t).2=false):readB t=([],false):=by
 unfold readB at h |-
 grind
theorem zzC:(l6V s 1 0).2= -1\/∃(b:Nat) (n:Int),l6V s 1 0=([n],(b:Int))/\b<=s.length/\0<=n/\s≠[]:=by
 rcases (zn6 s 1 0 (Dq _)).1 with e | ⟨b,f,a,c⟩
 ·omega
 ·right;have d:=(zn6 s 1 0 (Dq _)).2
  match hl:(l6V s 1 0).1,c with
  | [n],_=>refine ⟨b,n,by grind,a,(d n (by simp_all)).1,?_⟩;rintro rfl;trivial
def rbStep (k:Nat) (l:List Op) (q:Int × List UInt8) (o:Op):Option (Ctl (Int × Int × List Op) (Ctl (List Op) (List Op × Bool))):=
 if (Dc (q.1<(0:Int)))=true then (some (.done (.done (([]:List Op),false))))
 else ((app 40 l ([(⟨o.g,o.M,q.2⟩:Op)])).bind λh=>some (.go (q.1,I6.wrap ((k:Int)+(1:Int)),h)))
theorem zx2 (s:List UInt8) (k m:Nat) (l:List Op) (q:Int × List UInt8) (o:Op) (f:k<1000) (hl:l.length=k) (c:q.1= -1\/∃b:Nat,q.1=(b:Int)/\b<=s.length):
 (∃h:Int × Int × List Op,rbStep k l q o=some (.go h)/\h.2.1=((k+1:Nat):Int)/\(∃a:Nat,h.1=(a:Int)/\a<=s.length)/\h.2.2.length=k+1)\/
 (∃r:Ctl (List Op) (List Op × Bool),rbStep k l q o=some (.done r)/\((∃l:List Op,r= .go l/\l.length=m)\/r= .done ([],false))):=by
 rcases c with c | ⟨d,c,e⟩
 ·right;exact ⟨.done ([],false),by unfold rbStep;simp_all,.inr rfl⟩
 ·left;refine ⟨(q.1,((k+1:Nat):Int),l++ [(⟨o.g,o.M,q.2⟩:Op)]),?_,rfl,⟨d,c,e⟩,by simp_all⟩;unfold rbStep;rw[c,decide_eq_false (by omega),zg (by grind) (by simp[hl];omega),za (n:=(k:Int)+1) (by omega) (by omega)];rfl
theorem zmZ (s:List UInt8) (hs:s.length<=1048576): ∃r,zcB s=some r/\((r.2=true/\batchV r.1=true/\showB r.1=s)\/r=([],false)):=by
 unfold zcB;rw[show zbN s (0:Int) (1:Int)=some (l6V s 1 0) from zgn s 0 1 (by omega) (by decide) (by decide)];simp only[An];rcases zzC (s:=s) with e | ⟨b,n,e,w,A,B⟩
 ·simp_all
 ·rw[e];have x:idx [n] (0:Int)=some n:=rfl;rw[decide_eq_false (by omega: ¬(b:Int)<0)];simp only[Ba,if_false,x,An];by_cases y:n>6
  ·simp_all
  rw[decide_eq_false y];simp only[Ba,if_false];obtain ⟨m,rfl⟩: ∃m:Nat,n=(m:Int):=⟨n.toNat,by omega⟩;refine zb7 (R:=List Op × Bool) (ρ:=List Op) (λo=>∃r,o=some r/\((r.2=true/\batchV r.1=true/\showB r.1=s)\/r=([],false))) (λk (S:Int × Int × List Op)=>S.2.1=(k:Int)/\(∃a:Nat,S.1=(a:Int)/\a<=s.length)/\S.2.2.length=k) m
   (λr=>(∃l,r= .go l/\l.length=m)\/r= .done ([],false)) ⟨rfl,⟨b,rfl,w⟩,rfl⟩ ?_ ?_ ?_
  ·rintro k ⟨i,c,l⟩ C ⟨p,⟨a,t,D⟩,hl⟩;simp only at p t hl;subst p t;simp only[decide_eq_true (by omega:(k:Int)<(m:Int)),if_true];by_cases d:(a:Int)>=(s.length:Int)
   ·right;exact ⟨.done ([],false),by rw[decide_eq_true d];rfl,.inr rfl⟩
   ·have z:a<s.length:=by omega
    rw[decide_eq_false d];simp only[Ba,if_false,zdg s a z,An];rw[za (n:=(a:Int)+1) (by omega) (by omega),show (a:Int)+1=((a+1:Nat):Int) by omega,zgm s (a+1) (by omega) hs];simp only[An];have E:=λq f o=>zx2 s k m l q o (by omega) hl f;have j:=zpq s (a+1) (by omega);generalize takeB s (a+1)=g at j;by_cases F:((s[a].toNat:Nat):Int)=1
    ·rw[decide_eq_true F];simp only[Cg,Ba,if_false,zd];exact E (g.2,[]) j ⟨g.1,true,[]⟩
    ·rw[decide_eq_false F];simp only[Ec,if_true];rcases j with f | ⟨h,f,u⟩
     ·rw[f,zrv];exact E (-1,[]) (.inl rfl) ⟨g.1,false,[]⟩
     ·rw[f,zgm s h u hs];exact E ((takeB s h).2,(takeB s h).1) (zpq s h u) ⟨g.1,false,[]⟩
  ·simp_all
  ·rintro r (⟨l,rfl,hl⟩ | rfl)
   ·simp only[zd];by_cases v:(l.length:Int)=0
    ·rw[decide_eq_true v];exact ⟨_,rfl,.inr rfl⟩
    ·rw[decide_eq_false v,zgy l (by omega)];simp only[Ba,if_false,An];by_cases d:shownB l=s
     ·rw[decide_eq_true d];refine ⟨_,rfl,.inl ⟨rfl,?_⟩⟩;unfold shownB at d;grind
     ·rw[decide_eq_false d];exact ⟨_,rfl,.inr rfl⟩
   ·exact ⟨_,rfl,.inr rfl⟩
end Go.Proofs.YtdpainahgcdflaaGreat
