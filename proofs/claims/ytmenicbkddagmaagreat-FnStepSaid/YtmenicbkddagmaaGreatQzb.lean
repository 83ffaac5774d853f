/-
  The plain laws: what the pure functions come to, and the statements. Conditions: none.
-/
import Derived.Test.YtmenicbkddagmaaGreatQza
set_option linter.unusedVariables false
set_option linter.unusedSimpArgs false
set_option linter.defProp false
open Decidable renaming decide->Dc
open Option renaming bind_some->An
open Bool renaming false_eq_true->Ba,not_true->By,and_eq_true->Ct,true_and->Di,not_eq_true'->Ds,not_false->Dy,and_self->Et,and_true->Fc,not_eq_false'->Fi,decide_and->Fq,false_and->Fv
open List renaming drop_eq_getElem_cons->Bf,length_append->Bh,pairwise_cons->Bl,append_assoc->Bm,take_append_drop->Bo,take_of_length_le->Bp,nil_append->Bt,drop_of_length_le->Bw,filter_append->Bz,getElem_of_mem->Cg,append_nil->Cj,eq_nil_of_length_eq_zero->Cq,length_singleton->Cr,pairwise_iff_getElem->Cv,pairwise_append->Cx,getElem_mem->Cy,cons_append->Da,mem_cons->Db,filter_cons_of_neg->Dd,getElem?_eq_getElem->De,length_drop->Df,mem_append->Dh,mem_filter->Dj,drop_drop->Dl,drop_length->Dm,length->Dn,mem_flatten->Do,filter_eq_nil_iff->Dp,drop_zero->Dx,mem_cons_of_mem->Ea,take_length->Eb,filter_cons_of_pos->Ed,findIdx?_eq_some_iff_getElem->Ee,range->Eg,set_append_right->Eh,length_take->Ei,length_cons->Ej,all_eq_true->Ek,takeWhile_append_dropWhile->El,drop_append_of_le_length->Eo,exists_mem_of_ne_nil->Ep,flatten_cons->Ev,length_nil->Ew,range_succ_eq_map->Ey,singleton_append->Ez,length_filter_le->Fa,flatten_append->Ff,mem_cons_self->Fj,foldl_append->Fl,drop_append->Fm,length_set->Ft,take_nil->Fw,all_cons->Gb,all_map->Gi
open Nat renaming lt_or_ge->Cu,le_refl->Dg,lt_trichotomy->Dq,zero_le->Du,le_trans->Ec,mul_le_mul_right->En,eq_zero_or_pos->Fh,sub_self->Fk,pow_succ->Ge,zero_mul->Gf,zero_add->Gg
open Int renaming toNat_natCast->Dk,le_refl->Em,tdiv->Fs
open Option.some renaming injEq->Eu
open Prod.mk renaming injEq->Fx
open List.cons renaming inj->Fz
noncomputable section
open Go.IntKind renaming i64->I6
namespace Go.Proofs.YtmenicbkddagmaaGreat
open Go Sl
variable {α κ R ρ τ:Type} {e:Aa} {K:α->κ} {t key nonce:List UInt8} {l:List Ac} {a b:List α} {counter:Int} {o:Op} {m:List KV} {bad:Bool}
theorem zrp (s:Ad) (t q:Int) (b:sharesV s=true) (h:s.r.length<=1048576): ∃L M R:List As,s.r=L++(M++R)/\(∀y∈L,y.s<t)/\(∀y∈R,t<y.s)/\(M= []\/∃m:As,M= [m]/\m.s=t)/\
 zbF s t q=some (if sharesV ⟨s.I,L++(⟨t,q⟩::R)⟩=true then (⟨s.I,L++(⟨t,q⟩::R)⟩,true) else (s,false)):=by
 have f:=((zf0 s).1 b).2.1;obtain ⟨j,c,g,k,l⟩:=ziu s t b h;have B: ∀y∈s.r.take j,y.s<t:=by intro y d;obtain ⟨i,hi,rfl⟩:=Cg d;grind
 have E: ∀D,(∀i (hi:i<s.r.length),D<=i->t<s.r[i].s)->∀y∈s.r.drop D,t<y.s:=by intro D A y d;obtain ⟨i,hi,rfl⟩:=Cg d;simp_all
 rcases l with ⟨o,n,a⟩ | ⟨n,a⟩
 ·have A: ∀i (hi:i<s.r.length),j+1<=i->t<s.r[i].s:=λi hi p=>k i hi (by omega);exact ⟨s.r.take j,[s.r[j]],s.r.drop (j+1),by simp,B,E _ A,.inr ⟨_,rfl,a⟩,zey s t q j (j+1) b f c (.inr rfl) (by omega) g A (λ_ _=>a)⟩
 ·exact ⟨s.r.take j,[],s.r.drop j,by simp,B,E _ a,.inl rfl,zey s t q j j b f c (.inl rfl) c g a (λe=>by omega)⟩
theorem znA (p:As->Bool): ∀l:List As,((l.filter p).map λx=>needV x.S).sum<=(l.map λx=>needV x.S).sum
 | []=>by simp
 | x::l=>by have a:=znA p l;have b:=zh2 x.S;grind
def zti (a b:List Ah) (h:a.length<=1048576):zf8 a b=some (Dc (a=b)):=by unfold zf8;have:=zmb a b (λx y=>some (Dc (x.s=y.s)&&(Dc (x.A=y.A)&&(Dc (x.c=y.c)&&(Dc (x.O=y.O)&&(Dc (x.U=y.U)&&true)))))) (λx y _ _=>by congr 1;obtain ⟨d,e,f,g,i⟩:=x;obtain ⟨j,k,l,m,n⟩:=y;simp only[Ah.mk.injEq,Fc,Fq]) (by omega);simp only[An]at this;exact this
def strB (key:List UInt8) (counter:Int) (nonce:List UInt8) (i:Nat):UInt8:=(chaV key (counter+((i / 64:Nat):Int)) nonce).getD (i % 64) 0
def xorV (key:List UInt8) (counter:Int) (nonce text:List UInt8):List UInt8:=text.mapIdx λi x=>x ^^^ strB key counter nonce i
def streamOk (key:List UInt8) (counter:Int) (nonce:List UInt8) (n:Nat):Bool:=chaOk key counter nonce&&Dc (n=0\/counter+(((n - 1) / 64:Nat):Int)<=4294967295)
def streamV (key:List UInt8) (counter:Int) (nonce text:List UInt8):List UInt8:=bif streamOk key counter nonce text.length then xorV key counter nonce text else []
def zcf (key:List UInt8) (counter:Int) (nonce text:List UInt8):(xorV key counter nonce text).length=text.length:=by unfold xorV;rw[List.length_mapIdx]
def znc (key:List UInt8) (counter:Int) (nonce text:List UInt8) (i:Nat) (h:i<text.length):(xorV key counter nonce text)[i]'(by rw[zcf];exact h)=text[i] ^^^ strB key counter nonce i:=by unfold xorV;simp
def zwG (x y:UInt8):x ^^^ y ^^^ y=x:=by rw[UInt8.xor_assoc,UInt8.xor_self,UInt8.xor_zero]
def zuQ (key:List UInt8) (counter:Int) (nonce text:List UInt8):xorV key counter nonce (xorV key counter nonce text)=text:=by
 apply List.ext_getElem
 ·rw[zcf,zcf]
 ·intro i b a;rw[znc _ _ _ _ i (by rw[zcf];trivial),znc _ _ _ _ i a,zwG]
theorem zrY (h:chaOk key counter nonce=true) (k:Nat) (a:counter+(k:Int)<=4294967295):chaOk key (counter+(k:Int)) nonce=true:=by obtain ⟨b,c,d,e⟩:=zgw h;unfold chaOk;grind
def ztx (h:chaOk key counter nonce=false):chaV key counter nonce= []:=by unfold chaV;rw[h];rfl
def ztw (h:chaOk key counter nonce=true):chaV key counter nonce≠[]:=by intro e;have:=zjh key counter nonce h;simp_all
theorem zt3 (k j:Nat) (a:j<64) (h:chaOk key (counter+(k:Int)) nonce=true):strB key counter nonce (64*k+j)=(chaV key (counter+(k:Int)) nonce)[j]'(by rw[zjh _ _ _ h];trivial):=by unfold strB;grind
def zrh (z:List α) (m:Nat) (h:m<z.length):z.take (m+1)=z.take m++ [z[m]]:=by simp
theorem zuJ (key:List UInt8) (counter:Int) (nonce text:List UInt8) (b:text.length<=1099511627776) (k:Nat) (d:64*k<text.length) (h:chaOk key (counter+(k:Int)) nonce=true):
 loopO (ρ:=Ctl (List UInt8) ρ) (λ(A:Int × List UInt8)=>(if (Dc (A.1<(text.length:Int)))=true then (some (Dc (A.1<((64*k+64:Nat):Int))))
  else (some false)).bind (λ(F:Bool)=>
 if F=true then ((sidx text A.1).bind λB=>
 (sidx (chaV key (counter+(k:Int)) nonce) (I6.wrap (A.1 - ((64*k:Nat):Int)))).bind λD=>
 (app 1 A.2 ([(B ^^^ D)])).bind λE=>
 some (.go (I6.wrap (A.1+(1:Int)),E)))
 else (some (.done (.go A.2))))) (((64*k:Nat):Int),(xorV key counter nonce text).take (64*k))=some (.go ((xorV key counter nonce text).take (64*(k+1)))):=by
 have f:=zcf key counter nonce text;refine zca (λj S=>S=(((64*k+j:Nat):Int),(xorV key counter nonce text).take (64*k+j))) (min 64 (text.length - 64*k)) _ rfl ?_ ?_
 ·rintro j _ g rfl;left;have hi:64*k+j<text.length:=by omega
  simp only;rw[decide_eq_true (by omega),decide_eq_true (by omega)];have a:((64*k+j:Nat):Int) - ((64*k:Nat):Int)=(j:Int):=by omega
  have hl:((xorV key counter nonce text).take (64*k+j)).length=64*k+j:=by grind
  rw[a,za (n:=(j:Int)) (by omega) (by omega)];simp only[if_true,An];rw[zcN text _ hi];simp only[An];rw[zcN _ j (by rw[zjh _ _ _ h];omega)];simp only[An];rw[zg (by grind) (by grind),za (by omega) (by omega)];refine ⟨_,rfl,?_⟩;rw[show 64*k+(j+1)=(64*k+j)+1 from rfl,zrh _ _ (by omega),znc _ _ _ _ _ hi,zt3 k j (by omega) h];rfl
 ·rintro _ rfl;simp only;by_cases c:64*k+64<=text.length
  ·grind
  ·have e:64*k+min 64 (text.length - 64*k)=text.length:=by omega
   grind
theorem ziF (key:List UInt8) (counter:Int) (nonce text:List UInt8) (c:text.length<=1099511627776):zd9 key counter nonce text=some (streamV key counter nonce text):=by
 unfold zd9 streamV streamOk;rw[zgu];simp only[An];cases a:chaOk key counter nonce with
 | false=>rw[ztx a];rfl
 | true=>
   rw[decide_eq_false (ztw a)];simp only[Ba,if_false,Di];obtain ⟨_,_,l,m⟩:=zgw a;obtain ⟨r,d,e⟩:=zX (ρ:=Ctl (List UInt8) (List UInt8)) (s0:=((0:Int),([]:List UInt8))) (body:=λ(B:Int × List UInt8)=>if (Dc (B.1<(text.length:Int)))=true then ((zcO key (I6.wrap (counter+(I6.wrap (Fs B.1 (64:Int))))) nonce).bind λD=>
    if (Dc (D=([])))=true then (some (.done (.done ([]))))
    else (bindC (loopO (λ(A:Int × List UInt8)=>(if (Dc (A.1<(text.length:Int)))=true then (some (Dc (A.1<I6.wrap (B.1+(64:Int)))))
 else (some false)).bind (λ(J:Bool)=>
 if J=true then ((sidx text A.1).bind λE=>
 (sidx D (I6.wrap (A.1 - B.1))).bind λF=>
 (app 1 A.2 ([(E ^^^ F)])).bind λG=>
 some (.go (I6.wrap (A.1+(1:Int)),G)))
 else (some (.done (.go A.2)))))
 (B.1,B.2))
 (λ(I:List UInt8)=>some (.go (I6.wrap (B.1+(64:Int)),I)))))
    else (some (.done (.go B.2))))
    (λk S=>S=(((64*k:Nat):Int),(xorV key counter nonce text).take (64*k))/\(k=0\/counter+((k - 1:Nat):Int)<=4294967295)) ((text.length+63) / 64)
    (λr=>r=bif Dc (text.length=0\/counter+(((text.length - 1) / 64:Nat):Int)<=4294967295) then .go (xorV key counter nonce text) else .done []) ⟨rfl,.inl rfl⟩ (by
    rintro k _ o ⟨rfl,f⟩
    have g:64*k<text.length:=by omega
    have h:Fs ((64*k:Nat):Int) 64=(k:Int):=by simp
    simp only
    rw[h,za (n:=(k:Int)) (by omega) (by omega),za (n:=counter+(k:Int)) (by omega) (by omega),za (n:=((64*k:Nat):Int)+64) (by omega) (by omega),decide_eq_true (by omega),zgu]
    simp only[if_true,An]
    by_cases i:counter+(k:Int)<=4294967295
    ·left
     have b:=zrY a k i
     rw[decide_eq_false (ztw b)]
     simp only[Ba,if_false]
     have j:((64*k:Nat):Int)+64=((64*k+64:Nat):Int):=by omega
     rw[j,zuJ key counter nonce text c k g b]
     simp;omega
    ·right
     have b:chaOk key (counter+(k:Int)) nonce=false:=by
      unfold chaOk
      simp_all
     rw[ztx b]
     grind) (by
    rintro _ ⟨rfl,f⟩
    simp only
    rw[decide_eq_false (by omega),Bp (by rw[zcf];omega),decide_eq_true (by omega)]
    simp)
   rw[d,e]
   cases Dc (text.length=0\/counter+(((text.length - 1) / 64:Nat):Int)<=4294967295)<;>rfl
theorem zuf (key:List UInt8) (counter:Int) (nonce text:List UInt8) (i:text.length<=1099511627776) (k:Nat) (l:64*k<text.length) (h:chaOk key (counter+(k:Int)) nonce=true):
 loopO (ρ:=Ctl (List UInt8) ρ) (λ(A:Int × List UInt8)=>(if (Dc (A.1<(64:Int)))=true then (some (Dc (I6.wrap (((64*k:Nat):Int)+A.1)<(A.2.length:Int))))
  else (some false)).bind (λ(E:Bool)=>
 if E=true then ((idx A.2 (I6.wrap (((64*k:Nat):Int)+A.1))).bind λB=>
 (sidx (chaV key (counter+(k:Int)) nonce) A.1).bind λD=>
 some (.go (I6.wrap (A.1+(1:Int)),(A.2.set ((I6.wrap (((64*k:Nat):Int)+A.1)).toNat) (B ^^^ D)))))
 else (some (.done (.go A.2))))) ((0:Int),(xorV key counter nonce text).take (64*k)++text.drop (64*k))=some (.go ((xorV key counter nonce text).take (64*(k+1))++text.drop (64*(k+1)))):=by
 have d:=zcf key counter nonce text;refine zca (λj S=>S=((j:Int),(xorV key counter nonce text).take (64*k+j)++text.drop (64*k+j))) (min 64 (text.length - 64*k)) _ rfl ?_ ?_
 ·rintro j _ m rfl;left;have hi:64*k+j<text.length:=by omega
  have a:((64*k:Nat):Int)+(j:Int)=((64*k+j:Nat):Int):=by omega
  have hl:((xorV key counter nonce text).take (64*k+j)).length=64*k+j:=by grind
  have b:((xorV key counter nonce text).take (64*k+j)++text.drop (64*k+j)).length=text.length:=by rw[Bh,hl,Df];omega
  simp only;rw[a,za (n:=((64*k+j:Nat):Int)) (by omega) (by omega),decide_eq_true (by omega:(j:Int)<64),b,decide_eq_true (by omega:((64*k+j:Nat):Int)<(text.length:Int))];simp only[if_true,An];rw[zb _ (64*k+j) (by rw[b];exact hi)];simp only[An];rw[zcN _ j (by rw[zjh _ _ _ h];omega)];simp only[An];rw[za (by omega) (by omega),Dk];refine ⟨_,rfl,?_⟩;have f:((xorV key counter nonce text).take (64*k+j)++text.drop (64*k+j))[64*k+j]'(by rw[b];exact hi)=text[64*k+j]:=by simp_all
  rw[f,show 64*k+(j+1)=(64*k+j)+1 from rfl,zrh _ _ (by rw[d];exact hi),znc _ _ _ _ _ hi,zt3 k j (by omega) h,Eh _ _ (by omega),hl,Fk,Bf hi,Bm];rfl
 ·rintro _ rfl;simp only;by_cases c:64*k+64<=text.length
  ·grind
  ·have e:64*k+min 64 (text.length - 64*k)=text.length:=by omega
   have g:(xorV key counter nonce text).take (64*k+min 64 (text.length - 64*k))++text.drop (64*k+min 64 (text.length - 64*k))=xorV key counter nonce text:=by rw[e,Bp (by omega),Bw (Dg _),Cj]
   rw[g,d,Bp (by omega),Bw (by omega),Cj];have a:((64*k:Nat):Int)+((min 64 (text.length - 64*k):Nat):Int)=(text.length:Int):=by omega
   rw[a,za (by omega) (by omega),decide_eq_false (by omega: ¬(text.length:Int)<(text.length:Int))];split<;>rfl
theorem ziB (key:List UInt8) (counter:Int) (nonce text:List UInt8) (b:text.length<=1099511627776):zdY key counter nonce text=some (streamV key counter nonce text):=by
 unfold zdY streamV streamOk;rw[zlJ];simp only[An];cases a:chaOk key counter nonce with
 | false=>rfl
 | true=>
   obtain ⟨_,_,j,l⟩:=zgw a;have d:byteRoom text=some ():=by unfold byteRoom;grind
   have e:Fs ((text.length:Int)+63) 64=(((text.length+63) / 64:Nat):Int):=by rfl
   simp only[By,Ba,if_false,d,An,Di];rw[za (n:=(text.length:Int)+63) (by omega) (by omega),e,za (n:=(((text.length+63) / 64:Nat):Int)) (by omega) (by omega),za (n:=counter+(((text.length+63) / 64:Nat):Int)) (by omega) (by omega),za (n:=counter+(((text.length+63) / 64:Nat):Int) - 1) (by omega) (by omega)];have f:(if Dc ((((text.length+63) / 64:Nat):Int)>0)=true then (some (Dc (counter+(((text.length+63) / 64:Nat):Int) - 1>4294967295))) else (some false))=some (!Dc (text.length=0\/counter+(((text.length - 1) / 64:Nat):Int)<=4294967295)):=by
    by_cases c:text.length=0
    ·simp_all
    ·rw[decide_eq_true (by omega)];by_cases m:counter+(((text.length - 1) / 64:Nat):Int)<=4294967295
     ·simp_all;omega
     ·rw[decide_eq_true (by omega),decide_eq_false (by omega)];rfl
   rw[f];cases g:Dc (text.length=0\/counter+(((text.length - 1) / 64:Nat):Int)<=4294967295) with
   | false=>rfl
   | true=>
     have o:=of_decide_eq_true g;simp only[An,By,Ba,if_false,cond_true];rw[zca (ρ:=Ctl (List UInt8) (List UInt8)) (s0:=(counter,(0:Int),text)) (λk S=>S=(counter+(k:Int),((64*k:Nat):Int),(xorV key counter nonce text).take (64*k)++text.drop (64*k))) ((text.length+63) / 64) (.go (xorV key counter nonce text)) (by simp) ?_ ?_]
     ·rfl
     ·rintro k _ p rfl;left;have h:64*k<text.length:=by omega
      have i:=zrY a k (by omega);have hl:((xorV key counter nonce text).take (64*k)++text.drop (64*k)).length=text.length:=by rw[Bh,Ei,Df,zcf];omega
      simp only;rw[hl,decide_eq_true (by omega),zjm];simp only[if_true,An];rw[zuf key counter nonce text b k h i];simp only[zd];rw[za (n:=counter+(k:Int)+1) (by omega) (by omega),za (n:=((64*k:Nat):Int)+64) (by omega) (by omega)];grind
     ·rintro _ rfl;simp only;rw[Bp (by rw[zcf];omega),Bw (by omega),Cj,zcf,decide_eq_false (by omega)];rfl
def zto {k:List UInt8} {n:Int} {z:List UInt8} (h:streamV k n z t≠[]):(streamV k n z t).length=t.length/\streamV k n z (streamV k n z t)=t:=by
 have a:streamOk k n z t.length=true:=by
  cases b:streamOk k n z t.length with
  | true=>rfl
  | false=>unfold streamV at h;rw[b]at h;exact absurd rfl h
 have e:streamV k n z t=xorV k n z t:=by unfold streamV;simp_all
 rw[e];refine ⟨zcf _ _ _ _,?_⟩;unfold streamV;rw[zcf,a];exact zuQ _ _ _ _
def zun (b:List UInt8) (i h:Int) (hi:0<=i/\i<=b.length) (e:b.length<=1048576): ∃l i' u,zhD ⟨b,i,h⟩=some (l,⟨b,i',u⟩)/\l.length<=8/\(0<=i'/\i'<=b.length):=by
 unfold zhD;obtain ⟨j,i1,h1,L,M,N⟩:=zR b i h 4 hi e;have a2:=M.2.1 (by omega);simp only[L,An];rw[za (n:=1+j) (by omega) (by omega)];refine zbo (τ:=Int × Int × Int × List Op) (ρ:=Int × Int × List Op) (R:=List Op × Am) (G:=λo=>∃l i' u,o=some (l,⟨b,i',u⟩)/\l.length<=8/\(0<=i'/\i'<=b.length)) (I:=λk S=>(0<=S.1/\S.1<=b.length)/\S.2.2.1=1+j - (k:Int)/\S.2.2.2.length=k) (1+j).toNat (Q:=λr=>∃p q a,r= .go (p,q,a)/\(0<=p/\p<=b.length)/\1<=a.length/\a.length<=4) ⟨N,by simp,by simp⟩ ?_ ?_ ?_
 ·rintro k ⟨p,q,c,d⟩ hk ⟨f,g,m⟩;simp only at f g m;subst g;left;obtain ⟨x3,O,P,T,g3,U⟩:=zwg b p q f e;obtain ⟨V,W,X,Y,z⟩:=zcx b O P 3 U e;simp only[T,Y,An];rw[if_pos (by simp only[decide_eq_true_eq];omega),za (n:=1+j - (k:Int) - 1) (by omega) (by omega)];cases V with
  | true=>simp only[if_true,zd];rw[zg (by simp only[Cr];omega) (by simp only[Cr];omega)];exact ⟨_,rfl,z,by simp only;omega,by simp only[Bh,Cr];omega⟩
  | false=>obtain ⟨A,B,C,v,g5,s⟩:=zj6 b W X 5 (by omega) z e;simp only[Ba,if_false,v,An,zd];rw[zg (by simp only[Cr];omega) (by simp only[Cr];omega)];exact ⟨_,rfl,s,by simp only;omega,by simp only[Bh,Cr];omega⟩
 ·rintro ⟨p,q,c,d⟩ ⟨f,g,m⟩;simp only at f g m;exact ⟨_,by simp only;rw[if_neg (by simp only[decide_eq_true_eq];omega)],p,q,d,rfl,f,by omega,by omega⟩
 rintro _ ⟨p,q,d,rfl,f,g,m⟩;obtain ⟨A,B,C,v,s⟩:=zcx b p q 10 f e;simp only[zd,v,An];cases A with
 | false=>simp only[Ba,if_false,zd];exact ⟨_,_,_,rfl,by omega,s⟩
 | true=>
   obtain ⟨x6,Z,h6,e6,D,k6⟩:=zR b B C (d.length:Int) s e;have a0:=D.2.1 (by omega);obtain ⟨w,E,F,e7,g7,t⟩:=zR b Z h6 4 k6 e;have a1:=zjS (l:=d) D.1 a0;simp only[if_true,e6,e7,An,a1];by_cases H:w=0
   ·rw[decide_eq_true H];obtain ⟨x8,i8,h8,x,g8,y⟩:=zfc b E F [[],[97,97,97,97,97,97,97,97,97,97],[97,97,97,97,97,97,97,97,97,97,97]] (by simp) t e;simp only[if_true,x,An,zd];exact ⟨_,_,_,rfl,by simp only[Ft];omega,y⟩
   ·rw[decide_eq_false H];simp only[Ba,if_false];by_cases J:w=1
    ·rw[decide_eq_true J];obtain ⟨x8,i8,h8,x,g8,y⟩:=zj6 b E F 1 (by omega) t e;simp only[if_true,x,An];rw[zbx (by simp only[Ej,Ew];omega)];simp only[An,zd];exact ⟨_,_,_,rfl,by simp only[Ft];omega,y⟩
    ·rw[decide_eq_false J];simp only[Ba,if_false];by_cases K:w=2
     ·rw[decide_eq_true K];simp only[if_true];rw[zg (by omega) (by omega)];simp only[An,zd];exact ⟨_,_,_,rfl,by simp only[Bh];omega,t⟩
     ·rw[decide_eq_false K];simp only[Ba,if_false,zd];exact ⟨_,_,_,rfl,by simp,t⟩
theorem zv9 (l:List Ac):entsV l=true↔(∀e∈l,entV e=true)/\l.Pairwise (λa b=>entLt a b=true):=by
 constructor
 ·intro d;refine ⟨λe n=>?_,?_⟩
  ·obtain ⟨k,c,rfl⟩:=Cg n;have:=ztD d k c;rw[zfo l k c,Ct]at this;simp_all
  ·rw[Cv];intro i j hi o p;unfold entLt;rcases zgx d j o i p with h | ⟨f,g⟩
   ·simp_all
   ·simp_all
 ·rintro ⟨f,g⟩;rw[Cv]at g;unfold entsV;rw[Ek];intro k c;have m:k<l.length:=by simp_all
  rw[zfo l k m,f _ (Cy m),Di];grind
def visG (seq:Int):Option (List UInt8)->List Ac->List KV
 | _,[]=>[]
 | last,e::r=>bif Dc (e.c<=seq)&& !Dc (last=some e.j) then (bif e.P then visG seq (some e.j) r else ⟨e.j,e.M⟩::visG seq (some e.j) r) else visG seq last r
def lastO (p:List UInt8 × Bool):Option (List UInt8):=bif p.2 then some p.1 else none
theorem zvR {l:List Ac} (b:entsV l=true) (seq:Int): ∀(d k:Nat),k+d=l.length->visL l seq l.length=visL l seq k++visG seq (lastO (lastS l seq k)) (l.drop k)
 | 0,k,h=>by
   have:k=l.length:=by omega
   subst this;rw[Dm];simp[visG]
 | d+1,k,h=>by
   have a:k<l.length:=by omega
   rw[zvR b seq d (k+1) (by omega),zkj l seq k a,zlk l seq k a,Bf a,Bm];congr 1;rw[visG];by_cases hs:l[k].c<=seq
   ·have f:=zsE b a hs;rw[decide_eq_true hs,Di];have e:Dc (lastO (lastS l seq k)=some l[k].j)=((lastS l seq k).2&&Dc (l[k].j=(lastS l seq k).1)):=by unfold lastO;grind
    rw[e,<-f];cases visE l seq k with
    | false=>simp
    | true=>cases l[k].P<;>simp[lastO]
   ·have g:visE l seq k=false:=by rw[zfR l seq k a,decide_eq_false hs,Fv]
    grind
def zxo (a:entsV l=true) (seq:Int):visL l seq l.length=visG seq none l:=by rw[zvR a seq l.length 0 (by omega)];rfl
def stayG (snaps:List Int):Option Ac->Ac->Bool
 | none,_=>true
 | some d,e=>!Dc (d.j=e.j)||snaps.any (λs=>decide (e.c<=s)&&Dc (s<d.c))
def keepG (snaps:List Int):Option Ac->List Ac->List Ac
 | _,[]=>[]
 | p,e::r=>bif stayG snaps p e then e::keepG snaps (some e) r else keepG snaps (some e) r
def prevG (l:List Ac):Nat->Option Ac
 | 0=>none
 | k+1=>l[k]?
def zpb (l:List Ac) (k:Nat):prevG l (k+1)=l[k]?:=rfl
def zw4 (snaps:List Int) (l:List Ac) (k:Nat) (a:k<l.length):stayV snaps l k=stayG snaps (prevG l k) l[k]:=by
 cases k with
 | zero=>rfl
 | succ j=>rw[zi8 snaps l j a];rw[zpb,De (by omega)];rfl
theorem ztN (snaps:List Int) (l:List Ac): ∀(d k:Nat),k+d=l.length->keepT snaps l k d=keepG snaps (prevG l k) (l.drop k)
 | 0,k,h=>by rw[Bw (by omega)];rfl
 | d+1,k,h=>by
   have a:k<l.length:=by omega
   have b:keepT snaps l k 1=if stayV snaps l k=true then [l[k]] else []:=by rw[zlj snaps l k 0 a];rfl
   have c:prevG l (k+1)=some l[k]:=by rw[zpb,De a]
   rw[Nat.add_comm d 1,zqR,b,ztN snaps l d (k+1) (by omega),Bf a,keepG,zw4 snaps l k a,c];grind
def zt8 (snaps:List Int) (h:Bool) (a:l.length<=400) (b:entsV l=true):compactR l snaps h=finE h (keepG snaps none l):=by unfold compactR;rw[if_pos ⟨a,b⟩,ztN snaps l l.length 0 (by omega)];rfl
def zmt (snaps:List Int): ∀(p:Option Ac) (l:List Ac),(keepG snaps p l).Sublist l
 | _,[]=>List.Sublist.slnil
 | p,e::r=>by
   rw[keepG];cases stayG snaps p e with
   | true=>exact (zmt snaps (some e) r).cons_cons e
   | false=>exact (zmt snaps (some e) r).cons e
def zqA: ∀l:List Ac,(tid l).2.Sublist l
 | []=>List.Sublist.slnil
 | e::t=>by
   rw[zgv];cases ((tid t).1&&sameK e t)|| !e.P with
   | true=>exact (zqA t).cons_cons e
   | false=>exact (zqA t).cons e
def zwa (b:Bool) (l:List Ac):(finE b l).Sublist l:=by
 unfold finE;cases b with
 | true=>exact zqA l
 | false=>exact List.Sublist.refl l
theorem zrq {x:List Ac} (h:x.Sublist l) (a:entsV l=true):entsV x=true:=by
 rw[zv9]at a |-
 grind
theorem zvl {a b:Ac} (h:entLt a b=true):sLt a.j b.j=true\/a.j=b.j:=by unfold entLt at h;grind
def znE (a b:List Ac) (h:a.length<=1048576):zds a b=some (Dc (a=b)):=by unfold zds;have:=zmb a b (λx y=>some (Dc (x.j=y.j)&&(Dc (x.c=y.c)&&(Dc (x.P=y.P)&&(Dc (x.M=y.M)&&true))))) (λx y _ _=>by congr 1;obtain ⟨d,e,f,g⟩:=x;obtain ⟨i,k,l,m⟩:=y;simp only[Ac.mk.injEq,Fc,Fq]) (by omega);simp only[An]at this;exact this
structure Ord3 {α κ:Type} (lt:α->α->Bool) (K:α->κ):Prop where
 tri: ∀a b,lt a b=true\/K a=K b\/lt b a=true
 irr: ∀a b,K a=K b->lt a b=false
 trans: ∀a b c,lt a b=true->lt b c=true->lt a c=true
def Ord3.asym {lt:α->α->Bool} (o:Ord3 lt K) {a b:α} (h:lt a b=true):lt b a=false:=by
 cases c:lt b a with
 | false=>rfl
 | true=>have:=o.irr a a rfl;rw[o.trans a b a h c]at this;cases this
def Ord3.le_trans {lt:α->α->Bool} (o:Ord3 lt K) {a b c:α} (f:lt b a=false) (g:lt c b=false):lt c a=false:=by
 cases d:lt c a with
 | false=>rfl
 | true=>
   rcases o.tri a b with h | h | h
   ·rw[o.trans c a b d h]at g;cases g
   ·rcases o.tri c b with e | e | e
    ·simp_all
    ·rw[o.irr c a (by simp_all)]at d;cases d
    ·have:=o.trans b c a e d;rw[this]at f;cases f
   ·simp_all
def Ord3.lt_le {lt:α->α->Bool} (o:Ord3 lt K) {a b c:α} (d:lt a b=true) (f:lt c b=false):lt a c=true:=by
 rcases o.tri b c with h | h | h
 ·exact o.trans a b c d h
 ·rcases o.tri a c with e | e | e
  ·trivial
  ·rw[o.irr a b (by simp_all)]at d;cases d
  ·have:=o.trans c a b e d;rw[this]at f;cases f
 ·simp_all
def Ord3.le_lt {lt:α->α->Bool} (o:Ord3 lt K) {a b c:α} (f:lt b a=false) (d:lt b c=true):lt a c=true:=by
 rcases o.tri a b with h | h | h
 ·exact o.trans a b c h d
 ·rcases o.tri a c with e | e | e
  ·trivial
  ·rw[o.irr b c (by simp_all)]at d;cases d
  ·have:=o.trans b c a d e;rw[this]at f;cases f
 ·simp_all
def SrtL (lt:α->α->Bool) (l:List α):Prop:=l.Pairwise λa b=>lt b a=false
def ClsL [DecidableEq κ] (K:α->κ) (r l:List α):Prop:=∀c,r.filter (λx=>decide (K x=c))=l.filter (λx=>decide (K x=c))
def ClsL.refl [DecidableEq κ] (K:α->κ) (l:List α):ClsL K l l:=λ_=>rfl
def ClsL.trans {α κ:Type} [DecidableEq κ] {K:α->κ} {a b c:List α} (d:ClsL K a b) (e:ClsL K b c):ClsL K a c:=λk=>(d k).trans (e k)
def ClsL.append [DecidableEq κ] {c d:List α} (e:ClsL K a b) (f:ClsL K c d):ClsL K (a++c) (b++d):=λk=>by rw[Bz,Bz,e k,f k]
def ClsL.perm [DecidableEq κ] [DecidableEq α] {r l:List α} (h:ClsL K r l):r.Perm l:=by rw[List.perm_iff_count];intro a;have b:=congrArg (List.count a) (h (K a));simp_all
def ClsL.length {α κ:Type} [DecidableEq κ] [DecidableEq α] {K:α->κ} {r l:List α} (h:ClsL K r l):r.length=l.length:=h.perm.length_eq
theorem ClsL.swap [DecidableEq κ] {lt:α->α->Bool} (o:Ord3 lt K) {u v:List α} (h: ∀x∈v,∀y∈u,lt x y=true):ClsL K (v++u) (u++v):=by
 intro c;rw[Bz,Bz];by_cases a: ∃y∈u,K y=c
 ·obtain ⟨y,b,rfl⟩:=a;have:v.filter (λx=>decide (K x=K y))= []:=by rw[Dp];intro x d e;have:=o.irr x y (by simp_all);simp_all
  grind
 ·have:u.filter (λx=>decide (K x=c))= []:=by simp_all
  grind
def SrtL.append {lt:α->α->Bool} (c:SrtL lt a) (d:SrtL lt b) (h: ∀x∈a,∀y∈b,lt y x=false):SrtL lt (a++b):=Cx.2 ⟨c,d,h⟩
def SrtL.left {lt:α->α->Bool} (h:SrtL lt (a++b)):SrtL lt a:=(Cx.1 h).1
def SrtL.right {lt:α->α->Bool} (h:SrtL lt (a++b)):SrtL lt b:=(Cx.1 h).2.1
def SrtL.cross {lt:α->α->Bool} (h:SrtL lt (a++b)): ∀x∈a,∀y∈b,lt y x=false:=(Cx.1 h).2.2
def SrtL.last {lt:α->α->Bool} (o:Ord3 lt K) (h:SrtL lt a) (d:0<a.length): ∀x∈a,lt (a[a.length - 1]'(by omega)) x=false:=by
 intro x c;obtain ⟨i,hi,rfl⟩:=Cg c;rcases Cu i (a.length - 1) with b | b
 ·exact (Cv.1 h) i (a.length - 1) hi (by omega) b
 ·have:i=a.length - 1:=by omega
  subst this;exact o.irr _ _ rfl
def SrtL.first {lt:α->α->Bool} (o:Ord3 lt K) (h:SrtL lt a) (c:0<a.length): ∀x∈a,lt x (a[0]'c)=false:=by
 intro x d;obtain ⟨i,hi,rfl⟩:=Cg d;rcases Fh i with b | b
 ·subst b;exact o.irr _ _ rfl
 ·exact (Cv.1 h) 0 i (by omega) hi b
def mergeParts [DecidableEq κ] [DecidableEq α] {lt:α->α->Bool} (o:Ord3 lt K) {a c d b r1 r2:List α} (A:SrtL lt (a++c)) (B:SrtL lt (d++b)) (g: ∀x∈d,∀y∈c,lt x y=true) (t: ∀x∈a,∀y∈b,lt y x=false) (j:SrtL lt r1) (h:ClsL K r1 (a++d)) (k:SrtL lt r2) (i:ClsL K r2 (c++b)):
    SrtL lt (r1++r2)/\ClsL K (r1++r2) ((a++c)++(d++b)):=by
 refine ⟨j.append k ?_,?_⟩
 ·intro x l y m;have n:=h.perm.mem_iff.1 l;have p:=i.perm.mem_iff.1 m;rcases Dh.1 n with e | e<;>rcases Dh.1 p with f | f
  ·exact A.cross x e y f
  ·simp_all
  ·exact o.asym (g x e y f)
  ·exact B.cross x e y f
 ·refine (h.append i).trans ?_;have q:(a++d)++(c++b)=a++((d++c)++b):=by simp
  have s:(a++c)++(d++b)=a++((c++d)++b):=by simp
  rw[q,s];exact (ClsL.refl K a).append ((ClsL.swap o g).append (ClsL.refl K b))
def halve {body:Int × Int->Option (Ctl (Int × Int) (Ctl Int ρ))} (p:Nat->Bool) (a b:Nat) (o:a<=b) (n: ∀i j:Nat,a<=i->i<j->j<=b->body ((i:Int),(j:Int))=some (.go (if p ((i+j) / 2) then ((((i+j) / 2+1:Nat):Int),(j:Int)) else ((i:Int),(((i+j) / 2:Nat):Int))))) (q: ∀i:Nat,a<=i->i<=b->body ((i:Int),(i:Int))=some (.done (.go (i:Int)))):
    ∃c:Nat,a<=c/\c<=b/\(a<c->p (c - 1)=true)/\(c<b->p c=false)/\loopO body ((a:Int),(b:Int))=some (.go (c:Int)):=by
 have key: ∀d i j:Nat,j - i<=d->a<=i->i<=j->j<=b->(a<i->p (i - 1)=true)->(j<b->p j=false)->
  ∃c:Nat,a<=c/\c<=b/\(a<c->p (c - 1)=true)/\(c<b->p c=false)/\loopO body ((i:Int),(j:Int))=some (.go (c:Int)):=by
  intro d
  induction d with
  | zero=>
    intro i j s e t f k l;obtain rfl:i=j:=by omega
    exact ⟨i,e,f,k,l,by rw[zw,q i e f]⟩
  | succ d ih=>
    intro i j s e t f k l;rcases Cu i j with h | h
    ·cases m:p ((i+j) / 2) with
     | true=>obtain ⟨c,g⟩:=ih ((i+j) / 2+1) j (by omega) (by omega) (by omega) f (λ_=>by trivial) l;refine ⟨c,g.1,g.2.1,g.2.2.1,g.2.2.2.1,?_⟩;rw[zw,n i j e h f,m];simp_all
     | false=>obtain ⟨c,g⟩:=ih i ((i+j) / 2) (by omega) e (by omega) (by omega) k (λ_=>m);refine ⟨c,g.1,g.2.1,g.2.2.1,g.2.2.2.1,?_⟩;rw[zw,n i j e h f,m];simp_all
    ·obtain rfl:i=j:=by omega
     simp_all
 exact key (b - a) a b (Dg _) (Dg _) o (Dg _) (λh=>by omega) (λh=>by omega)
theorem zm8 (X Y Z:List α) (a b:α) (i j:Int) (hi:i=(X.length:Int)) (f:j=((X.length+1+Y.length:Nat):Int)):
 idx (X++a::(Y++b::Z)) i=some a/\idx (X++a::(Y++b::Z)) j=some b/\idx ((X++a::(Y++b::Z)).set i.toNat b) j=some b/\idx ((X++a::(Y++b::Z)).set j.toNat a) i=some a/\
 ((X++a::(Y++b::Z)).set i.toNat b).set j.toNat a=X++b::(Y++a::Z)/\((X++a::(Y++b::Z)).set j.toNat a).set i.toNat b=X++b::(Y++a::Z):=by
 subst hi f;have g: ∀(c:α) (T:List α),idx (X++c::T) (X.length:Int)=some c:=by intro c T;unfold idx;simp
 have h: ∀(c d:α),idx (X++c::(Y++d::Z)) ((X.length+1+Y.length:Nat):Int)=some d:=by intro c d;unfold idx;grind
 have k: ∀(c d:α) (T:List α),(X++c::T).set X.length d=X++d::T:=by simp
 have l: ∀(c d e:α),(X++c::(Y++d::Z)).set (X.length+1+Y.length) e=X++c::(Y++e::Z):=by intro c d e;rw[Eh _ _ (by omega),show X.length+1+Y.length - X.length=Y.length+1 by omega,List.set_cons_succ,Eh _ _ (Dg _),Fk];rfl
 simp only[Dk];simp_all
def ztK (X Z:List α) (a:α) (i:Int) (hi:i=(X.length:Int)):idx (X++a::Z) i=some a:=by subst hi;unfold idx;simp
def zG {body:τ->Option (Ctl τ (Ctl ρ R))} {s0:τ} {k:ρ->Option R} {A:R} (I:Nat->τ->Prop) (n:Nat) (Q:Ctl ρ R->Prop) (a:I 0 s0) (h: ∀k s,k<n->I k s->(∃B,body s=some (.go B)/\I (k+1) B)\/(∃r,body s=some (.done r)/\Q r)) (b: ∀s,I n s->∃r,body s=some (.done r)/\Q r) (c: ∀r,Q r->bindC (some r) k=some A):bindC (loopO body s0) k=some A:=by obtain ⟨r,d,e⟩:=zX I n Q a h b;simp_all
def zZ (l:List α) (t:Nat) (h:t<l.length):l.take (t+1)=l.take t++ [l[t]]:=by simp
theorem zjI (P A Q B S:List Ac) (a b n:Int) (d:a=(P.length:Int)) (e:b=((P.length+A.length+Q.length:Nat):Int)) (f:n=(A.length:Int)) (E:B.length=A.length) (hl:P.length+A.length+Q.length+B.length<=4611686018427387904):
 zp (P++(A++(Q++(B++S)))) a b n=some (P++(B++(Q++(A++S)))):=by
 subst d e f;unfold zp;rw[zk (λt=>((t:Int),P++(B.take t++(A.drop t++(Q++(A.take t++(B.drop t++S))))))) A.length (r:=.go (P++(B++(Q++(A++S))))) ?h0]
 case h0=>simp
 ·rfl
 ·intro t c;have D:t<B.length:=by omega
  have g:P++(B.take t++(A.drop t++(Q++(A.take t++(B.drop t++S)))))=(P++B.take t)++A[t]::((A.drop (t+1)++(Q++A.take t))++B[t]::(B.drop (t+1)++S)):=by rw[Bf c,Bf D];simp only[Bm,Da,Bt]
  have h:P++(B.take (t+1)++(A.drop (t+1)++(Q++(A.take (t+1)++(B.drop (t+1)++S)))))=(P++B.take t)++B[t]::((A.drop (t+1)++(Q++A.take t))++A[t]::(B.drop (t+1)++S)):=by rw[zZ B t D,zZ A t c];simp only[Bm,Da,Bt]
  have i:I6.wrap ((P.length:Int)+(t:Int))=((P.length+t:Nat):Int):=by rw[za (by omega) (by omega)];omega
  have j:I6.wrap (((P.length+A.length+Q.length:Nat):Int)+(t:Int))=((P.length+A.length+Q.length+t:Nat):Int):=by rw[za (by omega) (by omega)];omega
  have k:I6.wrap ((t:Int)+1)=((t+1:Nat):Int):=by rw[za (by omega) (by omega)];omega
  obtain ⟨l,m,o,p,q,s⟩:=zm8 (P++B.take t) (A.drop (t+1)++(Q++A.take t)) (B.drop (t+1)++S) A[t] B[t] ((P.length+t:Nat):Int) ((P.length+A.length+Q.length+t:Nat):Int)
   (by grind) (by grind)
  simp_all
 ·grind
theorem zvB (P U V S:List Ac) (a m b:Int) (v:a=(P.length:Int)) (w:m=((P.length+U.length:Nat):Int)) (x:b=((P.length+U.length+V.length:Nat):Int)) (N:0<U.length) (O:0<V.length) (hl:P.length+U.length+V.length<=4611686018427387904):
 zM (P++(U++(V++S))) a m b=some (P++(V++(U++S))):=by
 subst v w x;unfold zM;have y:I6.wrap (((P.length+U.length:Nat):Int) - (P.length:Int))=(U.length:Int):=by rw[za (by omega) (by omega)];omega
 have z:I6.wrap (((P.length+U.length+V.length:Nat):Int) - ((P.length+U.length:Nat):Int))=(V.length:Int):=by rw[za (by omega) (by omega)];omega
 rw[y,z];refine zG (λk s=>∃(i j:Nat) (E F I G:List Ac),s=((i:Int),(j:Int),E++(F++(I++G)))/\F.length=i/\I.length=j/\0<i/\0<j/\E.length+i=P.length+U.length/\E.length+i+j<=P.length+U.length+V.length/\i+j+k<=U.length+V.length/\E++(I++(F++G))=P++(V++(U++S)))
  (U.length+V.length)
  (λr=>∃(i:Nat) (E F I G:List Ac),r= .go ((i:Int),E++(F++(I++G)))/\F.length=i/\I.length=i/\E.length+i=P.length+U.length/\E.length+i+i<=P.length+U.length+V.length/\E++(I++(F++G))=P++(V++(U++S)))
  ⟨U.length,V.length,P,U,V,S,rfl,rfl,rfl,N,O,rfl,Dg _,Dg _,rfl⟩ ?hs ?hf ?hk
 case hs=>
  rintro k _ hk ⟨i,j,E,F,I,G,rfl,g,l,p,q,d,u,C,o⟩
  rcases Dq i j with h | h | h
  ·left;obtain ⟨Q,B,rfl,M⟩: ∃Q B,I=Q++B/\B.length=i:=⟨I.take (j - i),I.drop (j - i),(Bo _ _).symm,by grind⟩;rw[Bh]at l;have f:I6.wrap (((P.length+U.length:Nat):Int) - (i:Int))=(E.length:Int):=by rw[za (by omega) (by omega)];omega
   have D:I6.wrap (I6.wrap (((P.length+U.length:Nat):Int)+(j:Int)) - (i:Int))=((E.length+F.length+Q.length:Nat):Int):=by rw[za (n:=((P.length+U.length:Nat):Int)+(j:Int)) (by omega) (by omega),za (by omega) (by omega)];omega
   have t:I6.wrap ((j:Int) - (i:Int))=((j - i:Nat):Int):=by rw[za (by omega) (by omega)];omega
   refine ⟨((i:Int),((j - i:Nat):Int),E++(B++(Q++(F++G)))),?_,i,j - i,E,B,Q,F++G,rfl,M,by omega,p,by omega,d,by omega,by omega,?_⟩
   ·have c:=zjI E F Q B G _ _ _ f D (show (i:Int)=(F.length:Int) by omega) (by omega) (by omega);have e:E++(F++(Q++B++G))=E++(F++(Q++(B++G))):=by simp
    simp only[e,c,t,An];rw[if_pos (by grind),if_neg (by grind)];rfl
   ·rw[<-o];simp
  ·right;subst h;refine ⟨.go ((i:Int),E++(F++(I++G))),?_,i,E,F,I,G,rfl,g,l,d,u,o⟩;simp
  ·left;obtain ⟨A,Q,rfl,J⟩: ∃A Q,F=A++Q/\A.length=j:=⟨F.take j,F.drop j,(Bo _ _).symm,by grind⟩;rw[Bh]at g;have f:I6.wrap (((P.length+U.length:Nat):Int) - (i:Int))=(E.length:Int):=by rw[za (by omega) (by omega)];omega
   have t:I6.wrap ((i:Int) - (j:Int))=((i - j:Nat):Int):=by rw[za (by omega) (by omega)];omega
   refine ⟨(((i - j:Nat):Int),(j:Int),(E++I)++(Q++(A++G))),?_,i - j,j,E++I,Q,A,G,rfl,by omega,J,by omega,q,by grind,by grind,by omega,?_⟩
   ·have c:=zjI E A Q I G _ ((P.length+U.length:Nat):Int) (j:Int) f (by omega) (by omega) (by omega) (by omega);have e:E++(A++Q++(I++G))=E++(A++(Q++(I++G))):=by simp
    simp only[e,c,t,An];rw[if_pos (by grind),if_pos (by simp_all)];simp
   ·rw[<-o];simp
 case hf=>
  rintro _ ⟨i,j,E,F,I,G,rfl,g,l,p,q,d,u,C,o⟩
  omega
 case hk=>
  rintro _ ⟨i,E,F,I,G,rfl,g,l,p,q,d⟩
  simp only[zd]
  have f:I6.wrap (((P.length+U.length:Nat):Int) - (i:Int))=(E.length:Int):=by rw[za (by omega) (by omega)];omega
  have c:=zjI E F [] I G _ ((P.length+U.length:Nat):Int) (i:Int) f (by simp_all) (by omega) (by omega) (by grind)
  simp only[Bt]at c
  rw[c,<-d]
  rfl
def entOrd3:Ord3 entLt (λe:Ac=>(e.j,e.c)) where
 tri a b:=by
  cases h:entLt a b with
  | true=>exact .inl rfl
  | false=>
    by_cases g:a.j=b.j/\a.c=b.c
    ·simp_all
    ·exact .inr (.inr (znw g h))
 irr a b h:=by
  have d:a.j=b.j:=congrArg Prod.fst h
  have f:a.c=b.c:=congrArg Prod.snd h
  unfold entLt
  rw[d,f,zbW]
  simp
 trans a b c d f:=zhX d f
abbrev keyE (e:Ac):List UInt8 × Int:=(e.j,e.c)
def ztA (a b:Ac):((zn a b).bind λR=>some (Dc (R<(0:Int))))=some (entLt a b):=by obtain ⟨r,c,d,_⟩:=zen a b;simp_all
theorem zoU (P M S:List Ac) (a b:Int) (n:a=(P.length:Int)) (o:b=((P.length+M.length:Nat):Int)) (hl:P.length+M.length+S.length<=4611686018427387904):
 ∃R,zm (P++(M++S)) a b=some (P++(R++S))/\SrtL entLt R/\ClsL keyE R M:=by
 subst n o;unfold zm;have w0:I6.wrap ((P.length:Int)+(1:Int))=((P.length+1:Nat):Int):=by rw[za (by omega) (by omega)];omega
 rw[w0];refine zbo (τ:=Int × List Ac) (ρ:=List Ac) (R:=List Ac) (λx=>∃R,x=some (P++(R++S))/\SrtL entLt R/\ClsL keyE R M)
  (λk s=>∃R,s=(((P.length+(k+1):Nat):Int),P++(R++(M.drop (k+1)++S)))/\SrtL entLt R/\ClsL keyE R (M.take (k+1))) (M.length - 1)
  (λr=>∃R,r= .go (P++(R++S))/\SrtL entLt R/\ClsL keyE R M) ⟨M.take 1,?_,?_,ClsL.refl _ _⟩ ?_ ?_ ?_
 ·have e:M.take 1++(M.drop 1++S)=M++S:=by rw[<-Bm,Bo]
  simp_all
 ·cases M with
  | nil=>exact List.Pairwise.nil
  | cons x M0=>simp[SrtL]
 ·rintro k _ B ⟨R,rfl,hs,d⟩;left;have h:k+1<M.length:=by omega
  have hRl:R.length=k+1:=by rw[d.length,Ei];omega
  have C:M.drop (k+1)=M[k+1]::M.drop (k+2):=Bf h;have i:Dc (((P.length+(k+1):Nat):Int)<((P.length+M.length:Nat):Int))=true:=decide_eq_true (by omega);simp only[i,if_true];refine zbo (τ:=Int × List Ac) (ρ:=List Ac) (R:=Ctl (Int × List Ac) (Ctl (List Ac) (List Ac)))
   (λx=>∃s',x=some (.go s')/\∃Z,s'=(((P.length+(k+1+1):Nat):Int),P++(Z++(M.drop (k+1+1)++S)))/\SrtL entLt Z/\ClsL keyE Z (M.take (k+1+1)))
   (λt s=>∃V U,R=V++U/\V.length+t=k+1/\s=(((P.length+V.length:Nat):Int),P++(V++(M[k+1]::(U++(M.drop (k+2)++S)))))/\∀y∈U,entLt M[k+1] y=true) (k+1)
   (λr=>∃V U,R=V++U/\r= .go (P++(V++(M[k+1]::(U++(M.drop (k+2)++S)))))/\(∀y∈U,entLt M[k+1] y=true)/\∀y∈V,entLt M[k+1] y=false)
   ⟨R,[],by simp,by omega,by grind,by simp⟩ ?_ ?_ ?_
  ·rintro t _ j ⟨V,U,rfl,l,rfl,f⟩;have W:0<V.length:=by omega
   obtain ⟨O,y,rfl⟩: ∃O y,V=O++ [y]:=⟨V.dropLast,V.getLast (by grind),(List.dropLast_concat_getLast _).symm⟩;rw[Bh,Cr]at l W;have e:P++(O++ [y]++(M[k+1]::(U++(M.drop (k+2)++S))))=(P++O)++y::([]++M[k+1]::(U++(M.drop (k+2)++S))):=by simp
   have p:I6.wrap (((P.length+(O++ [y]).length:Nat):Int) - 1)=((P.length+O.length:Nat):Int):=by rw[Bh,Cr,za (by omega) (by omega)];omega
   obtain ⟨D,E,F,G,H,I⟩:=zm8 (P++O) [] (U++(M.drop (k+2)++S)) y M[k+1] ((P.length+O.length:Nat):Int) ((P.length+(O++ [y]).length:Nat):Int) (by simp) (by grind);have i:Dc (((P.length+(O++ [y]).length:Nat):Int)>(P.length:Int))=true:=by grind
   cases g:entLt M[k+1] y with
   | true=>
     left;refine ⟨(((P.length+O.length:Nat):Int),P++(O++(M[k+1]::((y::U)++(M.drop (k+2)++S))))),?_,O,y::U,by simp,by omega,rfl,?_⟩
     ·have q:=ztA M[k+1] y;simp_all
     ·simp_all
   | false=>
     right;refine ⟨.go (P++(O++ [y]++(M[k+1]::(U++(M.drop (k+2)++S))))),?_,O++ [y],U,rfl,rfl,f,?_⟩
     ·have q:=ztA M[k+1] y;simp_all
     ·intro z J;have L:=SrtL.last entOrd3 hs.left (by simp);have:entLt y z=false:=by simp_all
      exact entOrd3.le_trans this g
  ·rintro _ ⟨V,U,rfl,l,rfl,f⟩;have W:V= []:=Cq (by omega);subst W;refine ⟨.go (P++([]++(M[k+1]::(U++(M.drop (k+2)++S))))),?_,[],U,rfl,rfl,f,by simp⟩;simp
  ·rintro _ ⟨V,U,rfl,rfl,g,N⟩;refine ⟨(((P.length+(k+2):Nat):Int),P++((V++M[k+1]::U)++(M.drop (k+2)++S))),?_,V++M[k+1]::U,rfl,?_,?_⟩
   ·have p:I6.wrap (((P.length+(k+1):Nat):Int)+1)=((P.length+(k+2):Nat):Int):=by rw[za (by omega) (by omega)];omega
    simp_all
   ·refine hs.left.append ?_ ?_
    ·exact Bl.2 ⟨λy c=>entOrd3.asym (g y c),hs.right⟩
    ·intro x w y c;rcases Db.1 c with rfl | c
     ·simp_all
     ·exact hs.cross x w y c
   ·have j:M.take (k+2)=M.take (k+1)++ [M[k+1]]:=zZ M (k+1) h;rw[show k+1+1=k+2 from rfl,j];have A:V++M[k+1]::U=V++([M[k+1]]++U):=rfl;rw[A];refine ((ClsL.refl keyE V).append (ClsL.swap (K:=keyE) entOrd3 (u:=U) (v:=[M[k+1]]) ?_)).trans ?_
    ·simp_all
    ·rw[<-Bm];exact d.append (ClsL.refl _ _)
 ·rintro _ ⟨R,rfl,hs,d⟩;have m:M.length - 1+1>=M.length:=by omega
  rw[Bp m]at d;rw[Bw m];grind
 ·simp_all
theorem zld (X V S:List α) (k:Nat) (i:Int) (hi:i=(k:Int)) (a:X.length<=k) (b:k - X.length<V.length):idx (X++(V++S)) i=some V[k - X.length]:=by subst hi;unfold idx;grind
theorem zgF {lt:α->α->Bool} {V:List α} (A:SrtL lt V) (q:α->Bool) (c: ∀x y,lt y x=false->q y=true->q x=true) (hi: ∀x,lt x x=false) (k:Nat) (d:k<=V.length):
 ((∀h:0<k,q (V[k - 1]'(by omega))=true)->∀x∈V.take k,q x=true)/\((∀h:k<V.length,q V[k]=false)->∀x∈V.drop k,q x=false):=by
 have e:=Cv.1 A;constructor
 ·intro h x a;obtain ⟨i,b,rfl⟩:=Cg a;grind
 ·intro h x a;obtain ⟨i,b,rfl⟩:=Cg a;grind
def zpU {body:Int × Int->Option (Ctl (Int × Int) (Ctl Int R))} {f:Int->Option R} (G:Option R->Prop) (p:Nat->Bool) (a b:Nat) (i j:Int) (hi:i=(a:Int)) (d:j=(b:Int)) (e:a<=b) (g: ∀i j:Nat,a<=i->i<j->j<=b->body ((i:Int),(j:Int))=some (.go (if p ((i+j) / 2) then ((((i+j) / 2+1:Nat):Int),(j:Int)) else ((i:Int),(((i+j) / 2:Nat):Int))))) (h: ∀i:Nat,a<=i->i<=b->body ((i:Int),(i:Int))=some (.done (.go (i:Int)))) (k: ∀c:Nat,a<=c->c<=b->(a<c->p (c - 1)=true)->(c<b->p c=false)->G (f (c:Int))):G (bindC (loopO body (i,j)) f):=by subst hi d;obtain ⟨c,l,m,n,o,q⟩:=halve p a b e g h;simp_all
def zlc (i j:Nat) (h:i+j<=4611686018427387904):I6.wrap (ishr .u64 (IntKind.u64.wrap (I6.wrap ((i:Int)+(j:Int)))) (1:Int))=(((i+j) / 2:Nat):Int):=by rw[ztI (by omega) (by omega)];omega
def znN (a b:Ac) (k:Bool->Option τ):((zn a b).bind λR=>k (Dc (R<(0:Int))))=k (entLt a b):=by obtain ⟨r,c,d,_⟩:=zen a b;simp_all
theorem zwz (f_:Nat) (P V S:List Ac) (u:Ac) (a m b:Int) (C:a=(P.length:Int)) (D:m=((P.length+1:Nat):Int)) (E:b=((P.length+1+V.length:Nat):Int)) (hl:P.length+1+V.length+S.length<=1048576) (hV:SrtL entLt V):
 ∃R,ze (f_+1) (P++(u::(V++S))) a m b=some (P++(R++S))/\SrtL entLt R/\ClsL keyE R ([u]++V):=by
 subst C D E;rw[ze];have w0:Dc (I6.wrap (((P.length+1:Nat):Int) - (P.length:Int))=(1:Int))=true:=by rw[za (by omega) (by omega)];exact decide_eq_true (by omega)
 simp only[w0,if_true];have eX:P++(u::(V++S))=(P++ [u])++(V++S):=by simp
 have lX:(P++ [u]).length=P.length+1:=by simp
 refine zpU (λx=>∃R,x=some (P++(R++S))/\SrtL entLt R/\ClsL keyE R ([u]++V)) (λh=>if l:h - (P.length+1)<V.length then entLt V[h - (P.length+1)] u else false) (P.length+1) (P.length+1+V.length) _ _ rfl rfl (by omega) ?_ ?_ ?_
 ·intro i j F G g;have H:Dc ((i:Int)<(j:Int))=true:=decide_eq_true (by omega);have l:(i+j) / 2 - (P.length+1)<V.length:=by omega
  have n:idx (P++(u::(V++S))) (((i+j) / 2:Nat):Int)=some V[(i+j) / 2 - (P.length+1)]:=by rw[eX,zld (P++ [u]) V S ((i+j) / 2) _ rfl (by omega) (by omega)];simp
  have f:idx (P++(u::(V++S))) (P.length:Int)=some u:=ztK _ _ _ _ rfl;have I:I6.wrap ((((i+j) / 2:Nat):Int)+1)=(((i+j) / 2+1:Nat):Int):=by rw[za (by omega) (by omega)];omega
  simp only[H,if_true,zlc i j (by omega),n,f,An,I,dif_pos l];rw[znN _ _ (λq=>bindC (if q=true then _ else _) _)];cases entLt V[(i+j) / 2 - (P.length+1)] u<;>rfl
 ·simp
 ·intro c F G g J;obtain ⟨k,rfl⟩: ∃k,c=P.length+1+k:=⟨c - (P.length+1),by omega⟩;have K:k<=V.length:=by omega
  obtain ⟨o,p⟩:=zgF hV (λx=>entLt x u) (λx y h L=>entOrd3.le_lt h L) (λx=>entOrd3.irr x x rfl) k K;have w:=o (λM=>by
   have:=g (by omega);have e:P.length+1+k - 1 - (P.length+1)=k - 1:=by omega
   grind)
  have z:=p (λM=>by simp_all);generalize hV1:V.take k=V1 at w;generalize hV2:V.drop k=V2 at z;have hVe:V=V1++V2:=by rw[<-hV1,<-hV2,Bo]
  have hV1l:V1.length=k:=by grind
  clear hV1 hV2 g J o p;subst hVe;have N:I6.wrap (((P.length+1+k:Nat):Int) - (1:Int))=((P.length+k:Nat):Int):=by rw[za (by omega) (by omega)];omega
  simp only[N];refine zbo (τ:=Int × List Ac) (ρ:=List Ac) (R:=List Ac) (λx=>∃R,x=some (P++(R++S))/\SrtL entLt R/\ClsL keyE R ([u]++(V1++V2)))
   (λt s=>s=(((P.length+t:Nat):Int),P++(V1.take t++(u::(V1.drop t++(V2++S)))))) k (λr=>r= .go (P++((V1++u::V2)++S))) ?_ ?_ ?_ ?_
  ·simp
  ·rintro t _ Q rfl;left;have A:t<V1.length:=by omega
   have n:P++(V1.take t++(u::(V1.drop t++(V2++S))))=(P++V1.take t)++u::([]++V1[t]::(V1.drop (t+1)++(V2++S))):=by rw[Bf A];simp only[Bm,Da,Bt]
   have f:P++(V1.take (t+1)++(u::(V1.drop (t+1)++(V2++S))))=(P++V1.take t)++V1[t]::([]++u::(V1.drop (t+1)++(V2++S))):=by rw[zZ V1 t A];simp only[Bm,Da,Bt]
   have T:I6.wrap (((P.length+t:Nat):Int)+1)=((P.length+(t+1):Nat):Int):=by rw[za (by omega) (by omega)];omega
   obtain ⟨U,W,X,Y,Z,q6⟩:=zm8 (P++V1.take t) [] (V1.drop (t+1)++(V2++S)) u V1[t] ((P.length+t:Nat):Int) ((P.length+(t+1):Nat):Int)
    (by grind) (by grind)
   simp_all
  ·grind
  ·rintro _ rfl;refine ⟨V1++u::V2,rfl,?_,?_⟩
   ·refine hV.left.append (Bl.2 ⟨λy d=>z y d,hV.right⟩) ?_;intro x B y d;rcases Db.1 d with rfl | d
    ·exact entOrd3.asym (w x B)
    ·exact hV.cross x B y d
   ·have f:V1++u::V2=(V1++ [u])++V2:=by simp
    have O: [u]++(V1++V2)=([u]++V1)++V2:=by simp
    rw[f,O];refine (ClsL.swap entOrd3 (u:=[u]) (v:=V1) ?_).append (ClsL.refl _ _);simp_all
theorem zvK (f_:Nat) (P U S:List Ac) (v:Ac) (a m b:Int) (B:a=(P.length:Int)) (C:m=((P.length+U.length:Nat):Int)) (D:b=((P.length+U.length+1:Nat):Int)) (hU1:1<U.length) (hl:P.length+1+U.length+S.length<=1048576) (hU:SrtL entLt U):
 ∃R,ze (f_+1) (P++(U++(v::S))) a m b=some (P++(R++S))/\SrtL entLt R/\ClsL keyE R (U++ [v]):=by
 subst B C D;rw[ze];have w0:Dc (I6.wrap (((P.length+U.length:Nat):Int) - (P.length:Int))=(1:Int))=false:=by rw[za (by omega) (by omega)];exact decide_eq_false (by omega)
 have g:Dc (I6.wrap (((P.length+U.length+1:Nat):Int) - ((P.length+U.length:Nat):Int))=(1:Int))=true:=by rw[za (by omega) (by omega)];exact decide_eq_true (by omega)
 simp only[w0,g,if_true,Ba,if_false];refine zpU (λx=>∃R,x=some (P++(R++S))/\SrtL entLt R/\ClsL keyE R (U++ [v])) (λh=>if l:h - P.length<U.length then !entLt v U[h - P.length] else false) P.length (P.length+U.length) _ _ rfl rfl (by omega) ?_ ?_ ?_
 ·intro i j E F n;have G:Dc ((i:Int)<(j:Int))=true:=decide_eq_true (by omega);have l:(i+j) / 2 - P.length<U.length:=by omega
  have o:idx (P++(U++(v::S))) (((i+j) / 2:Nat):Int)=some U[(i+j) / 2 - P.length]:=zld P U (v::S) ((i+j) / 2) _ rfl (by omega) (by omega);have e:idx (P++(U++(v::S))) ((P.length+U.length:Nat):Int)=some v:=by rw[<-Bm];exact ztK _ _ _ _ (by simp)
  have g:I6.wrap ((((i+j) / 2:Nat):Int)+1)=(((i+j) / 2+1:Nat):Int):=by rw[za (by omega) (by omega)];omega
  simp only[G,if_true,zlc i j (by omega),o,e,An,g,dif_pos l];rw[znN _ _ (λq=>bindC (if (!q)=true then _ else _) _)];cases entLt v U[(i+j) / 2 - P.length]<;>rfl
 ·simp
 ·intro c E F n H;obtain ⟨k,rfl⟩: ∃k,c=P.length+k:=⟨c - P.length,by omega⟩;have I:k<=U.length:=by omega
  obtain ⟨p,w⟩:=zgF hU (λx=>!entLt v x) (λx y h z=>by
   simp only[Ds]at z |-
   exact entOrd3.le_trans h z) (λx=>entOrd3.irr x x rfl) k I
  have J:=p (λK=>by grind);have L:=w (λK=>by simp_all);generalize hU1:U.take k=U1 at J;generalize hU2:U.drop k=U2 at L;have hUe:U=U1++U2:=by rw[<-hU1,<-hU2,Bo]
  have hU1l:U1.length=k:=by grind
  clear hU1 hU2 n H p w;subst hUe;rw[Bh]at*;refine zbo (τ:=Int × List Ac) (ρ:=List Ac) (R:=List Ac) (λx=>∃R,x=some (P++(R++S))/\SrtL entLt R/\ClsL keyE R ((U1++U2)++ [v]))
   (λt s=>s=(((P.length+(U1.length+(U2.length - t)):Nat):Int),P++(U1++(U2.take (U2.length - t)++(v::(U2.drop (U2.length - t)++S)))))) U2.length (λr=>r= .go (P++((U1++v::U2)++S))) ?_ ?_ ?_ ?_
  ·simp
  ·rintro t _ Q rfl;left;obtain ⟨d,M⟩: ∃d,U2.length - t=d+1:=⟨U2.length - t - 1,by omega⟩;have T:U2.length - (t+1)=d:=by omega
   have A:d<U2.length:=by omega
   rw[M];have o:P++(U1++(U2.take (d+1)++(v::(U2.drop (d+1)++S))))=(P++(U1++U2.take d))++U2[d]::([]++v::(U2.drop (d+1)++S)):=by rw[zZ U2 d A];simp only[Bm,Da,Bt]
   have e:P++(U1++(U2.take d++(v::(U2.drop d++S))))=(P++(U1++U2.take d))++v::([]++U2[d]::(U2.drop (d+1)++S)):=by rw[Bf A];simp only[Bm,Da,Bt]
   have V:I6.wrap (((P.length+(U1.length+(d+1)):Nat):Int) - 1)=((P.length+(U1.length+d):Nat):Int):=by rw[za (by omega) (by omega)];omega
   obtain ⟨W,X,Y,Z,q5,q6⟩:=zm8 (P++(U1++U2.take d)) [] (U2.drop (d+1)++S) U2[d] v ((P.length+(U1.length+d):Nat):Int) ((P.length+(U1.length+(d+1)):Nat):Int)
    (by grind) (by grind)
   grind
  ·simp_all
  ·rintro _ rfl;refine ⟨U1++v::U2,rfl,?_,?_⟩
   ·refine hU.left.append (Bl.2 ⟨λy f=>entOrd3.asym (by simp_all),hU.right⟩) ?_;intro x N y f;rcases Db.1 f with rfl | f
    ·simp_all
    ·exact hU.cross x N y f
   ·have e:U1++v::U2=U1++([v]++U2):=by simp
    have O:(U1++U2)++ [v]=U1++(U2++ [v]):=by simp
    rw[e,O];refine (ClsL.refl _ _).append (ClsL.swap entOrd3 (u:=U2) (v:=[v]) ?_);simp_all
def znV (x y:Bool) (h:Option (List Ac)) (D A:List Ac) (k:List Ac->Option R) (b:x=true->y=true->h=some A) (a: ¬(x=true/\y=true)->D=A):
    ((if x=true then some y else some false).bind λT=>bindC (if T=true then (h.bind λR=>some (.go R)) else some (.go D)) k)=k A:=by
 cases x with
 | false=>rw[a (by simp)];rfl
 | true=>simp_all
theorem ztp: ∀(f_:Nat) (P U V S:List Ac) (a m b:Int) (A M B:Nat) (N:a=(A:Int)) (O:m=(M:Int)) (Q:b=(B:Int)) (hA:A=P.length) (hM:M=A+U.length) (hB:B=M+V.length) (hU0:0<U.length) (hV0:0<V.length)
 (s:U.length+V.length<=2 ^ f_) (hl:P.length+U.length+V.length+S.length<=1048576) (hU:SrtL entLt U) (hV:SrtL entLt V),
 ∃R,ze f_ (P++(U++(V++S))) a m b=some (P++(R++S))/\SrtL entLt R/\ClsL keyE R (U++V):=by
 intro f_;induction f_ with
 | zero=>omega
 | succ f_ ih=>
   intro P U V S a m b A M B N O Q hA hM hB hU0 hV0 s hl hU hV;rcases Cu 1 U.length with hU1 | hU1
   rcases Cu 1 V.length with hV1 | hV1
   ·
    rw[ze];subst N O Q;have w0:Dc (I6.wrap ((M:Int) - (A:Int))=(1:Int))=false:=by rw[za (by omega) (by omega)];exact decide_eq_false (by omega)
    have E:Dc (I6.wrap ((B:Int) - (M:Int))=(1:Int))=false:=by rw[za (by omega) (by omega)];exact decide_eq_false (by omega)
    obtain ⟨D,hD⟩: ∃D,D=(A+B) / 2:=⟨_,rfl⟩;have T:=zlc A B (by omega);rw[<-hD]at T;have Y:I6.wrap ((D:Int)+(M:Int))=((D+M:Nat):Int):=by rw[za (by omega) (by omega)];omega
    have Z:I6.wrap (((D+M:Nat):Int) - (1:Int))=((D+M - 1:Nat):Int):=by rw[za (by omega) (by omega)];omega
    simp only[w0,E,T,Y,Z,Ba,if_false];obtain ⟨s0,g,hs,b1,b2,b3,b4,b5,b6,b7⟩: ∃s0 g:Nat,(if (Dc ((M:Int)>(D:Int)))=true then (some (Ctl.go (ρ:=List Ac) (I6.wrap (((D+M:Nat):Int) - (B:Int)),(D:Int)))) else (some (.go ((A:Int),(M:Int)))))=some (.go ((s0:Int),(g:Int)))/\
     A<=s0/\s0<=g/\g<=M/\g<=D/\D+M<=s0+B/\(g=D\/g=M)/\(s0=A\/s0+B=D+M):=by
     rcases Cu D M with h | h
     ·refine ⟨D+M - B,D,?_,by omega,by omega,by omega,by omega,by omega,by omega,by omega⟩;rw[if_pos (decide_eq_true (by omega)),za (by omega) (by omega)];congr 3;omega
     ·refine ⟨A,M,?_,by omega,by omega,by omega,by omega,by omega,by omega,by omega⟩;rw[if_neg (by simp;omega)]
    rw[hs,zd];clear hs;refine zpU (λx=>∃R,x=some (P++(R++S))/\SrtL entLt R/\ClsL keyE R (U++V)) (λc=>if f:c - A<U.length/\D - 1 - c<V.length then !entLt (V[D - 1 - c]'f.2) (U[c - A]'f.1) else false) s0 g _ _ rfl rfl b2 ?_ ?_ ?_
    ·intro i j t w k;have F:Dc ((i:Int)<(j:Int))=true:=decide_eq_true (by omega);have f:(i+j) / 2 - A<U.length/\D - 1 - (i+j) / 2<V.length:=by omega
     have w5:I6.wrap (((D+M - 1:Nat):Int) - (((i+j) / 2:Nat):Int))=((D+M - 1 - (i+j) / 2:Nat):Int):=by rw[za (by omega) (by omega)];omega
     have z:idx (P++(U++(V++S))) (((i+j) / 2:Nat):Int)=some (U[(i+j) / 2 - A]'f.1):=by rw[zld P U (V++S) ((i+j) / 2) _ rfl (by omega) (by omega)];congr 2;omega
     have C:idx (P++(U++(V++S))) ((D+M - 1 - (i+j) / 2:Nat):Int)=some (V[D - 1 - (i+j) / 2]'f.2):=by rw[<-Bm,zld (P++U) V S (D+M - 1 - (i+j) / 2) _ rfl (by rw[Bh];omega) (by rw[Bh];omega)];congr 2;rw[Bh];omega
     have E:I6.wrap ((((i+j) / 2:Nat):Int)+1)=(((i+j) / 2+1:Nat):Int):=by rw[za (by omega) (by omega)];omega
     simp only[F,if_true,zlc i j (by omega),w5,z,C,An,E,dif_pos f];rw[znN _ _ (λq=>bindC (if (!q)=true then _ else _) _)];cases entLt (V[D - 1 - (i+j) / 2]'f.2) (U[(i+j) / 2 - A]'f.1)<;>rfl
    ·intro i t w;have F:Dc ((i:Int)<(i:Int))=false:=decide_eq_false (by omega);simp only[F];rfl
    ·intro c t w k p;have G:c - A<=U.length:=by omega
     have H:D - c<=V.length:=by omega
     have x1: ∀x∈V.take (D - c),∀y∈U.drop (c - A),entLt x y=true:=by
      rcases Cu c g with l | l
      ·have f:c - A<U.length/\D - 1 - c<V.length:=by omega
       have p:=p l;rw[dif_pos f]at p;simp only[Fi]at p;have I:=(zgF hV (λx=>entLt x (U[c - A]'f.1)) (λx y h d=>entOrd3.le_lt h d) (λx=>entOrd3.irr x x rfl) (D - c) H).1 (λJ=>by
        have e:D - c - 1=D - 1 - c:=by omega
        simp only[e];exact p)
       intro x n y o;have t2:=(zgF hU (λy=>!entLt x y) (λK y2 h d=>by
        simp only[Ds]at d |-
        cases L:entLt x K with
        | false=>rfl
        | true=>rw[entOrd3.lt_le L h]at d;cases d) (λx=>entOrd3.irr x x rfl) (c - A) G).2 (λJ=>by rw[I x n];rfl) y o
       simpa using t2
      ·intro x n y o;rcases b6 with e | e
       ·have:D - c=0:=by omega
        rw[this]at n;simp at n
       ·grind
     have x2: ∀x∈U.take (c - A),∀y∈V.drop (D - c),entLt y x=false:=by
      rcases Cu s0 c with l | l
      ·have k:=k l;have f:c - 1 - A<U.length/\D - 1 - (c - 1)<V.length:=by refine Decidable.byContradiction λhn=>?_;rw[dif_neg hn]at k;cases k
       rw[dif_pos f]at k;simp only[Ds]at k;have I:=(zgF hV (λy=>entLt y (U[c - 1 - A]'f.1)) (λx y h d=>entOrd3.le_lt h d) (λx=>entOrd3.irr x x rfl) (D - c) H).2 (λJ=>by
        have e:D - c=D - 1 - (c - 1):=by omega
        simp only[e];exact k)
       intro x n y o;have t2:=(zgF hU (λx=>!entLt y x) (λK y2 h d=>by
        simp only[Ds]at d |-
        cases L:entLt y K with
        | false=>rfl
        | true=>rw[entOrd3.lt_le L h]at d;cases d) (λx=>entOrd3.irr x x rfl) (c - A) G).1 (λJ=>by
          have e:c - A - 1=c - 1 - A:=by omega
          simp only[e];rw[I y o];rfl) x n
       simpa using t2
      ·intro x n y o;rcases b7 with e | e
       ·have:c - A=0:=by omega
        rw[this]at n;simp at n
       ·rw[Bw (by omega)]at o;simp at o
     have hUe:U=U.take (c - A)++U.drop (c - A):=(Bo _ _).symm;have hVe:V=V.take (D - c)++V.drop (D - c):=(Bo _ _).symm;have l1:(U.take (c - A)).length=c - A:=by rw[Ei];omega
     have l2:(U.drop (c - A)).length=M - c:=by rw[Df];omega
     have l3:(V.take (D - c)).length=D - c:=by rw[Ei];omega
     have l4:(V.drop (D - c)).length=B+c - (D+M):=by rw[Df];omega
     generalize U.take (c - A)=U1 at*;generalize U.drop (c - A)=U2 at*;generalize V.take (D - c)=V1 at*;generalize V.drop (D - c)=V2 at*;subst hUe hVe;clear k p G H;have w6:I6.wrap (((D+M:Nat):Int) - (c:Int))=((D+M - c:Nat):Int):=by rw[za (by omega) (by omega)];omega
     simp only[Bh]at hM hB hl s;obtain ⟨R1,s1,W,q1,q2⟩: ∃R1,SrtL entLt R1/\ClsL keyE R1 (U1++V1)/\
      (Dc ((A:Int)<(c:Int))=true->Dc ((c:Int)<(D:Int))=true->ze f_ (P++(U1++(V1++(U2++(V2++S))))) (A:Int) (c:Int) (D:Int)=some (P++(R1++(U2++(V2++S)))))/\
      (¬(Dc ((A:Int)<(c:Int))=true/\Dc ((c:Int)<(D:Int))=true)->P++(U1++(V1++(U2++(V2++S))))=P++(R1++(U2++(V2++S)))):=by
      by_cases l:A<c/\c<D
      ·obtain ⟨R1,z,C,X⟩:=ih P U1 V1 (U2++(V2++S)) (A:Int) (c:Int) (D:Int) A c D rfl rfl rfl hA (by omega) (by omega) (by omega) (by omega) (by rw[Ge]at s;omega) (by simp only[Bh];omega) hU.left hV.left;exact ⟨R1,C,X,λ_ _=>z,λh=>absurd ⟨decide_eq_true (by omega),decide_eq_true (by omega)⟩ h⟩
      ·refine ⟨U1++V1,?_,ClsL.refl _ _,λh d=>absurd ⟨by have:=of_decide_eq_true h;omega,by have:=of_decide_eq_true d;omega⟩ l,λ_=>by simp⟩;have:U1= []\/V1= []:=by
        rcases Cu A c with h | h
        ·exact .inr (Cq (by omega))
        ·exact .inl (Cq (by omega))
       rcases this with e | e
       ·subst e;exact hV.left
       ·subst e;rw[Cj];exact hU.left
     have hR1:R1.length=D - A:=by rw[W.length,Bh];omega
     obtain ⟨R2,s2,k2,q3,q4⟩: ∃R2,SrtL entLt R2/\ClsL keyE R2 (U2++V2)/\
      (Dc ((D:Int)<((D+M - c:Nat):Int))=true->Dc (((D+M - c:Nat):Int)<(B:Int))=true->ze f_ (P++(R1++(U2++(V2++S)))) (D:Int) ((D+M - c:Nat):Int) (B:Int)=some (P++(R1++R2++S)))/\
      (¬(Dc ((D:Int)<((D+M - c:Nat):Int))=true/\Dc (((D+M - c:Nat):Int)<(B:Int))=true)->P++(R1++(U2++(V2++S)))=P++(R1++R2++S)):=by
      by_cases l:D<D+M - c/\D+M - c<B
      ·obtain ⟨R2,z,C,X⟩:=ih (P++R1) U2 V2 S (D:Int) ((D+M - c:Nat):Int) (B:Int) D (D+M - c) B rfl rfl rfl (by rw[Bh];omega) (by omega) (by omega) (by omega) (by omega) (by rw[Ge]at s;omega) (by simp only[Bh];omega) hU.right hV.right;grind
      ·refine ⟨U2++V2,?_,ClsL.refl _ _,λh d=>absurd ⟨by have:=of_decide_eq_true h;omega,by have:=of_decide_eq_true d;omega⟩ l,λ_=>by simp⟩;have:U2= []\/V2= []:=by
        rcases Cu D (D+M - c) with h | h
        ·exact .inr (Cq (by omega))
        ·exact .inl (Cq (by omega))
       rcases this with e | e
       ·subst e;exact hV.right
       ·subst e;rw[Cj];exact hU.right
     refine ⟨R1++R2,?_,mergeParts entOrd3 hU hV x1 x2 s1 W s2 k2⟩;simp only[w6];rw[znV _ _ _ _ (P++(U1++(V1++(U2++(V2++S))))),znV _ _ _ _ _ _ q1 q2,znV _ _ _ _ _ _ q3 q4]
     ·intro h d;have h:=of_decide_eq_true h;have d:=of_decide_eq_true d;have:=zvB (P++U1) U2 V1 (V2++S) (c:Int) (M:Int) ((D+M - c:Nat):Int) (by rw[Bh];omega) (by rw[Bh];omega) (by rw[Bh];omega) (by omega) (by omega) (by rw[Bh];omega);simp only[Bm]at this |-
      exact this
     ·intro h;have:U2= []\/V1= []:=by
       rcases Cu c M with t | t
       ·refine .inr (Cq ?_);rcases Cu M (D+M - c) with w | w
        ·exact absurd ⟨decide_eq_true (by omega),decide_eq_true (by omega)⟩ h
        ·omega
       ·exact .inl (Cq (by omega))
      rcases this with e | e
      ·subst e;simp
      ·subst e;simp
   ·obtain ⟨v,rfl⟩: ∃v,V= [v]:=by
     match V,hV0,hV1 with
     | [v],_,_=>exact ⟨v,rfl⟩
    exact zvK f_ P U S v a m b (by omega) (by omega) (by simp only[Cr]at hB;omega) hU1 (by simp only[Cr]at hl;omega) hU
   ·obtain ⟨u,rfl⟩: ∃u,U= [u]:=by
     match U,hU0,hU1 with
     | [u],_,_=>exact ⟨u,rfl⟩
    simp only[Cr]at hl hM;exact zwz f_ P V S u a m b (by omega) (by omega) (by omega) (by omega) hV
theorem znO (P Y A:List α) (i z:Nat) (h:i+z<=P.length):((P++Y).drop i).take z=((P++A).drop i).take z:=by grind
def zuU (W A S:List α) (i z:Nat) (h:W.length<=i) (a:A.length=W.length):((W++S).drop i).take z=((A++S).drop i).take z:=by rw[Fm,Fm,Bw h,Bw (l:=A) (by omega),a]
def cut3 (X:List α) (i z:Nat):X=X.take i++((X.drop i).take z++X.drop (i+z)):=by rw[show X.drop (i+z)=(X.drop i).drop z by simp,Bo,Bo]
def SrtL.nil {α:Type} {lt:α->α->Bool} :SrtL lt ([]:List α):=List.Pairwise.nil
def zlS (P U V S:List Ac) (a m b:Int) (A M B:Nat) (c:a=(A:Int)) (d:m=(M:Int)) (e:b=(B:Int)) (E:A=P.length) (G:M=A+U.length) (F:B=M+V.length) (h:0<U.length) (D:0<V.length) (hl:P.length+U.length+V.length+S.length<=1048576) (I:SrtL entLt U) (J:SrtL entLt V):
    ∃R,zr (P++(U++(V++S))) a m b=some (P++(R++S))/\SrtL entLt R/\ClsL keyE R (U++V):=
 ztp 64 P U V S a m b A M B c d e E G F h D (Ec (show U.length+V.length<=1048576 by omega) (by decide)) hl I J
theorem zrS (A:List Ac) (hl:A.length<=1048576) {f:Int × List Ac->Option R} (G:Option R->Prop) (g: ∀(t:Nat) (X:List Ac),X.length=A.length->ClsL keyE X A->t*20<=A.length->A.length<t*20+20->(∀i,i<t->SrtL entLt ((X.drop (i*20)).take 20))->G (f (((t*20:Nat):Int),X))):
 G (bindC (loopO (λ(B:Int × Int × List Ac)=>if (Dc (B.2.1<=(A.length:Int)))=true then ((zm B.2.2 B.1 B.2.1).bind λD=>
 some (.go (B.2.1,I6.wrap (B.2.1+(20:Int)),D)))
 else (some (.done (.go (B.1,B.2.2)))))
 ((0:Int),(20:Int),A)) f):=by
 refine zbo (τ:=Int × Int × List Ac) (ρ:=Int × List Ac) (R:=R) G
  (λt s=>∃X:List Ac,s=(((t*20:Nat):Int),((t*20+20:Nat):Int),X)/\X.length=A.length/\ClsL keyE X A/\t*20<=A.length/\(∀i,i<t->SrtL entLt ((X.drop (i*20)).take 20)))
  (A.length+1) (λr=>∃(t:Nat) (X:List Ac),r= .go (((t*20:Nat):Int),X)/\X.length=A.length/\ClsL keyE X A/\t*20<=A.length/\A.length<t*20+20/\(∀i,i<t->SrtL entLt ((X.drop (i*20)).take 20)))
  ⟨A,rfl,rfl,ClsL.refl _ _,by omega,λi h=>by omega⟩ ?_ ?_ ?_
 ·rintro t _ j ⟨X,rfl,k,c,l,d⟩;rcases Cu A.length (t*20+20) with h | h
  ·grind
  ·left;have E:=cut3 X (t*20) 20;have O:(X.take (t*20)).length=t*20:=by grind
   have F:((X.drop (t*20)).take 20).length=20:=by grind
   have U:(X.drop (t*20+20)).length=A.length - (t*20+20):=by grind
   generalize X.take (t*20)=P at*;generalize (X.drop (t*20)).take 20=M at*;generalize X.drop (t*20+20)=S at*;subst E;obtain ⟨N,I,hs,a⟩:=zoU P M S ((t*20:Nat):Int) ((t*20+20:Nat):Int) (by omega) (by omega) (by omega);have J:N.length=20:=by rw[a.length,F]
   have m:I6.wrap (((t*20+20:Nat):Int)+20)=(((t+1)*20+20:Nat):Int):=by rw[za (by omega) (by omega)];omega
   have e:((t+1)*20:Nat)=t*20+20:=by omega
   refine ⟨(((t*20+20:Nat):Int),(((t+1)*20+20:Nat):Int),P++(N++S)),?_,P++(N++S),by rw[e],?_,?_,by omega,?_⟩
   ·grind
   ·simp_all
   ·exact ((ClsL.refl keyE P).append (a.append (ClsL.refl _ _))).trans c
   ·intro i hi;rcases Cu i t with b | b
    ·rw[znO P _ (M++S) _ _ (by omega)];exact d i b
    ·grind
 ·omega
 ·simp_all
theorem ztn (E:List Ac) (n z:Nat) (q:E.length=n) (v:0<z) (w:z<n) (hl:n<=262144) (u: ∀i,SrtL entLt ((E.drop (i*z)).take z)) {f:List Ac->Option R} (G:Option R->Prop) (l: ∀(X:List Ac),X.length=n->ClsL keyE X E->(∀i,SrtL entLt ((X.drop (i*(2*z))).take (2*z)))->G (f X)):
 G (bindC (loopO (λ(B:Int × Int × List Ac)=>if (Dc (B.2.1<=(n:Int)))=true then ((zr B.2.2 B.1 (I6.wrap (B.1+(z:Int))) B.2.1).bind λW=>
 some (.go (B.2.1,I6.wrap (B.2.1+(I6.wrap ((2:Int)*(z:Int)))),W)))
 else (some (.done (.go (B.1,B.2.2)))))
 ((0:Int),I6.wrap ((2:Int)*(z:Int)),E))
 (λ(D:Int × List Ac)=>bindC (if (Dc (I6.wrap (D.1+(z:Int))<(n:Int)))=true then ((zr D.2 D.1 (I6.wrap (D.1+(z:Int))) (n:Int)).bind λZ=>
 some (.go Z))
 else (some (.go D.2))) f)):=by
 have w0:I6.wrap ((2:Int)*(z:Int))=((2*z:Nat):Int):=by rw[za (by omega) (by omega)];omega
 rw[w0];refine zbo (τ:=Int × Int × List Ac) (ρ:=Int × List Ac) (R:=R) G
  (λt s=>∃(c:Nat) (X:List Ac),c=t*(2*z)/\s=((c:Int),((c+2*z:Nat):Int),X)/\X.length=n/\ClsL keyE X E/\c<=n/\(∀i,i<t->SrtL entLt ((X.drop (i*(2*z))).take (2*z)))/\(∀i,c<=i*z->SrtL entLt ((X.drop (i*z)).take z)))
  (n+1) (λr=>∃(t c:Nat) (X:List Ac),c=t*(2*z)/\r= .go ((c:Int),X)/\X.length=n/\ClsL keyE X E/\c<=n/\n<c+2*z/\(∀i,i<t->SrtL entLt ((X.drop (i*(2*z))).take (2*z)))/\(∀i,c<=i*z->SrtL entLt ((X.drop (i*z)).take z)))
  ⟨0,E,by omega,by simp,q,ClsL.refl _ _,by omega,λi h=>by omega,λi _=>u i⟩ ?_ ?_ ?_
 ·rintro t _ x ⟨c,X,m,rfl,j,d,o,g,b⟩;rcases Cu n (c+2*z) with h | h
  ·grind
  ·left;have I:=cut3 X c z;have F:=cut3 (X.drop (c+z)) 0 z;rw[List.take_zero,Bt,Dx,Dl]at F;rw[F]at I;have lP:(X.take c).length=c:=by grind
   have lU:((X.drop c).take z).length=z:=by simp;omega
   have lV:((X.drop (c+z)).take z).length=z:=by grind
   have lS:(X.drop (c+z+(0+z))).length=n - (c+2*z):=by grind
   have M:SrtL entLt ((X.drop c).take z):=by
    have:=b (2*t) (by grind)
    rwa [show 2*t*z=c by grind]at this
   have O:SrtL entLt ((X.drop (c+z)).take z):=by
    have:=b (2*t+1) (by grind)
    rwa [show (2*t+1)*z=c+z by grind]at this
   generalize X.take c=P at*;generalize (X.drop c).take z=U at*;generalize (X.drop (c+z)).take z=V at*;generalize X.drop (c+z+(0+z))=S at*;clear F;subst I;obtain ⟨N,J,hs,e⟩:=zlS P U V S (c:Int) ((c+z:Nat):Int) ((c+2*z:Nat):Int) c (c+z) (c+2*z) rfl rfl rfl (by omega) (by omega) (by omega) (by omega) (by omega) (by omega) M O;have lN:N.length=2*z:=by rw[e.length,Bh,lU,lV];omega
   have y:I6.wrap (((c+2*z:Nat):Int)+((2*z:Nat):Int))=((c+2*z+2*z:Nat):Int):=by rw[za (by omega) (by omega)];omega
   have k:I6.wrap ((c:Int)+(z:Int))=((c+z:Nat):Int):=by rw[za (by omega) (by omega)];omega
   refine ⟨(((c+2*z:Nat):Int),((c+2*z+2*z:Nat):Int),P++(N++S)),?_,c+2*z,P++(N++S),by grind,rfl,?_,?_,h,?_,?_⟩
   ·rw[if_pos (decide_eq_true (by grind))];simp_all
   ·grind
   ·refine ClsL.trans ?_ d;rw[<-Bm U V S];exact (ClsL.refl keyE P).append (e.append (ClsL.refl _ _))
   ·intro i hi;rcases Cu i t with a | a
    ·rw[znO P _ (U++(V++S)) _ _ (by have:=En (2*z) a;grind)];exact g i a
    ·grind
   ·intro i hi;have:=b i (by omega);rw[<-Bm,zuU (P++N) (P++(U++V)) S _ _ (by simp_all) (by grind)];simp_all
 ·rintro _ ⟨c,X,m,rfl,j,d,o,g,b⟩;have:(n+1)*1<=(n+1)*(2*z):=Nat.mul_le_mul_left _ (by omega);omega
 ·rintro _ ⟨t,c,X,m,rfl,j,d,o,A,g,b⟩;rw[zd];have k:I6.wrap ((c:Int)+(z:Int))=((c+z:Nat):Int):=by rw[za (by omega) (by omega)];omega
  have M:SrtL entLt ((X.drop c).take z):=by have:=b (2*t) (by grind);grind
  have O:SrtL entLt ((X.drop (c+z)).take z):=by have:=b (2*t+1) (by grind);grind
  have p: ∀(P N:List Ac),P=X.take c->N.length=n - c->SrtL entLt N->∀i,SrtL entLt (((P++N).drop (i*(2*z))).take (2*z)):=by
   intro P N hP lN hs i;have lP:P.length=c:=by simp_all
   rcases Dq i t with a | a | a
   ·have:=g i a;rw[show X=X.take c++X.drop c from (Bo _ _).symm,<-hP]at this;rw[znO P N (X.drop c) _ _ (by have:=En (2*z) a;grind)];trivial
   ·subst a;rw[Eo (by omega),Bw (by omega),Bt,Bp (by omega)];trivial
   ·have:=En (2*z) a;rw[Nat.succ_mul]at this;rw[Bw (by grind),Fw];exact SrtL.nil
  rcases Cu (c+z) n with h | h
  ·rw[k,if_pos (decide_eq_true (by omega))];have I:=cut3 X c z;have lP:(X.take c).length=c:=by grind
   have lU:((X.drop c).take z).length=z:=by grind
   have lV:(X.drop (c+z)).length=n - (c+z):=by grind
   have lV2:(X.drop (c+z)).take z=X.drop (c+z):=Bp (by omega);rw[lV2]at O;generalize hP:X.take c=P at*;generalize (X.drop c).take z=U at*;generalize X.drop (c+z)=V at*;obtain ⟨N,J,hs,e⟩:=zlS P U V [] (c:Int) ((c+z:Nat):Int) (n:Int) c (c+z) n rfl rfl rfl (by omega) (by omega) (by omega) (by omega) (by omega) (by grind) M O;simp only[Cj]at J;have lN:N.length=n - c:=by rw[e.length,Bh,lU,lV];omega
   rw[<-I]at J;simp only[J,An,zd];refine l (P++N) (by simp_all) ?_ (p P N rfl lN hs);refine ClsL.trans ?_ d;rw[I];exact (ClsL.refl keyE P).append e
  ·rw[k,if_neg (by grind),zd];refine l X j d ?_;have:=p (X.take c) (X.drop c) rfl (by simp_all) (by rwa [Bp (by grind)]at M);simp_all
theorem zvJ (D:List Ac) (hl:D.length<=262144): ∃R,zJ D=some R/\SrtL entLt R/\ClsL keyE R D:=by
 unfold zJ;suffices h: ∃R,zN D (D.length:Int)=some R/\SrtL entLt R/\ClsL keyE R D by simp_all
 unfold zN;refine zrS D (by omega) (λx=>∃R,x=some R/\SrtL entLt R/\ClsL keyE R D) ?_;intro t X v l w y A;have I:X=X.take (t*20)++(X.drop (t*20)++ []):=by simp
 have U:(X.take (t*20)).length=t*20:=by grind
 have J:(X.drop (t*20)).length=D.length - t*20:=by grind
 generalize X.take (t*20)=P at*;generalize X.drop (t*20)=M at*;subst I;obtain ⟨N,G,hs,d⟩:=zoU P M [] ((t*20:Nat):Int) (D.length:Int) (by omega) (by omega) (by grind);have O:N.length=D.length - t*20:=by rw[d.length];omega
 simp only[G,An];have e: ∀i,SrtL entLt (((P++(N++ [])).drop (i*20)).take 20):=by
  intro i;rcases Dq i t with c | c | c
  ·grind
  ·subst c;rw[Cj,Eo (by omega),Bw (by omega),Bt,Bp (by omega)];trivial
  ·rw[Bw (by grind),Fw];exact SrtL.nil
 have f:ClsL keyE (P++(N++ [])) D:=((ClsL.refl keyE P).append (d.append (ClsL.refl _ _))).trans l;have g:(P++(N++ [])).length=D.length:=by simp_all
 generalize P++(N++ [])=Y at e f g;refine zbo (τ:=Int × List Ac) (ρ:=List Ac) (R:=List Ac) (λx=>∃R,x=some R/\SrtL entLt R/\ClsL keyE R D)
  (λk s=>∃(z:Nat) (X:List Ac),20+k<=z/\z<=1048576/\s=((z:Int),X)/\X.length=D.length/\ClsL keyE X D/\(∀i,SrtL entLt ((X.drop (i*z)).take z))) D.length
  (λr=>∃X,r= .go X/\SrtL entLt X/\ClsL keyE X D) ⟨20,Y,by omega,by omega,rfl,g,f,e⟩ ?_ ?_ ?_
 ·rintro k _ B ⟨z,X,m,n,rfl,j,a,b⟩;rcases Cu z D.length with h | h
  ·left;simp only;rw[if_pos (decide_eq_true (by omega))];refine ztn (R:=Ctl (Int × List Ac) (Ctl (List Ac) (List Ac))) X D.length z j (by omega) h hl b (λx=>∃E,x=some (.go E)/\∃(z:Nat) (X:List Ac),20+(k+1)<=z/\z<=1048576/\E=((z:Int),X)/\X.length=D.length/\ClsL keyE X D/\(∀i,SrtL entLt ((X.drop (i*z)).take z))) ?_;intro F o p q;have u:I6.wrap ((z:Int)*2)=((2*z:Nat):Int):=by rw[za (by omega) (by omega)];omega
   refine ⟨_,rfl,2*z,F,by omega,by omega,by rw[u],o,p.trans a,q⟩
  ·right;refine ⟨.go X,by grind,X,rfl,?_,a⟩;have:=b 0
   rwa [Gf,Dx,Bp (by omega)]at this
 ·rintro _ ⟨z,X,m,n,rfl,j,a,b⟩;refine ⟨.go X,by grind,X,rfl,?_,a⟩;have:=b 0
  rwa [Gf,Dx,Bp (by omega)]at this
 ·simp_all
theorem zw3 [DecidableEq κ] [DecidableEq α] {lt:α->α->Bool} (o:Ord3 lt K): ∀(a b:List α),SrtL lt a->SrtL lt b->ClsL K a b->a=b:=by
 intro a;induction a with
 | nil=>intro b _ _ h;exact (Cq h.length.symm).symm
 | cons x a ih=>
   intro b f d h
   match b,d,h with
   | [],_,h=>exact absurd h.length (by simp)
   | y::b,d,h=>
     have i:K x=K y:=by
      have j:lt x y=false:=by
       rcases Db.1 (h.perm.mem_iff.1 (Fj)) with e | e
       ·rw[e];exact o.irr y y rfl
       ·exact (Bl.1 d).1 x e
      have k:lt y x=false:=by
       rcases Db.1 (h.perm.mem_iff.2 (Fj)) with e | e
       ·simp_all
       ·exact (Bl.1 f).1 y e
      rcases o.tri x y with t | t | t
      ·simp_all
      ·exact t
      ·simp_all
     have g:x=y:=by have:=h (K x);simp_all
     subst g;rw[ih b (Bl.1 f).2 (Bl.1 d).2];intro c;have:=h c;grind
def FstL [DecidableEq κ] (K:α->κ) (r l:List α):Prop:=∀c,r.filter (λx=>decide (K x=c))=(l.filter (λx=>decide (K x=c))).take 1
theorem FstL.mem [DecidableEq κ] {r l:List α} (h:FstL K r l) {x:α} (a:x∈r):x∈l:=by have:x∈r.filter (λy=>decide (K y=K x)):=Dj.2 ⟨a,by simp⟩;rw[h (K x)]at this;grind
def zsu (h:ordE l):SrtL entLt l:=List.Pairwise.imp (λh=>entOrd3.asym h) h
def FstL.uniq {r h l':List Ac} (a:ordE r) (b:ordE h) (d:FstL keyE r l) (e:FstL keyE h l') (f:ClsL keyE l l'):r=h:=
 zw3 entOrd3 r h (zsu a) (zsu b) λc=>by rw[d c,e c,f c]
def zji {a:Ac} (h: ∀x∈l,entLt a x=true\/entLt x a=true):l.filter (λx=>decide (keyE x=keyE a))= []:=by
 rw[Dp];intro x c b;have b:keyE x=keyE a:=by simp_all
 rcases h x c with e | e
 ·rw[entOrd3.irr a x b.symm]at e;cases e
 ·rw[entOrd3.irr x a b]at e;cases e
theorem ztz (h:ordE l) (c:List UInt8 × Int):(l.filter (λx=>decide (keyE x=c))).take 1=l.filter (λx=>decide (keyE x=c)):=by
 have a:=h.filter (λx=>decide (keyE x=c))
 match d:l.filter (λx=>decide (keyE x=c)),a with
 | [],_=>rfl
 | [x],_=>rfl
 | x::y::t,a=>
   have b:=(Bl.1 a).1 y (by simp);have e:x∈l.filter (λx=>decide (keyE x=c)):=by simp_all
   have f:y∈l.filter (λx=>decide (keyE x=c)):=by simp_all
   have A:keyE x=c:=by grind
   have B:keyE y=c:=by grind
   rw[entOrd3.irr x y (A.trans B.symm)]at b;cases b
def skp (a:Ac):List Ac->List Ac
 | []=>[]
 | x::r=>if entLt a x=true then x::r else r
def mg:List Ac->List Ac->List Ac
 | [],e=>e
 | a::t,e=>e.takeWhile (λx=>entLt x a)++a::mg t (skp a (e.dropWhile (λx=>entLt x a)))
def zkK (a:Ac): ∀(e:List Ac),ordE e->∀x∈e.dropWhile (λx=>entLt x a),entLt x a=false
 | [],_,x,b=>by trivial
 | y::e,h,x,b=>by
   rw[List.dropWhile_cons]at b;cases c:entLt y a with
   | true=>rw[c,if_pos rfl]at b;exact zkK a e (Bl.1 h).2 x b
   | false=>
     rw[c]at b;rcases Db.1 (show x∈y::e from b) with rfl | b
     ·trivial
     ·exact entOrd3.le_trans c (entOrd3.asym ((Bl.1 h).1 x b))
theorem zxm (a:Ac) (l:List Ac) (h:ordE l) (f: ∀x∈l,entLt x a=false):ordE (skp a l)/\(∀x∈skp a l,entLt a x=true)/\∀c,c≠keyE a->(skp a l).filter (λx=>decide (keyE x=c))=l.filter (λx=>decide (keyE x=c)):=by
 match l,h,f with
 | [],_,_=>exact ⟨List.Pairwise.nil,λx b=>by trivial,λc _=>rfl⟩
 | y::t,h,f=>
   have d:=Bl.1 h;have e:skp a (y::t)=if entLt a y=true then y::t else t:=rfl
   rw[e];cases g:entLt a y with
   | true=>
     rw[if_pos rfl];refine ⟨h,λx b=>?_,λc _=>rfl⟩;rcases Db.1 b with rfl | b
     ·trivial
     ·exact entOrd3.trans a y x g (d.1 x b)
   | false=>
     rw[if_neg (by simp)];have i:keyE a=keyE y:=by
      rcases entOrd3.tri a y with t | t | t
      ·simp_all
      ·exact t
      ·simp_all
     refine ⟨d.2,λx b=>?_,λc j=>?_⟩
     ·exact entOrd3.le_lt (entOrd3.irr y a i.symm) (d.1 x b)
     ·grind
theorem zwi: ∀(l e:List Ac),ordE l->ordE e->ordE (mg l e)/\FstL keyE (mg l e) (l++e):=by
 intro l;induction l with
 | nil=>intro e _ f;exact ⟨f,λc=>(ztz f c).symm⟩
 | cons a t ih=>
   intro e hl f;unfold mg;have j:=Bl.1 hl;have D:e=e.takeWhile (λx=>entLt x a)++e.dropWhile (λx=>entLt x a):=(El).symm;have q:=zkK a e f;have h: ∀x∈e.takeWhile (λx=>entLt x a),entLt x a=true:=λx b=>by have:=Ek.1 (List.all_takeWhile (p:=λx=>entLt x a) (l:=e)) x b;trivial
   generalize e.takeWhile (λx=>entLt x a)=E1 at*;generalize e.dropWhile (λx=>entLt x a)=E2 at*;subst D;have g:=Cx.1 f;obtain ⟨s,z,u⟩:=zxm a E2 g.2.1 q;generalize skp a E2=E3 at*;obtain ⟨v,k⟩:=ih E3 j.2 s;have i: ∀x∈mg t E3,entLt a x=true:=λx b=>by
    rcases Dh.1 (k.mem b) with b | b
    ·simp_all
    ·simp_all
   refine ⟨Cx.2 ⟨g.1,Bl.2 ⟨i,v⟩,?_⟩,?_⟩
   ·intro x b y d;rcases Db.1 d with rfl | d
    ·simp_all
    ·exact entOrd3.trans x a y (h x b) (i y d)
   ·intro c;by_cases m:keyE a=c
    ·subst m;rw[Bz,Ed (by simp),zji (l:=E1) (a:=a) (λx b=>.inr (h x b)),zji (l:=mg t E3) (a:=a) (λx b=>.inl (i x b)),Da,Ed (by simp)];rfl
    ·have n:=k c;rw[Bz]at n;rw[Bz,Dd (by simp_all),n,Da,Dd (by simp_all),Bz,Bz,u c (λe=>m e.symm)]
     match A:E1.filter (λx=>decide (keyE x=c)) with
     | []=>rw[Bt,Bt]
     | x::r=>
       have b:x∈E1.filter (λx=>decide (keyE x=c)):=by simp_all
       have o:=(Dj.1 b).1;have w:keyE x=c:=by grind
       subst w;have B:t.filter (λy=>decide (keyE y=keyE x))= []:=zji λy d=>.inl (entOrd3.trans x a y (h x o) (j.1 y d));have t2:E2.filter (λy=>decide (keyE y=keyE x))= []:=zji λy d=>.inl (g.2.2 x o y d);have C:=ztz g.1 (keyE x);grind
def ddA:Option Ac->List Ac->List Ac
 | _,[]=>[]
 | p,x::t=>if p.any (λy=>decide (keyE y=keyE x))=true then ddA (some x) t else x::ddA (some x) t
theorem zv2: ∀(l:List Ac) (y:Ac),SrtL entLt (y::l)->ordE (y::ddA (some y) l)/\∀c,(ddA (some y) l).filter (λx=>decide (keyE x=c))=if keyE y=c then [] else (l.filter (λx=>decide (keyE x=c))).take 1:=by
 intro l;induction l with
 | nil=>intro y _;exact ⟨by simp[ddA,ordE],λc=>by simp[ddA]⟩
 | cons x t ih=>
   intro y h;have b:=Bl.1 h;have k:=Bl.1 b.2;obtain ⟨d,f⟩:=ih x b.2;have j1:=Bl.1 d;by_cases g:keyE y=keyE x
   ·have e:ddA (some y) (x::t)=ddA (some x) t:=by show (if _ then _ else _)=_;simp_all
    rw[e];refine ⟨Bl.2 ⟨λz a=>entOrd3.le_lt (entOrd3.irr x y g.symm) (j1.1 z a),j1.2⟩,λc=>?_⟩;rw[f c,<-g];grind
   ·have e:ddA (some y) (x::t)=x::ddA (some x) t:=by show (if _ then _ else _)=_;simp_all
    rw[e];have i:entLt y x=true:=by
     rcases entOrd3.tri y x with q | q | q
     ·exact q
     ·trivial
     ·simp_all
    refine ⟨Bl.2 ⟨λz a=>?_,d⟩,λc=>?_⟩
    ·rcases Db.1 a with rfl | a
     ·trivial
     ·exact entOrd3.trans y x z i (j1.1 z a)
    ·by_cases j:keyE x=c
     ·subst j;simp_all
     ·rw[Dd (by simp_all),Dd (by simp_all),f,if_neg j];by_cases m:keyE y=c
      ·subst m;rw[if_pos rfl,zji (λz a=>.inl (entOrd3.lt_le i (k.1 z a)))];rfl
      ·simp_all
def zv1 (l:List Ac) (h:SrtL entLt l):ordE (ddA none l)/\FstL keyE (ddA none l) l:=by
 match l,h with
 | [],_=>exact ⟨List.Pairwise.nil,λc=>rfl⟩
 | x::t,h=>
   obtain ⟨b,d⟩:=zv2 t x h;have e:ddA none (x::t)=x::ddA (some x) t:=rfl;rw[e];refine ⟨b,λc=>?_⟩;by_cases a:keyE x=c
   ·subst a;simp_all
   ·rw[Dd (by simp_all),Dd (by simp_all),d,if_neg a]
def zhJ: ∀(L:List (List Ac)) (A F:List Ac),(∀e∈L,ordE e)->ordE A->FstL keyE A F->ordE (L.foldl mg A)/\FstL keyE (L.foldl mg A) (F++L.flatten):=by
 intro L;induction L with
 | nil=>intro A F _ a b;simpa using ⟨a,b⟩
 | cons e L ih=>
   intro A F h a b;obtain ⟨m1,m2⟩:=zwi A e a (h e (by simp));have:=ih (mg A e) (F++e) (λB d=>h B (Ea _ d)) m1 (λc=>by
    rw[m2 c,Bz,Bz,b c]
    match F.filter (λx=>decide (keyE x=c)) with
    | []=>rfl
    | x::r=>rfl)
   simp_all
def zo9 (l:List α) (b:Nat) (hi:Int) (a:hi=(b:Int)) (c:b<=l.length):piece l (0:Int) hi=some (l.take b):=by rw[zQ l 0 b 0 hi rfl a (by omega) c];simp
def zcv (l:List (List Ac)):l.flatten.length=totalV l:=by unfold totalV;simp
theorem zs8 (n:Nat) (h:n<=1048576):zcI (n:Int)=some []:=by
 unfold zcI;rw[if_neg (by simp)];have a:I6.wrap (((0:Nat):Int) - ((([]:List Ac).length:Nat):Int))=0:=by rfl
 have b:I6.wrap ((n:Int) - 0)=(n:Int):=by rw[za (by omega) (by omega)];omega
 simp only[a,b];rcases Fh n with c | c
 ·simp_all
 ·have z:zapp 48 (n:Int)=some n:=by unfold zapp;grind
  rw[if_pos (decide_eq_true (by omega)),z];rfl
theorem zuZ (l:List (List Ac)) (h:l.length<=1048576) (i:totalV l<=1048576):zdj l=some l.flatten:=by
 unfold zdj;have b: ∀k,k<=l.length->totalV (l.take k)<=totalV l:=by intro k _;have:=zcv l;have e:=zcv (l.take k);rw[<-Bo k l,Ff,Bh]at this;simp_all;omega
 have c: ∀k (a:k<l.length),(l.take (k+1)).flatten=(l.take k).flatten++l[k]:=by intro k a;rw[zZ l k a,Ff];simp
 have d: ∀k (a:k<l.length),totalV (l.take (k+1))=totalV (l.take k)+l[k].length:=by intro k a;rw[<-zcv,c k a,Bh,zcv]
 refine zbo (τ:=Int × Int) (ρ:=Int) (R:=List Ac) (λx=>x=some l.flatten) (λk s=>s=((totalV (l.take k):Int),(k:Int))) l.length (λr=>r= .go (totalV l:Int)) ?_ ?_ ?_ ?_
 ·rfl
 ·rintro k _ a rfl;left;have f:idx l (k:Int)=some l[k]:=zb l k a;have j:=d k a;have m:=b (k+1) (by omega);have n:I6.wrap ((totalV (l.take k):Int)+((l[k].length:Nat):Int))=(totalV (l.take (k+1)):Int):=by rw[za (by omega) (by omega)];omega
  have g:I6.wrap ((k:Int)+1)=((k+1:Nat):Int):=by rw[za (by omega) (by omega)];omega
  grind
 ·simp
 ·rintro _ rfl;rw[zd,zs8 _ i];simp only[An];refine zbo (τ:=Int × List Ac) (ρ:=List Ac) (R:=List Ac) (λx=>x=some l.flatten) (λk s=>s=((k:Int),(l.take k).flatten)) l.length (λr=>r= .go l.flatten) ?_ ?_ ?_ ?_
  ·rfl
  ·rintro k _ a rfl;left;have f:idx l (k:Int)=some l[k]:=zb l k a;have j:=d k a;have m:=b (k+1) (by omega);have o:=zcv (l.take k);have g:I6.wrap ((k:Int)+1)=((k+1:Nat):Int):=by rw[za (by omega) (by omega)];omega
   refine ⟨_,?_,rfl⟩;simp only[f,An,g];rw[if_pos (decide_eq_true (by omega)),zg (by omega) (by omega),c k a];rfl
  ·simp
  ·simp
def znz (a b:Ac):zeD a b=some (Dc (keyE a=keyE b)):=by
 unfold zeD;by_cases c:a.j=b.j
 ·simp_all
 ·simp_all
def zu2 (y x:Ac) (t:List Ac):ddA (some y) (x::t)=if keyE y=keyE x then ddA (some x) t else x::ddA (some x) t:=by show (if _ then _ else _)=_;simp
theorem zs3 (s:List Ac) (h:s.length<=1048576):zU s=some (ddA none s):=by
 unfold zU;by_cases c:s.length<2
 ·rw[if_pos (decide_eq_true (by omega))]
  match s,c with
  | [],_=>rfl
  | [x],_=>rfl
  | _::_::_,c=>simp at c;omega
 ·rw[if_neg (by grind)];refine zbo (τ:=Int) (ρ:=Unit) (R:=List Ac) (λx=>x=some (ddA none s)) (λt i=>i=((t+1:Nat):Int)/\∃h:t<s.length,ddA none s=s.take (t+1)++ddA (some s[t]) (s.drop (t+1))) (s.length - 1)
   (λr=>(r= .go ()/\ddA none s=s)\/r= .done (ddA none s)) ⟨rfl,by omega,?_⟩ ?_ ?_ ?_
  ·match s,c with
   | [],c=>simp at c
   | x::t,_=>rfl
  ·rintro t _ M ⟨rfl,v,a⟩;have d:t+1<s.length:=by omega
   have C:idx s ((t+1:Nat):Int)=some s[t+1]:=zb s (t+1) d;have D:I6.wrap (((t+1:Nat):Int) - 1)=((t:Nat):Int):=by rw[za (by omega) (by omega)];omega
   have E:I6.wrap (((t+1:Nat):Int)+1)=((t+1+1:Nat):Int):=by rw[za (by omega) (by omega)];omega
   have F:idx s ((t:Nat):Int)=some s[t]:=zb s t v;rw[Bf d,zu2]at a;have G:Dc (((t+1:Nat):Int)<(s.length:Int))=true:=decide_eq_true (by omega);simp only[G,if_true,C,D,F,An,znz];by_cases n:keyE s[t+1]=keyE s[t]
   ·rw[if_pos (decide_eq_true n)];rw[if_pos n.symm]at a;rw[zQ s (t+1) s.length _ _ rfl rfl (by omega) (by omega)];simp only[An];right;refine zbo (τ:=Int × Int × List Ac) (ρ:=Int × List Ac) (R:=Ctl Int (Ctl Unit (List Ac))) (λx=>∃r,x=some (.done r)/\((r= .go ()/\ddA none s=s)\/r= .done (ddA none s)))
     (λu q=>∃(k:Nat) (O:List Ac),q=((k:Int),((u+1:Nat):Int),O)/\O.length=s.length/\k<=t+1+u/\O.drop (t+1+u)=s.drop (t+1+u)/\∃h:t+1+u<s.length,ddA none s=O.take k++ddA (some s[t+1+u]) (s.drop (t+1+u+1))) (s.length - (t+2))
     (λr=>∃(k:Nat) (O:List Ac),r= .go ((k:Int),O)/\O.length=s.length/\k<=s.length/\ddA none s=O.take k)
     ⟨t+1,s,rfl,rfl,by omega,rfl,d,a⟩ ?_ ?_ ?_
    ·rintro u _ w ⟨k,O,rfl,g,y,f,z,b⟩;left;have m:t+1+u+1<s.length:=by omega
     have o:piece O ((t+1:Nat):Int) (s.length:Int)=some (O.drop (t+1)):=by rw[zQ O (t+1) s.length _ _ rfl rfl (by omega) (by omega),Bp (by simp_all)]
     have p:Dc (((u+1:Nat):Int)<(((O.drop (t+1)).length:Nat):Int))=true:=decide_eq_true (by grind);have A: ∀j (H:t+1+u+j<s.length),idx (O.drop (t+1)) ((u+j:Nat):Int)=some s[t+1+u+j]:=by intro j H;rw[zb _ (u+j) (by grind),List.getElem_drop];have:=congrArg (λl=>l[j]?) f;grind
     have I:I6.wrap (((u+1:Nat):Int) - 1)=((u+0:Nat):Int):=by rw[za (by omega) (by omega)];omega
     have J:I6.wrap (((u+1:Nat):Int)+1)=((u+1+1:Nat):Int):=by rw[za (by omega) (by omega)];omega
     simp only[o,An,p,if_true,A 1 m,I,A 0 z,znz,J];rw[Bf m,zu2]at b;have N:s[t+1+u+0]=s[t+1+u]:=rfl;by_cases B:keyE s[t+1+u+1]=keyE s[t+1+u]
     ·rw[if_pos B.symm]at b;rw[if_neg (by simp_all)];refine ⟨_,rfl,k,O,rfl,g,by omega,?_,m,b⟩;have:=congrArg (List.drop 1) f;rw[Dl,Dl]at this;trivial
     ·rw[if_neg (λe=>B e.symm)]at b;rw[if_pos (by grind)];have K:idx O (k:Int)=some O[k]:=zb O k (by omega);have L:I6.wrap ((k:Int)+1)=((k+1:Nat):Int):=by rw[za (by omega) (by omega)];omega
      simp only[K,An,L,Dk];refine ⟨_,rfl,k+1,O.set k s[t+1+u+1],rfl,by simp_all,by omega,?_,m,?_⟩
      ·rw[List.drop_set_of_lt (by omega)];have:=congrArg (List.drop 1) f;rw[Dl,Dl]at this;trivial
      ·rw[b,List.take_succ_eq_append_getElem (by grind),List.take_set_of_le (by omega)];grind
    ·rintro _ ⟨k,O,rfl,g,y,f,z,b⟩;have w:t+1+(s.length - (t+2))+1=s.length:=by omega
     rw[w,Dm]at b;have o:piece O ((t+1:Nat):Int) (s.length:Int)=some (O.drop (t+1)):=by rw[zQ O (t+1) s.length _ _ rfl rfl (by omega) (by omega),Bp (by simp_all)]
     have p:Dc (((s.length - (t+2)+1:Nat):Int)<(((O.drop (t+1)).length:Nat):Int))=false:=decide_eq_false (by grind);simp only[o,An,p];refine ⟨_,rfl,k,O,rfl,g,by omega,?_⟩;rw[b];exact Cj _
    ·rintro _ ⟨k,O,rfl,g,y,f⟩;rw[zd];simp only;rw[zQ O k O.length _ _ rfl rfl (by omega) (by omega),zo9 O k _ rfl (by omega)];simp_all
   ·left;rw[if_neg (by simp_all),E];rw[if_neg (λe=>n e.symm)]at a;refine ⟨_,rfl,rfl,d,?_⟩;rw[zZ s (t+1) d,Bm];trivial
  ·rintro _ ⟨rfl,v,a⟩;refine ⟨.go (),?_,.inl ⟨rfl,?_⟩⟩
   ·grind
   ·have e:s.length - 1+1=s.length:=by omega
    rw[e,Eb,Dm]at a;rw[a];exact Cj _
  ·rintro _ (⟨rfl,a⟩ | rfl)
   ·simp_all
   ·rfl
def zqU (l:List (List Ac)) (h:l.length<=1048576) (j:totalV l<=262144) (b: ∀e∈l,ordE e):zb4 l=some (l.foldl mg []):=by unfold zb4;rw[zuZ l h (by omega)];simp only[An];obtain ⟨R,d,f,a⟩:=zvJ l.flatten (by rw[zcv];trivial);have A:R.length=l.flatten.length:=a.length;rw[zcv]at A;rw[d];simp only[An];rw[zs3 R (by omega)];simp only[An];obtain ⟨g,i⟩:=zv1 R f;obtain ⟨m1,m2⟩:=zhJ l [] [] b List.Pairwise.nil (λc=>rfl);have:ddA none R=l.foldl mg []:=FstL.uniq g m1 i m2 a;rw[this];unfold zfV;rw[zo9 _ _ _ rfl (Dg _),Eb];rfl
theorem zw2 (a:Ac) (l:List Ac):(skp a l).length<=l.length:=by
 match l with
 | []=>exact Dg _
 | x::r=>show (if entLt a x=true then x::r else r).length<=_;grind
theorem zvv: ∀(l e:List Ac),(mg l e).length<=l.length+e.length:=by
 intro l;induction l with
 | nil=>intro e;simp[mg]
 | cons a t ih=>
   intro e;have b:=ih (skp a (e.dropWhile (λx=>entLt x a)));have c:=zw2 a (e.dropWhile (λx=>entLt x a));have d:(e.takeWhile (λx=>entLt x a)).length+(e.dropWhile (λx=>entLt x a)).length=e.length:=by rw[<-Bh,El]
   show (_++_::_).length<=_;grind
theorem zjl: ∀(L:List (List Ac)) (h:List Ac),(L.foldl mg h).length<=h.length+totalV L:=by
 intro L;induction L with
 | nil=>intro h;simp
 | cons e L ih=>
   intro h;have a:=ih (mg h e);have b:=zvv h e;have c:totalV (e::L)=e.length+totalV L:=by rfl
   grind
def zri {l:List (List Ac)} {e:List Ac} (h:e∈l):e.length<=totalV l:=zfP Dn h
def zxi (e:List Ac):mg [] e=e:=rfl
def zwT (a:Ac) (t e:List Ac):mg (a::t) e=e.takeWhile (λx=>entLt x a)++a::mg t (skp a (e.dropWhile (λx=>entLt x a))):=rfl
def mergeOk (l:List (List Ac)):Bool:=Dc (totalV l<=400)&&l.all entsV
def mergeR (l:List (List Ac)):List Ac:=bif mergeOk l then l.foldl mg [] else []
def zk5 (p:α->Bool) (x:α) (t:List α) (h:p x=false):(x::t).takeWhile p= []/\(x::t).dropWhile p=x::t:=by simp_all
def zk6 (p:α->Bool) (x:α) (t:List α) (h:p x=true):(x::t).takeWhile p=x::t.takeWhile p/\(x::t).dropWhile p=t.dropWhile p:=by simp_all
theorem ziG (l:List (List Ac)) (h:l.length<=1048576) (A:totalV l<=1048576):zea l=some (mergeR l):=by
 unfold zea;have B: ∀e∈l,entsV e=false->mergeR l= []:=by
  intro e n p;have:l.all entsV=false:=by grind
  unfold mergeR mergeOk;grind
 have M:400<totalV l->mergeR l= []:=by intro N;unfold mergeR mergeOk;grind
 refine zbo (τ:=Int × List Ac) (ρ:=List Ac) (R:=List Ac) (λx=>x=some (mergeR l)) (λk s=>s=((k:Int),(l.take k).foldl mg [])/\∀e∈l.take k,entsV e=true) l.length
  (λr=>(r= .go (l.foldl mg [])/\∀e∈l,entsV e=true)\/(r= .done []/\mergeR l= [])) ⟨rfl,by simp⟩ ?_ ?_ ?_
 ·rintro k _ d ⟨rfl,p⟩;have w:l[k]∈l:=Cy d;have n:=zri w;have C:=zjl (l.take k) [];have O:=zja l k d;have P:=zlB l (k+1);rw[Ew,Gg]at C;have Q:(l.take (k+1)).foldl mg []=mg ((l.take k).foldl mg []) l[k]:=by rw[zZ l k d,Fl];rfl
  generalize S:(l.take k).foldl mg []=acc at*;have D:Dc ((k:Int)<(l.length:Int))=true:=decide_eq_true (by omega);simp only[D,if_true,zb l k d,An,zfN l[k] (by omega)];cases E:entsV l[k] with
  | false=>exact .inr ⟨_,rfl,.inr ⟨rfl,B _ w E⟩⟩
  | true=>
    by_cases T:l[k].length>400
    ·grind
    ·rw[decide_eq_false (by omega)];by_cases U:acc.length>400
     ·grind
     ·rw[decide_eq_false (by omega)];have F:app 48 ([]:List Ac) l[k]=some l[k]:=zg (by grind) (by grind);simp only[By,Ba,if_false,An,F];left;have V:ordE acc:=by have:=zhJ (l.take k) [] [] (λe n=>((zbf e).1 (p e n)).2) List.Pairwise.nil (λc=>rfl);simp_all
      have W: ∀e∈l.take (k+1),entsV e=true:=by intro e n;rw[zZ l k d]at n;grind
      have X: ∀(out:List Ac) (j:Nat),j<=l[k].length->out++l[k].drop j=mg acc l[k]->∃s',((piece l[k] (j:Int) ((l[k].length:Nat):Int)).bind λE73=>(app 48 out E73).bind λE76=>some (Ctl.go (ρ:=Ctl (List Ac) (List Ac)) (I6.wrap ((k:Int)+(1:Int)),E76)))=some (.go s')/\s'=(((k+1:Nat):Int),(l.take (k+1)).foldl mg [])/\∀e∈l.take (k+1),entsV e=true:=by intro out j o f;have Y:=zvv acc l[k];have G:=congrArg Dn f;rw[Bh,Df]at G;rw[zQ l[k] j l[k].length _ _ rfl rfl o (Dg _),Bp (by simp)];simp only[An];rw[zg (by grind) (by grind),f,za (by omega) (by omega)];simp_all
      generalize l[k]=e at*;refine zbo (τ:=Int × Int × List Ac) (ρ:=Int × List Ac) (R:=Ctl (Int × List Ac) (Ctl (List Ac) (List Ac))) (λx=>∃s',x=some (.go s')/\s'=(((k+1:Nat):Int),(l.take (k+1)).foldl mg [])/\∀e∈l.take (k+1),entsV e=true)
       (λi s=>∃(j:Nat) (out:List Ac),s=((j:Int),(i:Int),out)/\j<=e.length/\out++mg (acc.drop i) (e.drop j)=mg acc e/\out.length<=i+j) acc.length
       (λr=>∃(j:Nat) (out:List Ac),r= .go ((j:Int),out)/\j<=e.length/\out++e.drop j=mg acc e) ⟨0,[],rfl,by omega,by simp,by simp⟩ ?_ ?_ ?_
      ·rintro i _ hi ⟨j,out,rfl,o,f,y⟩;left;have H:Dc ((i:Int)<(acc.length:Int))=true:=decide_eq_true (by omega);simp only[H,if_true,zb acc i hi,An];rw[Bf hi,zwT]at f;refine zbo (τ:=Int × List Ac) (ρ:=Int × List Ac) (R:=Ctl (Int × Int × List Ac) (Ctl (Int × List Ac) (Ctl (Int × List Ac) (Ctl (List Ac) (List Ac)))))
        (λx=>∃s',x=some (.go s')/\∃(j:Nat) (out:List Ac),s'=((j:Int),((i+1:Nat):Int),out)/\j<=e.length/\out++mg (acc.drop (i+1)) (e.drop j)=mg acc e/\out.length<=i+1+j)
        (λt s=>∃(j':Nat) (out':List Ac),s=((j':Int),out')/\j'=j+t/\j'<=e.length/\out'++((e.drop j').takeWhile (λx=>entLt x acc[i])++acc[i]::mg (acc.drop (i+1)) (skp acc[i] ((e.drop j').dropWhile (λx=>entLt x acc[i]))))=mg acc e/\out'.length<=i+j') (e.length - j)
        (λr=>∃(j':Nat) (out':List Ac),r= .go ((j':Int),out')/\j'<=e.length/\out'++(acc[i]::mg (acc.drop (i+1)) (skp acc[i] (e.drop j')))=mg acc e/\out'.length<=i+j') ⟨j,out,rfl,rfl,o,f,y⟩ ?_ ?_ ?_
       ·rintro t _ A ⟨j',out',rfl,I,z,a,q⟩;have b:j'<e.length:=by omega
        have g:Dc ((j':Int)<(e.length:Int))=true:=decide_eq_true (by omega);simp only[g,if_true,zb e j' b,An,zdG];rw[Bf b]at a;cases m:entLt e[j'] acc[i] with
        | true=>left;rw[(zk6 (λx=>entLt x acc[i]) _ _ m).1,(zk6 (λx=>entLt x acc[i]) _ _ m).2]at a;rw[if_pos rfl,zg (by grind) (by grind),za (by omega) (by omega)];grind
        | false=>right;rw[(zk5 (λx=>entLt x acc[i]) _ _ m).1,(zk5 (λx=>entLt x acc[i]) _ _ m).2,<-Bf b]at a;grind
       ·rintro _ ⟨j',out',rfl,I,z,a,q⟩;have b:j'=e.length:=by omega
        have g:Dc ((j':Int)<(e.length:Int))=false:=decide_eq_false (by omega);simp only[g];refine ⟨_,rfl,j',out',rfl,by omega,?_,q⟩;simp_all
       ·rintro _ ⟨j',out',rfl,z,a,q⟩;rw[zd];have J:app 48 out' [acc[i]]=some (out'++ [acc[i]]):=zg (by grind) (by grind);have u:I6.wrap ((i:Int)+1)=((i+1:Nat):Int):=by rw[za (by omega) (by omega)];omega
        have v:I6.wrap ((j':Int)+1)=((j'+1:Nat):Int):=by rw[za (by omega) (by omega)];omega
        simp only[J,u,v,An,zdG];have K: ∀r,(out'++ [acc[i]])++mg (acc.drop (i+1)) r=out'++(acc[i]::mg (acc.drop (i+1)) r):=λr=>by simp
        rcases Cu j' e.length with b | b
        ·have g:Dc ((j':Int)<(e.length:Int))=true:=decide_eq_true (by omega);simp only[g,if_true,zb e j' b,An];rw[Bf b]at a;have es:skp acc[i] (e[j']::e.drop (j'+1))=if entLt acc[i] e[j']=true then e[j']::e.drop (j'+1) else e.drop (j'+1):=rfl
         rw[es]at a;cases m:entLt acc[i] e[j'] with
         | true=>rw[m,if_pos rfl,<-Bf b]at a;exact ⟨_,rfl,j',out'++ [acc[i]],rfl,by omega,by simp_all,by grind⟩
         | false=>rw[m,if_neg (by simp)]at a;exact ⟨_,rfl,j'+1,out'++ [acc[i]],rfl,by omega,by simp_all,by grind⟩
        ·have g:Dc ((j':Int)<(e.length:Int))=false:=decide_eq_false (by omega);simp only[g];refine ⟨_,rfl,j',out'++ [acc[i]],rfl,by omega,?_,by grind⟩;rw[K];rw[Bw b]at a |-
         trivial
      ·rintro _ ⟨j,out,rfl,o,f,y⟩;refine ⟨.go ((j:Int),out),?_,j,out,rfl,o,?_⟩
       ·simp
       ·rw[Dm,zxi]at f;exact f
      ·simp_all
 ·simp
 ·rintro _ (⟨rfl,p⟩ | ⟨rfl,Z⟩)
  ·rw[zd];refine zbo (τ:=Int × Int) (ρ:=Int) (R:=List Ac) (λx=>x=some (mergeR l)) (λk s=>s=((totalV (l.take k):Int),(k:Int))) l.length (λr=>r= .go (totalV l:Int)) rfl ?_ ?_ ?_
   ·rintro k _ d rfl;left;have L:=zja l k d;have h2:=zlB l (k+1);have u:I6.wrap ((totalV (l.take k):Int)+((l[k].length:Nat):Int))=(totalV (l.take (k+1)):Int):=by rw[za (by omega) (by omega)];omega
    have v:I6.wrap ((k:Int)+1)=((k+1:Nat):Int):=by rw[za (by omega) (by omega)];omega
    refine ⟨_,?_,rfl⟩;simp only[zb l k d,An,u,v];simp_all
   ·simp
   ·rintro _ rfl;rw[zd];by_cases L:totalV l<=400
    ·rw[if_neg (by grind)];unfold mergeR mergeOk;grind
    ·grind
  ·simp_all
def mergeC (e:Aa):List Ac:=finE true (keepT e.B (e.t.foldl mg []) 0 (e.t.foldl mg []).length)
def tab1 (c:List Ac):List (List Ac):=bif Dc (0<c.length) then [c] else []
def mergeS (e:Aa):Bool × Aa:=bif Dc (e.t.length=0) then (false,e) else (true,⟨e.x,tab1 (mergeC e),e.c,e.B⟩)
def mergeER (e:Aa):Aa × Bool:=bif engV e then ((mergeS e).2,(mergeS e).1) else (⟨[],[],0,[]⟩,false)
theorem zdJ {seq:Int} : ∀(t:List (List Ac)) (A:Int),tabsV seq A t=true->∀x∈t,entsV x=true/\∀y∈x,y.c<A/\y.c<=seq:=by
 intro t;induction t with
 | nil=>intro _ _ x b;simp at b
 | cons a t ih=>
   intro A h x b;simp only[tabsV,Ct,decide_eq_true_eq]at h;obtain ⟨⟨e,l,m,n⟩,f⟩:=h;have g:=(zig a (rangeV a).2).1 (Em _);rcases Db.1 b with rfl | b
   ·grind
   ·obtain ⟨i,j⟩:=ih _ f x b;refine ⟨i,λy k=>?_⟩;have:=j y k;obtain ⟨z,d⟩:=Ep a e;have o:=g.2 z d;have p:=((zek a (rangeV a).1).1 (Em _)).2 z d;omega
def ziZ (h:engV e=true):entsV (e.t.foldl mg [])=true/\(e.t.foldl mg []).length<=totalV e.t/\∀x∈e.t.foldl mg [],∃t∈e.t,x∈t:=by
 obtain ⟨k,l,m,n,o,p,f,q⟩:=z9 h;have b:=zdJ e.t _ f;obtain ⟨m1,m2⟩:=zhJ e.t [] [] (λt g=>((zbf t).1 (b t g).1).2) List.Pairwise.nil (λc=>rfl);have hl:=zjl e.t [];have d: ∀x∈e.t.foldl mg [],∃t∈e.t,x∈t:=λx a=>by have:=m2.mem a;simp_all
 refine ⟨(zbf _).2 ⟨λx a=>?_,m1⟩,by simp_all,d⟩;obtain ⟨t,i,j⟩:=d x a;exact ((zbf t).1 (b t i).1).1 x j
theorem zut (h:engV e=true):(mergeC e).Sublist (e.t.foldl mg []):=by
 obtain ⟨d,f,g,i,j,k,m,n⟩:=z9 h;obtain ⟨a,o,_⟩:=ziZ h;have b:=zt8 e.B true (l:=e.t.foldl mg []) (by omega) a;have c:compactR (e.t.foldl mg []) e.B true=mergeC e:=by unfold compactR mergeC;grind
 rw[<-c,b];exact (zwa _ _).trans (zmt _ _ _)
def zmD (h:engV e=true):entsV (mergeC e)=true/\(mergeC e).length<=totalV e.t/\∀x∈mergeC e,x.c<(rangeV e.x).1/\x.c<=e.c:=by obtain ⟨l,m,n,o,p,q,b,s⟩:=z9 h;obtain ⟨d,f,g⟩:=ziZ h;have a:=zut h;refine ⟨zrq a d,Ec a.length_le f,λx i=>?_⟩;obtain ⟨t,j,k⟩:=g x (a.mem i);exact (zdJ e.t _ b t j).2 x k
def zsR (c:List Ac):(tab1 c).length<=1/\totalV (tab1 c)<=c.length/\∀t∈tab1 c,t=c:=by
 unfold tab1;by_cases a:0<c.length
 ·rw[decide_eq_true a];exact ⟨Dg _,by simp[totalV],λt b=>by simp_all⟩
 ·rw[decide_eq_false a];exact ⟨by simp,by simp[totalV],λt b=>by trivial⟩
theorem zvs (h:engV e=true):engV (mergeS e).2=true:=by
 unfold mergeS;by_cases c:e.t.length=0
 ·simp_all
 ·rw[decide_eq_false c];obtain ⟨i,j,o,p,k,l,q,m⟩:=z9 h;obtain ⟨n,s,a⟩:=zmD h;obtain ⟨u,t2,v⟩:=zsR (mergeC e);show engV ⟨e.x,tab1 (mergeC e),e.c,e.B⟩=true;unfold engV memV;simp only[Ct,decide_eq_true_eq];refine ⟨⟨i,j,by omega,by omega,k,l,?_⟩,m⟩;unfold tab1;by_cases b:0<(mergeC e).length
  ·rw[decide_eq_true b];show tabsV _ _ [mergeC e]=true;have w:(rangeV e.x).1<=1000001:=((zek e.x _).1 (Em _)).1;obtain ⟨z,d⟩:=Ep (mergeC e) (by grind);have y:=a z d;have f:=((zbf _).1 n).1 z d;unfold entV at f;simp only[Ct,decide_eq_true_eq]at f;have A:(rangeV (mergeC e)).2<=(rangeV e.x).1 - 1:=(zig _ _).2 ⟨by omega,λx g=>by grind⟩;have C:(rangeV (mergeC e)).2<=e.c:=(zig _ _).2 ⟨by omega,λx g=>(a x g).2⟩;simp only[tabsV,Ct,decide_eq_true_eq];grind
  ·rw[decide_eq_false b];rfl
def ziC (h:engV e=true):zfr e=some (mergeS e):=by
 obtain ⟨i,j,k,l,m,n,a,o⟩:=z9 h;obtain ⟨p,q,s⟩:=ziZ h;have b:=zdJ e.t _ a;unfold zfr mergeS;by_cases c:e.t.length=0
 ·simp_all
 ·rw[if_neg (λd=>absurd (of_decide_eq_true d) (by omega)),decide_eq_false c,zqU e.t (by omega) (by omega) (λt f=>((zbf t).1 (b t f).1).2)];simp only[An];rw[znk _ e.B true (by omega) (by omega)];simp only[An];show _=some (true,(⟨e.x,tab1 (mergeC e),e.c,e.B⟩:Aa));have g:finE true (keepT e.B (e.t.foldl mg []) 0 (e.t.foldl mg []).length)=mergeC e:=rfl;rw[g];generalize mergeC e=x;unfold tab1;by_cases u:0<x.length
  ·simp_all
  ·simp_all
def zbN (h:engV e=true):e.x.length<=1048576/\e.t.length<=1048576/\totalV e.t<=1048576/\e.B.length<=1048576/\∀t∈e.t,t.length<=1048576:=by obtain ⟨b,c,d,f,g,i,j,k⟩:=z9 h;exact ⟨by omega,by omega,by omega,by omega,λt a=>by have:=zri a;omega⟩
theorem zoj (e:Aa) (g:e.x.length<=1048576) (b:e.t.length<=1048576) (h:totalV e.t<=1048576) (d:e.B.length<=1048576):zga e=some (mergeER e):=by
 unfold zga mergeER;rw[zbY e g b h d];cases a:engV e with
 | false=>rfl
 | true=>
   obtain ⟨m,n,o,p,q,s,i,u⟩:=z9 a;obtain ⟨v,w,y⟩:=ziZ a;obtain ⟨_,_,_,_,j⟩:=zbN a;have z:=zdJ e.t _ i;simp only[An,By,Ba,if_false,zce e g b j d,cond_true];unfold mergeS;by_cases c:e.t.length=0
   ·simp_all
   ·have A:mergeR e.t=e.t.foldl mg []:=by unfold mergeR mergeOk;grind
    have f:compactR (e.t.foldl mg []) e.B true=mergeC e:=by unfold compactR mergeC;grind
    rw[if_neg (λk=>absurd (of_decide_eq_true k) (by omega)),decide_eq_false c,ziG e.t b h,A];simp only[An];rw[zl3 _ e.B true (by omega) d,f];simp only[An];have l:=(zmD a).2.1;show _=some ((⟨e.x,tab1 (mergeC e),e.c,e.B⟩:Aa),true);generalize mergeC e=x at l;unfold tab1;by_cases f:0<x.length
    ·rw[if_pos (decide_eq_true (by omega)),decide_eq_true f,zg (by simp) (by simp)];rfl
    ·simp_all
theorem zic (h:engV e=true):engV (flushS e).2=true:=by
 by_cases c:e.x.length=0\/6<=e.t.length
 ·rw[zeo c];exact h
 ·rw[zgQ c];obtain ⟨a,b,k,l,d,f,g,i⟩:=z9 h;show engV ⟨[],e.x::e.t,e.c,e.B⟩=true;have j:e.x≠[]:=by simp_all
  have m:totalV (e.x::e.t)=e.x.length+totalV e.t:=by rfl
  unfold engV memV;simp only[Ct,decide_eq_true_eq,tabsV];refine ⟨⟨a,b,by grind,by grind,⟨by simp,rfl⟩,by show (-1:Int)<=e.c;omega,⟨⟨j,d.2,by show (rangeV e.x).2<1000001;omega,f⟩,g⟩⟩,i⟩
def zoF (e:Aa):(flushS e).2.c=e.c/\(flushS e).2.B=e.B:=by
 by_cases c:e.x.length=0\/6<=e.t.length
 ·rw[zeo c];exact ⟨rfl,rfl⟩
 ·rw[zgQ c];exact ⟨rfl,rfl⟩
theorem zln (e:Aa):(mergeS e).2.x=e.x/\(mergeS e).2.c=e.c/\(mergeS e).2.B=e.B:=by unfold mergeS;grind
def allR (e:Aa):List Ac:=(e.x::e.t).foldl mg []
def zvd {L:List (List Ac)} (h: ∀t∈L,entsV t=true):entsV (L.foldl mg [])=true/\(L.foldl mg []).length<=totalV L/\∀x∈L.foldl mg [],∃t∈L,x∈t:=by
 obtain ⟨m1,m2⟩:=zhJ L [] [] (λt d=>((zbf t).1 (h t d)).2) List.Pairwise.nil (λc=>rfl);have hl:=zjl L [];have b: ∀x∈L.foldl mg [],∃t∈L,x∈t:=λx a=>by have:=m2.mem a;simp_all
 refine ⟨(zbf _).2 ⟨λx a=>?_,m1⟩,by simp_all,b⟩;obtain ⟨t,e,f⟩:=b x a;exact ((zbf t).1 (h t e)).1 x f
def zk9 (h:engV e=true):(∀t∈e.x::e.t,entsV t=true)/\totalV (e.x::e.t)<=400/\(e.x::e.t).length<=7:=by
 obtain ⟨c,d,f,g,i,j,b,k⟩:=z9 h;refine ⟨λt a=>?_,?_,by simp_all⟩
 ·rcases Db.1 a with rfl | a
  ·simp_all
  ·exact (zdJ e.t _ b t a).1
 ·have:totalV (e.x::e.t)=e.x.length+totalV e.t:=by rfl
  omega
def zel (h:engV e=true):entsV (allR e)=true/\(allR e).length<=400:=by obtain ⟨a,b,f⟩:=zk9 h;obtain ⟨c,d,_⟩:=zvd a;exact ⟨c,Ec d b⟩
theorem zoH (h:engV e=true):zjo e=some (allR e):=by obtain ⟨a,d,f⟩:=zk9 h;unfold zjo;have b:app 24 [e.x] e.t=some (e.x::e.t):=zg (l:=[e.x]) (by grind) (by grind);rw[b];simp only[An];rw[zqU _ (by omega) (by omega) (λt c=>((zbf t).1 (a t c)).2)];rfl
theorem zkY (h:engV e=true):zf1 e=some (allR e):=by
 obtain ⟨b,c,d⟩:=zk9 h;unfold zf1;have a:app 24 [e.x] e.t=some (e.x::e.t):=zg (l:=[e.x]) (by grind) (by grind);rw[a];simp only[An];rw[ziG _ (by omega) (by omega)];have A:mergeR (e.x::e.t)=allR e:=by unfold mergeR mergeOk allR;grind
 simp_all
def getE (l:List Ac) (key:List UInt8) (seq:Int):Ac × Bool:=match l.find? (λd=>decide (d.j=key)&&Dc (d.c<=seq)) with | some d=>(d,true) | none=>(⟨[],0,false,[]⟩,false)
theorem ztb (l:List Ac) (key:List UInt8) (seq:Int) (h:l.length<=1048576):zlg l key seq=some (getE l key seq):=by
 unfold zlg getE;generalize m:(λd:Ac=>decide (d.j=key)&&Dc (d.c<=seq))=p;refine zbo (τ:=Int) (ρ:=Unit) (R:=Ac × Bool) (λx=>x=some (match l.find? p with | some d=>(d,true) | none=>(⟨[],0,false,[]⟩,false))) (λk s=>s=(k:Int)/\l.find? p=(l.drop k).find? p) l.length
  (λr=>(∃d,l.find? p=some d/\r= .done (d,true))\/(l.find? p=none/\r= .go ())) ⟨rfl,rfl⟩ ?_ ?_ ?_
 ·rintro k _ b ⟨rfl,a⟩;rw[Bf b,List.find?_cons]at a;have f:Dc ((k:Int)<(l.length:Int))=true:=decide_eq_true (by omega);simp only[f,if_true,zb l k b,An];have g:(if (Dc (l[k].j=key))=true then (some (Dc (l[k].c<=seq))) else (some false))=some (p l[k]):=by grind
  rw[g];simp only[An];cases i:p l[k] with
  | true=>simp_all
  | false=>rw[i]at a;refine .inl ⟨_,rfl,?_,a⟩;rw[za (by omega) (by omega)];omega
 ·simp
 ·rintro _ (⟨d,e,rfl⟩ | ⟨e,rfl⟩)
  ·simp_all
  ·rw[e];rfl
def zsM (l:List Ac) (key:List UInt8) (seq:Int) (h:l.length<=1048576):zdH l key seq=some (getE l key seq):=zix l key seq h
def valE (x:Ac × Bool):List UInt8 × Bool:=if x.2=true/\x.1.P=false then (x.1.M,true) else ([],false)
def getR (e:Aa) (key:List UInt8) (seq:Int):List UInt8 × Bool:=bif engV e then valE (getE (allR e) key seq) else ([],false)
theorem zt4 (x:Ac × Bool):((if (!x.2)=true then (some true) else (some x.1.P)).bind (λ(h:Bool)=>if h=true then (some (([]:List UInt8),false)) else (some (x.1.M,true))))=some (valE x):=by obtain ⟨d,b⟩:=x;unfold valE;grind
def zqi (e:Aa) (key:List UInt8) (seq:Int) (b:e.x.length<=1048576) (c:e.t.length<=1048576) (d:totalV e.t<=1048576) (f:e.B.length<=1048576):zh4 e key seq=some (getR e key seq):=by
 unfold zh4 getR;rw[zbY e b c d f];cases a:engV e with
 | false=>rfl
 | true=>have hl:=(zel a).2;simp only[An,By,Ba,if_false,cond_true];rw[zkY a];simp only[An];rw[zsM _ key seq (by omega)];simp only[An];rw[zt4]
def mapR (e:Aa) (seq:Int):List KV:=bif engV e then visL (allR e) seq (allR e).length else []
def zlm (e:Aa) (seq:Int):(mapR e seq).length<=400:=by
 unfold mapR;cases a:engV e with
 | false=>simp
 | true=>exact Ec (zov _ seq _ (Dg _)) (zel a).2
def zhQ (e:Aa) (seq:Int) (b:e.x.length<=1048576) (c:e.t.length<=1048576) (d:totalV e.t<=1048576) (f:e.B.length<=1048576):zeK e seq=some (mapR e seq):=by
 unfold zeK mapR;rw[zbY e b c d f];cases a:engV e with
 | false=>rfl
 | true=>obtain ⟨h,hl⟩:=zel a;simp only[An,By,Ba,if_false,cond_true];rw[zkY a];simp only[An];rw[zrQ _ seq h (by omega)];rfl
def opB (o:Op):List UInt8:=(if o.P=true then [1] else [0])++pieceV o.j++(if o.P=true then [] else pieceV o.M)
def showB (l:List Op):List UInt8:=varV (l.length:Int)++l.flatMap opB
def shownB (l:List Op):List UInt8:=bif batchV l then showB l else []
theorem zje (h:opV o=true):(1<=o.j.length/\o.j.length<=10)/\o.M.length<=16/\(o.P=true->o.M= []):=by unfold opV at h;grind
def zb8 {l:List Op} (h:batchV l=true):(1<=l.length/\l.length<=6)/\∀o∈l,opV o=true:=by unfold batchV at h;simp_all
theorem zkJ (h:opV o=true):(opB o).length<=41:=by obtain ⟨a,b,_⟩:=zje h;have c:=zfz o.j;have d:=zfz o.M;unfold opB;grind
theorem zkb {l:List Op} (h:batchV l=true):(showB l).length<=253:=by obtain ⟨c,a⟩:=zb8 h;have d:=znT opB 41 l λo b=>zkJ (a o b);have e:=zcR (l.length:Int);unfold showB;grind
theorem zfW (l:List Op) (h:l.length<=1048576):zed l=some (shownB l):=by
 unfold zed shownB;rw[zdE l h];cases e:batchV l with
 | false=>rfl
 | true=>
   obtain ⟨f,b⟩:=zb8 e;have g:=zcR (l.length:Int);simp only[An,By,Ba,if_false,cond_true,zh6];rw[zca (I:=λk S=>S=(varV (l.length:Int)++(l.take k).flatMap opB,(k:Int))) l.length (.go (showB l)) (by simp) ?_ ?_]
   ·rfl
   ·rintro k _ a rfl;left;have hl:=zlG opB 41 l k λo c=>zkJ (b o c);have c:=zkJ (b _ (Cy a));obtain ⟨i,m,_⟩:=zje (b _ (Cy a));have p:=zfz l[k].j;have q:=zfz l[k].M;simp only[zb l k a,An,zkh l[k].j (by omega),zkh l[k].M (by omega),zqM opB l k a];rw[if_pos (by simp_all),za (n:=(k:Int)+1) (by omega) (by omega)];cases d:l[k].P with
    | true=>simp only[if_true];rw[zbx (by grind)];simp only[An];rw[zbx (by grind)];refine ⟨_,rfl,?_⟩;simp only[opB,d,if_true,Cj,Bm];rfl
    | false=>simp only[Ba,if_false];rw[zbx (by grind)];simp only[An];rw[zbx (by grind)];simp only[An];rw[zbx (by grind)];refine ⟨_,rfl,?_⟩;simp only[opB,d,Ba,if_false,Bm];rfl
   ·rintro _ rfl;simp only;rw[if_neg (by simp),Eb];rfl
def zsD {l:List Op} (h:batchV l=true):showB l≠[]:=by obtain ⟨a,_⟩:=zb8 h;unfold showB;have:=zxa (n:=(l.length:Int)) (by omega);simp_all
theorem znh (l:List Op) (h:l.length<=1048576):zfv l=some (shownB l):=by
 unfold zfv shownB;rw[zeT l h];cases c:batchV l with
 | false=>rfl
 | true=>
   obtain ⟨f,b⟩:=zb8 c;have g:=zcR (l.length:Int);simp only[An,By,Ba,if_false,cond_true,zko];rw[zg (by grind) (by grind)];simp only[An,Bt];rw[zca (I:=λk S=>S=((k:Int),varV (l.length:Int)++(l.take k).flatMap opB)) l.length (.go (showB l)) (by simp) ?_ ?_]
   ·simp only[bindC,An];unfold strOf;rw[if_neg (zsD c)];rfl
   ·rintro k _ a rfl;left;have hl:=zlG opB 41 l k λo d=>zkJ (b o d);have d:=zkJ (b _ (Cy a));obtain ⟨i,m,_⟩:=zje (b _ (Cy a));have p:=zfz l[k].j;have q:=zfz l[k].M;simp only[zb l k a,An,zlL l[k].j (by omega),zlL l[k].M (by omega),zqM opB l k a];rw[if_pos (by simp_all),za (n:=(k:Int)+1) (by omega) (by omega)];unfold zmm;cases e:l[k].P with
    | true=>simp only[if_true,An];rw[zbx (by grind)];simp only[An];rw[zg (by grind) (by grind)];refine ⟨_,rfl,?_⟩;simp only[opB,e,if_true,Cj,Bm];rfl
    | false=>simp only[Ba,if_false,An];rw[zbx (by grind)];simp only[An];rw[zg (by grind) (by grind)];simp only[An,Dy,if_true];rw[zg (by grind) (by grind)];refine ⟨_,rfl,?_⟩;simp only[opB,e,Ba,if_false,Bm];rfl
   ·rintro _ rfl;simp only;rw[if_neg (by simp),Eb];rfl
def placeV (boot seq:Int):Bool:=Dc (0<=boot/\boot<=1000)&&Dc (0<=seq/\seq<=999999)
theorem zmS (boot seq:Int):zil boot seq=some (placeV boot seq):=by unfold zil placeV;simp only[zba,An];grind
theorem zjZ (boot seq:Int):zfa boot seq=some (placeV boot seq):=by unfold zfa placeV;simp only[zP,An];grind
def placeN (boot seq:Int):List UInt8:=nonceV 3 (I6.wrap (I6.wrap (boot*1000000)+seq))
def sealB (key:List UInt8) (boot seq:Int) (l:List Op):List UInt8:=bif batchV l&&(Dc (key.length=32)&&placeV boot seq) then streamV key 0 (placeN boot seq) (showB l) else []
def len32 (key:List UInt8):Dc ((key.length:Int)=32)=Dc (key.length=32):=decide_eq_decide.2 (by omega)
def zra (l:List Op):(shownB l).length<=253:=by
 unfold shownB;cases h:batchV l with
 | true=>exact zkb h
 | false=>exact Du _
theorem ziI (key:List UInt8) (boot seq:Int) (l:List Op) (h:l.length<=1048576):zec key boot seq l=some (sealB key boot seq l):=by unfold zec sealB;have hs:=zra l;simp only[zdE l h,zmS,zhq,zfW l h,len32,An,ziF key 0 _ (shownB l) (by omega)];unfold shownB placeN;grind
theorem ziE (key:List UInt8) (boot seq:Int) (l:List Op) (h:l.length<=1048576):zft key boot seq l=some (sealB key boot seq l):=by unfold zft sealB zeE;have hs:=zra l;simp only[zeT l h,zjZ,zgU,znh l h,len32,An,ziB key 0 _ (shownB l) (by omega)];unfold shownB placeN;grind
def rdF (t:List UInt8) (a:Nat) (bad:Bool):Bool × Nat × Bool:=(Dc ((rdB t a bad 1).1= [1]),(rdB t a bad 1).2.1,(!Dc ((rdB t a bad 1).1= [0])&& !Dc ((rdB t a bad 1).1= [1]))||(rdB t a bad 1).2.2)
def zwO (t:List UInt8) (a:Nat) (bad:Bool) (h:a<=t.length) (b:t.length<=1099511627776):zda ⟨t,(a:Int),bad⟩=some ((rdF t a bad).1,⟨t,((rdF t a bad).2.1:Int),(rdF t a bad).2.2⟩):=by unfold zda rdF;rw[zrW t a bad 1 h b (by omega)];simp only[An];cases Dc ((rdB t a bad 1).1= [0])<;>cases Dc ((rdB t a bad 1).1= [1])<;>rfl
def zmH (t:List UInt8) (a:Nat) (bad:Bool) (h:a<=t.length):(rdF t a bad).2.1<=t.length/\a<=(rdF t a bad).2.1/\((rdF t a bad).2.2=false->bad=false):=by obtain ⟨b,c,d⟩:=zqX t a bad 1 h;refine ⟨b,c,λe=>d ?_⟩;unfold rdF at e;simp_all
def rdO (t:List UInt8) (a:Nat):Op × Nat × Bool:=
 if (rdF t a false).1=true then (⟨(rdS t (rdF t a false).2.1 (rdF t a false).2.2).1,true,[]⟩,(rdS t (rdF t a false).2.1 (rdF t a false).2.2).2)
 else (⟨(rdS t (rdF t a false).2.1 (rdF t a false).2.2).1,false,(rdS t (rdS t (rdF t a false).2.1 (rdF t a false).2.2).2.1 (rdS t (rdF t a false).2.1 (rdF t a false).2.2).2.2).1⟩,
  (rdS t (rdS t (rdF t a false).2.1 (rdF t a false).2.2).2.1 (rdS t (rdF t a false).2.1 (rdF t a false).2.2).2.2).2)
theorem zq1 (t:List UInt8) (a:Nat) (h:a<=t.length):(rdO t a).2.1<=t.length:=by obtain ⟨b,_,_⟩:=zmH t a false h;obtain ⟨c,_⟩:=zgH t (rdF t a false).2.1 (rdF t a false).2.2 b;obtain ⟨d,_⟩:=zgH t (rdS t (rdF t a false).2.1 (rdF t a false).2.2).2.1 (rdS t (rdF t a false).2.1 (rdF t a false).2.2).2.2 c;unfold rdO;grind
def opsI (t:List UInt8):Nat->Nat->Bool->List Op->Nat × Bool × List Op
 | 0,a,bad,out=>(a,bad,out)
 | f+1,a,bad,out=>bif bad then (a,bad,out) else opsI t f (rdO t a).2.1 (rdO t a).2.2 (out++ [(rdO t a).1])
def opsR (t:List UInt8):Nat × Bool × List Op:=opsI t (goMin (rdN t 0 false).1 6).toNat (rdN t 0 false).2.1 (rdN t 0 false).2.2 []
def readB (t:List UInt8):List Op × Bool:=
 bif (!(opsR t).2.1&&Dc ((opsR t).1=t.length))&&(Dc (((opsR t).2.2.length:Int)=(rdN t 0 false).1)&&batchV (opsR t).2.2) then ((opsR t).2.2,true) else ([],false)
theorem zo6 (t:List UInt8): ∀(f a:Nat) (bad:Bool) (A:List Op),a<=t.length->(opsI t f a bad A).1<=t.length/\(opsI t f a bad A).2.2.length<=A.length+f
 | 0,a,bad,A,h=>⟨h,Dg _⟩
 | f+1,a,true,A,h=>⟨h,by simp[opsI]⟩
 | f+1,a,false,A,h=>by obtain ⟨b,c⟩:=zo6 t f (rdO t a).2.1 (rdO t a).2.2 (A++ [(rdO t a).1]) (zq1 t a h);refine ⟨b,?_⟩;simp only[opsI,cond_false];grind
def znf (t:List UInt8) (o:t.length<=1048576):zfs t=some (readB t):=by
 unfold zfs readB;obtain ⟨p,d,_⟩:=zih t 0 false (Du _);rw[show zbe ⟨t,0,false⟩=_ from zqW t 0 false (Du _) (by omega)];simp only[An];have h: ∀(f a i:Nat) (bad:Bool) (A:List Op),a<=t.length->(i:Int)+(f:Int)=goMin (rdN t 0 false).1 6->i+f<=6->A.length<=i->
  loopO (ρ:=Ctl (List UInt8 × Int × Bool × List Op) (List Op × Bool)) (λ(D:List UInt8 × Int × Bool × Int × List Op)=>(if (Dc (D.2.2.2.1<goMin (rdN t 0 false).1 (6:Int)))=true then (some (!D.2.2.1))
   else (some false)).bind (λ(J:Bool)=>
 if J=true then ((zda (⟨D.1,D.2.1,D.2.2.1⟩:A6)).bind λG=>
 (zbM G.2).bind λB=>
 bindC (if (!G.1)=true then ((zbM B.2).bind λE=>
 some (.go (E.2.text,E.2.V,E.2.Y,E.1)))
 else (some (.go (B.2.text,B.2.V,B.2.Y,[]))))
 (λ(F:List UInt8 × Int × Bool × List UInt8)=>(app 40 D.2.2.2.2 ([(⟨B.1,G.1,F.2.2.2⟩:Op)])).bind λI=>
 some (.go (F.1,F.2.1,F.2.2.1,I6.wrap (D.2.2.2.1+(1:Int)),I))))
 else (some (.done (.go (D.1,D.2.1,D.2.2.1,D.2.2.2.2))))))
   (t,(a:Int),bad,(i:Int),A)=some (.go (t,((opsI t f a bad A).1:Int),(opsI t f a bad A).2.1,(opsI t f a bad A).2.2)):=by
  intro f
  induction f with
  | zero=>
    intro a i bad A b hi j k
    rw[zw]
    simp only[decide_eq_false (by omega: ¬(i:Int)<goMin (rdN t 0 false).1 6),Ba,if_false,An]
    rfl
  | succ f ih=>
    intro a i bad A b hi j k
    rw[zw]
    simp only[decide_eq_true (by omega:(i:Int)<goMin (rdN t 0 false).1 6),if_true,An]
    cases bad with
    | true=>simp only[By,Ba,if_false];rfl
    | false=>
      obtain ⟨g,_,_⟩:=zmH t a false b
      obtain ⟨c,_⟩:=zgH t (rdF t a false).2.1 (rdF t a false).2.2 g
      obtain ⟨l,_⟩:=zgH t (rdS t (rdF t a false).2.1 (rdF t a false).2.2).2.1 (rdS t (rdF t a false).2.1 (rdF t a false).2.2).2.2 c
      simp only[Dy,if_true,zwO t a false b (by omega),An,zsC t _ _ g (by omega),zsC t _ _ c (by omega)]
      rw[opsI]
      simp only[cond_false]
      unfold rdO
      cases q:(rdF t a false).1 with
      | true=>
        simp only[By,Ba,if_false,if_true,zd]
        rw[zg (by simp;omega) (by simp;omega),za (n:=(i:Int)+1) (by omega) (by omega)]
        exact ih _ (i+1) _ _ c (by omega) (by omega) (by simp;omega)
      | false=>
        simp only[Dy,Ba,if_false,if_true,zd]
        rw[zg (by simp;omega) (by simp;omega),za (n:=(i:Int)+1) (by omega) (by omega)]
        exact ih _ (i+1) _ _ l (by omega) (by omega) (by simp;omega)
 have s:0<=goMin (rdN t 0 false).1 6/\goMin (rdN t 0 false).1 6<=6:=by unfold goMin;split<;>omega
 have hl:=h (goMin (rdN t 0 false).1 6).toNat (rdN t 0 false).2.1 0 (rdN t 0 false).2.2 [] d (by omega) (by omega) (by simp);rw[show ((0:Nat):Int)=0 from rfl]at hl;rw[hl];have e:opsI t (goMin (rdN t 0 false).1 6).toNat (rdN t 0 false).2.1 (rdN t 0 false).2.2 []=opsR t:=rfl;rw[e];obtain ⟨r1,r2⟩:=zo6 t (goMin (rdN t 0 false).1 6).toNat (rdN t 0 false).2.1 (rdN t 0 false).2.2 [] d;rw[e]at r1 r2;unfold zc9;have m:Dc ((((opsR t).1:Nat):Int)=(t.length:Int))=Dc ((opsR t).1=t.length):=decide_eq_decide.2 (by omega);simp only[zd,m,zeT (opsR t).2.2 (by simp only[Ew]at r2;omega),An];cases (opsR t).2.1<;>cases Dc ((opsR t).1=t.length)<;>cases Dc (((opsR t).2.2.length:Int)=(rdN t 0 false).1)<;>cases batchV (opsR t).2.2<;>rfl
theorem zwX {rest:List UInt8} {a:Nat} {b:Bool} (h:t.drop a=(if b=true then [1] else [0])++rest):rdF t a false=(b,a+1,false):=by
 have hl:a+1<=t.length:=by have:=congrArg Dn h;grind
 unfold rdF rdB;rw[decide_eq_false (show ¬t.length<a+(1:Int).toNat from by omega),h];cases b<;>rfl
theorem zwY {rest:List UInt8} {a:Nat} (g:opV o=true) (h:t.drop a=opB o++rest):rdO t a=(o,a+(opB o).length,false):=by
 obtain ⟨n,p,i⟩:=zje g;have b:t.drop a=(if o.P=true then [1] else [0])++(pieceV o.j++((if o.P=true then [] else pieceV o.M)++rest)):=by rw[h];unfold opB;simp
 have e:=congrArg Dn b;rw[Df]at e;simp only[Bh]at e;have l:(if o.P=true then [1] else [0]:List UInt8).length=1:=by grind
 have q:1<=(pieceV o.j).length:=by unfold pieceV;grind
 have m:a+1+(pieceV o.j).length<=t.length:=by omega
 have c:=zc7 b;rw[l]at c;have f:=zc7 c;unfold rdO;rw[zwX b];simp only;rw[ztY c (by omega) (by omega)];obtain ⟨k,d,v⟩:=o;cases d with
 | true=>have:v= []:=i rfl;subst this;simp[opB];omega
 | false=>
   simp only[Ba,if_false]at f |-
   rw[ztY f (by grind) m];simp[opB];omega
theorem zss (t:List UInt8): ∀(l:List Op) (a:Nat) (h:List Op) (rest:List UInt8),(∀o∈l,opV o=true)->t.drop a=l.flatMap opB++rest->opsI t l.length a false h=(a+(l.flatMap opB).length,false,h++l)
 | [],a,h,rest,_,_=>by simp[opsI]
 | o::l,a,h,rest,b,d=>by
   have c:t.drop a=opB o++(l.flatMap opB++rest):=by simp_all
   rw[Ej,opsI,zwY (b o (by simp)) c];simp only[cond_false];rw[zss t l (a+(opB o).length) (h++ [o]) rest (λy e=>b y (by simp_all)) (zc7 c)];grind
def zpc {l:List Op} (h:batchV l=true):readB (showB l)=(l,true):=by
 obtain ⟨f,b⟩:=zb8 h;have a:(showB l).drop 0=varV (l.length:Int)++(l.flatMap opB++ []):=by simp[showB]
 have c:=zc7 a;have d:=ztX a (by omega);have e:goMin (l.length:Int) 6=(l.length:Int):=by unfold goMin;omega
 have g:opsR (showB l)=((showB l).length,false,l):=by unfold opsR;rw[d];simp only[e,Dk];rw[zss (showB l) l _ [] [] b c];simp_all
 unfold readB;simp_all
def openB (key:List UInt8) (boot seq:Int) (s:List UInt8):List Op × Bool:=bif Dc (key.length=32)&&(placeV boot seq&&Dc (s.length<=300)) then readB (streamV key 0 (placeN boot seq) s) else ([],false)
def znI (key:List UInt8) (counter:Int) (nonce text:List UInt8):(streamV key counter nonce text).length<=text.length:=by
 unfold streamV;cases streamOk key counter nonce text.length with
 | true=>exact Nat.le_of_eq (zcf _ _ _ _)
 | false=>exact Du _
theorem zne (key:List UInt8) (boot seq:Int) (s:List UInt8) (h:s.length<=1048576):zdZ key boot seq s=some (openB key boot seq s):=by
 unfold zdZ openB zeE;have hs:=znI key 0 (placeN boot seq) s;have a:Dc ((s.length:Int)>300)= !Dc (s.length<=300):=by grind
 simp only[zjZ,zgU,len32,An,ziB key 0 _ s (by omega),a];have b:=znf (streamV key 0 (placeN boot seq) s) (by omega);unfold placeN at b;unfold placeN;grind
def zuv {boot seq:Int} {l:List Op} (h:sealB key boot seq l≠[]):openB key boot seq (sealB key boot seq l)=(l,true)/\(sealB key boot seq l).length=(showB l).length/\batchV l=true/\key.length=32/\placeV boot seq=true/\sealB key boot seq l=streamV key 0 (placeN boot seq) (showB l):=by
 unfold sealB at h |-
 cases a:batchV l with
 | false=>rw[a]at h;exact absurd rfl h
 | true=>
   cases b:Dc (key.length=32) with
   | false=>rw[a,b]at h;exact absurd rfl h
   | true=>
     cases c:placeV boot seq with
     | false=>rw[a,b,c]at h;exact absurd rfl h
     | true=>
       rw[a,b,c]at h;simp only[Et,cond_true]at h |-
       obtain ⟨d,e⟩:=zto h;have hl:=zkb a;refine ⟨?_,d,trivial,of_decide_eq_true b,trivial,trivial⟩;unfold openB;rw[b,c,decide_eq_true (by omega),e];exact zpc a
def seeE (l:List Ac) (key:List UInt8) (seq:Int):Option Ac:=l.find? λd=>decide (d.j=key)&&Dc (d.c<=seq)
def valO:Option Ac->Option (List UInt8)
 | some e=>bif e.P then none else some e.M
 | none=>none
theorem zvD (e:Ac) (r:List Ac) (key:List UInt8) (seq:Int):seeE (e::r) key seq=if e.j=key/\e.c<=seq then some e else seeE r key seq:=by unfold seeE;grind
def zog {seq:Int} {e:Ac} (h:seeE l key seq=some e):e∈l/\e.j=key/\e.c<=seq:=by have a:=List.mem_of_find?_eq_some h;have b:=List.find?_some h;simp_all
theorem zk7 (seq:Int): ∀(l:List Ac) (last:Option (List UInt8)),ordE l->(∀k,last=some k->∀e∈l,sLt k e.j=true\/k=e.j)->∀A:KV,A∈visG seq last l↔(last≠some A.j/\valO (seeE l A.j seq)=some A.M)
 | [],last,_,_,A=>by simp[visG,seeE,valO]
 | e::r,last,q,hl,A=>by
   have f:=Bl.1 q;have s: ∀y∈r,sLt e.j y.j=true\/e.j=y.j:=λy a=>zvl (f.1 y a);rw[visG,zvD];by_cases d:e.c<=seq
   ·by_cases i:last=some e.j
    ·rw[decide_eq_true d,decide_eq_true i];simp only[By,Bool.and_false,cond_false];rw[zk7 seq r last f.2 (λk b y a=>hl k b y (Ea _ a)) A];simp_all
    ·rw[decide_eq_true d,decide_eq_false i];simp only[Dy,Fc,cond_true];have ih:=zk7 seq r (some e.j) f.2 (λk b y a=>by simp_all) A;by_cases m:e.j=A.j
     ·rw[if_pos ⟨m,d⟩];have n: ¬A∈visG seq (some e.j) r:=by simp_all
      have u:last≠some A.j:=by simp_all
      cases o:e.P with
      | true=>simp[n,valO,o]
      | false=>simp only[cond_false,Db,n,or_false,valO,o,Eu];obtain ⟨v,w⟩:=A;grind
     ·rw[if_neg λh=>m h.1];have t:A∈(bif e.P then visG seq (some e.j) r else ⟨e.j,e.M⟩::visG seq (some e.j) r)↔A∈visG seq (some e.j) r:=by grind
      rw[t,ih];constructor
      ·rintro ⟨_,h⟩;refine ⟨λb=>?_,h⟩;cases hs:seeE r A.j seq with
       | none=>rw[hs]at h;cases h
       | some y=>
         obtain ⟨m1,m2,_⟩:=zog hs;rcases hl _ b e (by simp) with p | p
         ·rcases s y m1 with g | g
          ·rw[m2]at g;have:=zcZ p g;rw[zbW]at this;cases this
          ·simp_all
         ·simp_all
      ·simp_all
   ·rw[decide_eq_false d,Fv];simp only[cond_false];rw[zk7 seq r last f.2 (λk b y a=>hl k b y (Ea _ a)) A,if_neg λh=>d h.2]
def srtK (m:List KV):Prop:=m.Pairwise λa b=>sLt a.j b.j=true
theorem zqC (seq:Int): ∀(l:List Ac) (last:Option (List UInt8)),ordE l->(∀k,last=some k->∀e∈l,sLt k e.j=true\/k=e.j)->srtK (visG seq last l)
 | [],_,_,_=>List.Pairwise.nil
 | e::r,last,i,hl=>by
   have a:=Bl.1 i;have n: ∀y∈r,sLt e.j y.j=true\/e.j=y.j:=λy b=>zvl (a.1 y b);have d: ∀k,some e.j=some k->∀y∈r,sLt k y.j=true\/k=y.j:=λk f y b=>by simp_all
   have g:=zqC seq r (some e.j) a.2 d;rw[visG];cases (Dc (e.c<=seq)&& !Dc (last=some e.j)) with
   | false=>exact zqC seq r last a.2 λk f y b=>hl k f y (Ea _ b)
   | true=>
     simp only[cond_true];cases e.P with
     | true=>exact g
     | false=>
       refine Bl.2 ⟨λA m=>?_,g⟩;obtain ⟨o,h⟩:=(zk7 seq r (some e.j) a.2 d A).1 m;cases hs:seeE r A.j seq with
       | none=>rw[hs]at h;cases h
       | some y=>obtain ⟨m1,m2,_⟩:=zog hs;grind
theorem zrg {seq:Int} : ∀(t:List (List Ac)) (B:Int),tabsV seq B t=true->∀x∈t.flatten,∀y∈t.flatten,keyE x=keyE y->x=y:=by
 intro t;induction t with
 | nil=>intro _ _ x b;simp at b
 | cons a t ih=>
   intro B h x b y d e;have f:=h;simp only[tabsV,Ct,decide_eq_true_eq]at f;obtain ⟨⟨q,l,u,v⟩,m⟩:=f;have w:=(zek a (rangeV a).1).1 (Em _);have z:=zdJ t _ m;have hs:x.c=y.c:=by simp_all
   have n:=((zbf a).1 l).2;have A: ∀x∈a,∀y∈a,keyE x=keyE y->x=y:=by
    intro x b y d e;rcases Cv.1 n with g
    obtain ⟨i,hi,rfl⟩:=Cg b;obtain ⟨j,k,rfl⟩:=Cg d;rcases Dq i j with c | c | c
    ·have:=g i j hi k c;rw[entOrd3.irr _ _ e]at this;cases this
    ·simp_all
    ·have:=g j i k hi c;rw[entOrd3.irr _ _ e.symm]at this;cases this
   rw[Ev,Dh]at b d;rcases b with b | b<;>rcases d with d | d
   ·grind
   ·obtain ⟨s,o,p⟩:=Do.1 d;grind
   ·obtain ⟨s,o,p⟩:=Do.1 b;grind
   ·grind
theorem ztG {r:List Ac} (h:FstL keyE r l) (e: ∀x∈l,∀y∈l,keyE x=keyE y->x=y) (x:Ac):x∈r↔x∈l:=by
 refine ⟨h.mem,λc=>?_⟩;have d:=h (keyE x);have a:x∈l.filter (λy=>decide (keyE y=keyE x)):=Dj.2 ⟨c,by simp⟩;cases b:l.filter (λy=>decide (keyE y=keyE x)) with
 | nil=>rw[b]at a;simp at a
 | cons y t=>
   rw[b]at d;have f:y∈r.filter (λy=>decide (keyE y=keyE x)):=by simp_all
   grind
def tabE (e:Aa):List Ac:=e.t.foldl mg []
def zw5 (h:engV e=true):ordE (tabE e)/\∀x,x∈tabE e↔∃t∈e.t,x∈t:=by obtain ⟨f,g,i,j,k,l,a,m⟩:=z9 h;have b:=zdJ e.t _ a;obtain ⟨m1,m2⟩:=zhJ e.t [] [] (λt d=>((zbf t).1 (b t d).1).2) List.Pairwise.nil (λc=>rfl);rw[Bt]at m2;refine ⟨m1,λx=>?_⟩;rw[<-Do];exact ztG m2 (zrg e.t _ a) x
theorem zts (h:engV e=true):ordE (allR e)/\∀x,x∈allR e↔x∈e.x\/x∈tabE e:=by
 obtain ⟨u,v,w,z,l,A,f,B⟩:=z9 h;have C:=zdJ e.t _ f;obtain ⟨m,_,_⟩:=zk9 h;obtain ⟨m1,m2⟩:=zhJ (e.x::e.t) [] [] (λt n=>((zbf t).1 (m t n)).2) List.Pairwise.nil (λc=>rfl);rw[Bt]at m2;refine ⟨m1,λx=>?_⟩;rw[(zw5 h).2 x,<-Do,<-Dh,<-Ev];refine ztG m2 ?_ x;have D:=(zek e.x (rangeV e.x).1).1 (Em _);have o:=((zbf e.x).1 l.2).2;intro x a y b d;have hs:x.c=y.c:=by simp_all
 rw[Ev,Dh]at a b;rcases a with a | a<;>rcases b with b | b
 ·have g:=Cv.1 o;obtain ⟨i,hi,rfl⟩:=Cg a;obtain ⟨j,k,rfl⟩:=Cg b;rcases Dq i j with c | c | c
  ·have:=g i j hi k c;rw[entOrd3.irr _ _ d]at this;cases this
  ·simp_all
  ·have:=g j i k hi c;rw[entOrd3.irr _ _ d.symm]at this;cases this
 ·obtain ⟨s,p,q⟩:=Do.1 b;grind
 ·obtain ⟨s,p,q⟩:=Do.1 a;grind
 ·exact zrg e.t _ f x a y b d
def zvr (h:engV e=true) (seq:Int):mapR e seq=visG seq none (allR e):=by unfold mapR;rw[h];exact zxo (zel h).1 seq
def zwh (h:engV e=true) (seq:Int) (A:KV):A∈mapR e seq↔valO (seeE (allR e) A.j seq)=some A.M:=by rw[zvr h,zk7 seq (allR e) none (zts h).1 (λk a=>by trivial)];simp
def zn6 (h:engV e=true) (seq:Int):srtK (mapR e seq):=by rw[zvr h];exact zqC seq _ none (zts h).1 λk a=>by trivial
def smallE (e:Aa):Prop:=e.x.length<=2000/\e.t.length<=7/\totalV e.t<=401/\e.B.length<=5
def zkd (h:engV e=true):smallE e:=by obtain ⟨a,b,c,d,f,g,i,j⟩:=z9 h;exact ⟨by omega,by omega,by omega,by omega⟩
def zre {seq:Int} {l:List Int} (h: ∀k (d:k<l.length),(0<=l[k]/\l[k]<=seq)/\(∀e:0<k,l[k - 1]'(by omega)<l[k])):snapsV seq l=true:=by
 unfold snapsV;rw[Ek];intro k d;have c:k<l.length:=by simp_all
 obtain ⟨a,b⟩:=h k c;rw[zjy seq l k c,Ct];simp_all
def zgP (h:engV e=true) {l:List Int} (hl:l.length<=4) (hs:snapsV e.c l=true):engV {e with B:=l} =true:=by obtain ⟨a,b,d,f,g,i,j,k⟩:=z9 h;unfold engV memV;simp_all
theorem zwv (h:engV e=true):engV (snapR e).1=true:=by
 obtain ⟨b,j,l,m,n,o,p,a⟩:=z9 h;unfold snapR;rw[if_pos h];by_cases d:e.c∈e.B
 ·simp_all
 ·by_cases f:e.B.length=4
  ·simp_all
  ·rw[if_neg d,if_neg f];refine zgP h (by grind) (zre λk s=>?_);have i:k<e.B.length+1:=by simp_all
   rcases Nat.lt_succ_iff_lt_or_eq.1 i with g | g
   ·have:=zfg a k g;grind
   ·subst g;rw[List.getElem_append_right (by omega)];simp only[Fk,List.getElem_cons_zero];refine ⟨⟨b.1,Em _⟩,λt=>?_⟩;rw[List.getElem_append_left (by omega)];have q:=(zfg a (e.B.length - 1) (by omega)).1;grind
theorem zs6 (h:engV e=true) (x:Int):engV (engDropR e x).1=true:=by
 obtain ⟨o,p,b,q,s,t,u,a⟩:=z9 h;unfold engDropR;rw[if_pos h];by_cases f:x∈e.B
 ·rw[if_pos f];obtain ⟨j,l,rfl⟩:=Cg f;have m:=znP a j l;refine zgP h ?_ (zre λk g=>?_)
  ·grind
  ·simp only[m]at g |-
   have hl:(e.B.take j).length=j:=by grind
   have v:k<e.B.length - 1:=by grind
   have A: ∀i (hi:i<j) (d:i<(e.B.take j++e.B.drop (j+1)).length),(e.B.take j++e.B.drop (j+1))[i]=e.B[i]'(by omega):=λi hi d=>by simp_all
   have D: ∀i (hi:j<=i) (d:i<(e.B.take j++e.B.drop (j+1)).length) (b:i+1<e.B.length),(e.B.take j++e.B.drop (j+1))[i]=e.B[i+1]'b:=λi hi d b=>by grind
   by_cases c:k<j
   ·rw[A k c];have:=zfg a k (by omega);grind
   ·rw[D k (by omega) g (by omega)];have:=zfg a (k+1) (by omega);refine ⟨this.1,λw=>?_⟩;by_cases n:k=j
    ·subst n;rw[A (k - 1) (by omega)];exact zoh a (k+1) (by omega) (k - 1) (by omega)
    ·grind
 ·simp_all
def zqe (h:engV e=true) (l:List Op):engV (putR e l).1=true:=by
 unfold putR;rw[h];cases a:batchV l with
 | false=>exact h
 | true=>
   cases b:okB e l with
   | false=>exact h
   | true=>exact (zm0 h a).trans b
def zbK {m:Option (Ctl τ R)} {k:τ->Option R} {P:Option R->Prop} (Q:τ->Prop) (h: ∃t,m=some (.go t)/\Q t) (a: ∀t,Q t->P (k t)):P (bindC m k):=by obtain ⟨t,rfl,b⟩:=h;simp_all
def goO {T:Type} (Q:T->Prop) (o:Option (Ctl T R)):Prop:=∃t,o=some (.go t)/\Q t
theorem zvn (code:List UInt8) (most:Int) (h:code.length<=1048576) (b:2<=most/\most<=1000): ∃n,zh9 code most=some n/\0<n/\n<=1000:=by unfold zh9;have a:Fs (code.length:Int) 20=((code.length / 20:Nat):Int):=rfl;rw[a,za (n:=((code.length / 20:Nat):Int)) (by omega) (by omega),za (by omega) (by omega)];grind
def zuH (a b:Aa) (h:smallE a):zhd a b=some (Dc (a=b)):=by
 obtain ⟨i,d,o,j⟩:=a;obtain ⟨k,e,p,l⟩:=b;obtain ⟨q,s,m,t⟩:=h;simp only at q s m t;unfold zhd;simp only[znE i k (by omega),zth j l (by omega),An];by_cases c:i=k
 ·by_cases f:o=p
  ·by_cases n:j=l
   ·subst c f n;have:=zmb d e zds (λx y u w=>znE x y (by have:=zfP Dn u;unfold totalV at m;omega)) (by omega);by_cases g:d.length=e.length
    ·simp[g]at this |-
     rw[this]
    ·have v: ¬d=e:=λh=>g (by rw[h]);simp[g,v];omega
   ·simp[c,f,n]
  ·simp[c,f]
 ·simp[c]
def zsF:smallE ⟨[],[],0,[]⟩:=⟨by simp,by simp,by simp[totalV],by simp⟩
def zux (h:smallE e) (l:List Op):smallE (putR e l).1:=by
 cases a:engV e with
 | true=>exact zkd (zqe a l)
 | false=>unfold putR;rw[a];exact zsF
def opL (l:List Op) (key:List UInt8):Option Op:=l.reverse.find? λo=>decide (o.j=key)
def zsq (a:Op) (t:List Op) (key:List UInt8):opL (a::t) key=(opL t key).or (if a.j=key then some a else none):=by unfold opL;simp
theorem zwV (l:List Op) (key:List UInt8) (o:Op):opL l key=some o↔∃i,∃hi:i<l.length,laterV l i key=false/\l[i].j=key/\o=l[i]:=by
 induction l with
 | nil=>simp[opL]
 | cons a t ih=>
   rw[zsq];have b: ∀i,laterV (a::t) (i+1) key=laterV t i key:=λi=>by rfl
   have c:laterV (a::t) 0 key=t.any λx=>decide (x.j=key):=by rfl
   have d:opL t key=none↔(t.any λx=>decide (x.j=key))=false:=by unfold opL;simp
   constructor
   ·intro h;cases e:opL t key with
    | some x=>grind
    | none=>grind
   ·grind
def newK (o:Op):List KV:=bif o.P then [] else [⟨o.j,o.M⟩]
def putK (m:List KV) (o:Op):List KV:=m.filter (λx=>sLt x.j o.j)++(newK o++m.filter (λx=>sLt o.j x.j))
def applyK (m:List KV) (l:List Op):List KV:=l.foldl putK m
theorem zoa (o:Op) (h:KV):h∈newK o↔o.P=false/\h.j=o.j/\h.M=o.M:=by unfold newK;obtain ⟨k,v⟩:=h;grind
def zwo (m:List KV) (o:Op) (A:KV):A∈putK m o↔(o.P=false/\A.j=o.j/\A.M=o.M)\/(A.j≠o.j/\A∈m):=by
 unfold putK;rw[Dh,Dh,zoa,Dj,Dj];constructor
 ·rintro (⟨b,a⟩ | h | ⟨b,a⟩)
  ·exact .inr ⟨λh=>by (rw[h,zbW]at a;cases a),b⟩
  ·simp_all
  ·exact .inr ⟨λh=>by (rw[h,zbW]at a;cases a),b⟩
 ·rintro (h | ⟨b,a⟩)
  ·simp_all
  ·cases c:sLt A.j o.j with
   | true=>exact .inl ⟨a,rfl⟩
   | false=>
     cases d:sLt o.j A.j with
     | true=>exact .inr (.inr ⟨a,rfl⟩)
     | false=>exact absurd (zsA c d) b
def zwp (h:srtK m) (o:Op):srtK (putK m o):=by
 unfold putK srtK;rw[Cx,Cx];refine ⟨h.filter _,⟨?_,h.filter _,?_⟩,?_⟩
 ·unfold newK;cases o.P<;>simp
 ·intro a d b c;rw[((zoa o a).1 d).2.1];simp_all
 ·intro a d b c;have e:=(Dj.1 d).2;rcases Dh.1 c with c | c
  ·rw[((zoa o b).1 c).2.1];exact e
  ·exact zcZ e (Dj.1 c).2
def zla (l:List Op): ∀{m:List KV},srtK m->srtK (applyK m l):=by
 induction l with
 | nil=>intro m h;exact h
 | cons a t ih=>intro m h;exact ih (zwp h a)
theorem zt6 (l:List Op): ∀(m:List KV) (h:KV),h∈applyK m l↔match opL l h.j with | some o=>o.P=false/\h.M=o.M | none=>h∈m:=by
 induction l with
 | nil=>intro m h;simp[applyK,opL]
 | cons a t ih=>
   intro m h;show h∈applyK (putK m a) t↔_;rw[ih,zsq];cases b:opL t h.j with
   | some o=>simp
   | none=>simp only[Option.none_or];rw[zwo];grind
theorem ziK (l:List Op): ∀m:List KV,(applyK m l).length<=m.length+l.length:=by
 induction l with
 | nil=>intro m;simp[applyK]
 | cons a t ih=>
   intro m;have b:=ih (putK m a);have d:(putK m a).length<=m.length+1:=by
    unfold putK newK;have q:(m.filter λx=>sLt x.j a.j).length+(m.filter λx=>sLt a.j x.j).length<=m.length:=by
     clear b;induction m with
     | nil=>simp
     | cons x r h=>
       simp only[List.filter_cons,Ej];cases c:sLt x.j a.j with
       | true=>rw[zq5 c];simp;omega
       | false=>cases sLt a.j x.j<;>simp<;>omega
    grind
   show (applyK (putK m a) t).length<=_;grind
def kvV (x:KV):Bool:=opV ⟨x.j,false,x.M⟩
def zm3 (h:engV e=true) (s:Int): ∀x∈mapR e s,kvV x=true:=by
 intro x a;rw[zwh h]at a;cases b:seeE (allR e) x.j s with
 | none=>rw[b]at a;cases a
 | some d=>
   obtain ⟨m1,m2,_⟩:=zog b;have c:=((zbf _).1 (zel h).1).1 d m1;rw[b]at a;unfold entV at c;simp only[Ct]at c;have a:(bif d.P then none else some d.M)=some x.M:=a;cases f:d.P with
   | true=>rw[f]at a;cases a
   | false=>rw[f]at a;have g:d.M=x.M:=Option.some.inj a;unfold kvV opV;simp_all
def zqD {l:List Op} (d: ∀x∈m,kvV x=true) (b:batchV l=true): ∀x∈applyK m l,kvV x=true:=by
 intro x a;rw[zt6]at a;unfold batchV at b;rw[Ct,Ek]at b;cases c:opL l x.j with
 | none=>rw[c]at a;exact d x a
 | some o=>rw[c]at a;obtain ⟨i,hi,_,e,rfl⟩:=(zwV l _ o).1 c;have:=b.2 _ (Cy hi);unfold opV at this;simp only[Ct]at this;unfold kvV opV;simp_all
theorem zlr (p:Nat) (b: ∀x∈m.take p,sLt x.j o.j=true) (d: ∀x∈m.drop p,sLt x.j o.j=false):putK m o=m.take p++(newK o++(m.drop p).filter λx=>!Dc (x.j=o.j)):=by
 unfold putK;have e:m=m.take p++m.drop p:=(Bo p m).symm;have g:m.filter (λx=>sLt x.j o.j)=m.take p:=by
  conv=>lhs;rw[e]
  rw[Bz,List.filter_eq_self.2 b,Dp.2 λx a=>by grind,Cj]
 have h:m.filter (λx=>sLt o.j x.j)=(m.drop p).filter λx=>!Dc (x.j=o.j):=by
  conv=>lhs;rw[e]
  rw[Bz,Dp.2 λx a=>by rw[zq5 (b x a)];simp,Bt];refine List.filter_congr λx a=>?_;by_cases c:x.j=o.j
  ·grind
  ·rw[decide_eq_false c];cases f:sLt o.j x.j with
   | true=>rfl
   | false=>exact absurd (zsA (d x a) f) c
 grind
theorem zrO (m:List KV) (o:Op) (w:srtK m) (hl:m.length<=1000000):zi5 m o=some (putK m o):=by
 unfold zi5;refine zG (λk (S:Bool × Int × List KV)=>S.2.1=(k:Int)/\((S.1=o.P/\S.2.2=m.take k/\∀x∈m.take k,sLt x.j o.j=true)\/
  (S.1=true/\∃p,p<=k/\S.2.2=m.take p++(newK o++((m.take k).drop p).filter λx=>!Dc (x.j=o.j))/\(∀x∈m.take p,sLt x.j o.j=true)/\∀x∈m.drop p,sLt x.j o.j=false))) m.length
  (λr=>∃b a,r= .go (b,a)/\((b=o.P/\a=m/\∀x∈m,sLt x.j o.j=true)\/(b=true/\a=putK m o))) ⟨rfl,.inl ⟨rfl,by simp,by simp⟩⟩ ?_ ?_ ?_
 ·rintro k ⟨b,c,a⟩ q ⟨i,J⟩;simp only at i J;subst i;left;have z:m.take (k+1)=m.take k++ [m[k]]:=by simp
  have A:I6.wrap ((k:Int)+1)=((k+1:Nat):Int):=by rw[za (by omega) (by omega)];omega
  have I: ∀(x y:List KV),x.length<=1000001->y.length<=1->app 32 x y=some (x++y):=λx y D E=>zg (by omega) (by omega);simp only[zb m k q,An,A];rw[if_pos (by simp_all)];rcases J with ⟨e,d,f⟩ | ⟨e,p,s,d,f,l⟩
  ·subst e d;have F:(m.take k).length<=1000000:=by grind
   cases t:sLt m[k].j o.j with
   | true=>
     have B: ¬m[k].j=o.j:=λh=>by rw[h,zbW]at t;trivial
     refine ⟨(o.P,((k+1:Nat):Int),m.take (k+1)),?_,rfl,.inl ⟨rfl,rfl,?_⟩⟩
     ·rw[z];cases o.P<;>simp[B,bindC,I (m.take k) [m[k]] (by omega) (by simp)]
     ·grind
   | false=>
     have l: ∀x∈m.drop k,sLt x.j o.j=false:=by
      intro x n;rw[Bf q]at n;rcases Db.1 n with rfl | n
      ·trivial
      ·have u:=w;unfold srtK at u;rw[<-Bo k m,Cx,Bf q]at u;have C:=(Bl.1 u.2.1).1 x n;cases g:sLt x.j o.j with
       | false=>rfl
       | true=>rw[zcZ C g]at t;cases t
     refine ⟨(true,((k+1:Nat):Int),m.take k++(newK o++((m.take (k+1)).drop k).filter λx=>!Dc (x.j=o.j))),?_,rfl,.inr ⟨rfl,k,by omega,rfl,f,l⟩⟩;have v:(m.take (k+1)).drop k= [m[k]]:=by grind
     rw[v];unfold newK;cases o.P with
     | true=>
       by_cases g:m[k].j=o.j
       ·simp_all
       ·simp[g,bindC,I (m.take k) [m[k]] (by omega) (by simp)]
     | false=>
       by_cases g:m[k].j=o.j
       ·simp[g,bindC,I (m.take k) [(⟨o.j,o.M⟩:KV)] (by omega) (by simp)]
       ·simp[g,bindC,I (m.take k) [(⟨o.j,o.M⟩:KV)] (by omega) (by simp),I (m.take k++ [(⟨o.j,o.M⟩:KV)]) [m[k]] (by simp_all) (by simp)]
  ·subst e d;have v:(m.take (k+1)).drop p=(m.take k).drop p++ [m[k]]:=by grind
   have G:(m.take p++(newK o++((m.take k).drop p).filter λx=>!Dc (x.j=o.j))).length<=1000001:=by
    have H:(newK o).length<=1:=by unfold newK;grind
    grind
   refine ⟨(true,((k+1:Nat):Int),m.take p++(newK o++((m.take (k+1)).drop p).filter λx=>!Dc (x.j=o.j))),?_,rfl,.inr ⟨rfl,p,by omega,rfl,f,l⟩⟩;rw[v,Bz];by_cases g:m[k].j=o.j
   ·simp_all
   ·simp_all
 ·rintro ⟨b,c,a⟩ ⟨i,J⟩;simp only at i J;subst i;refine ⟨.go (b,a),by simp,b,a,rfl,?_⟩;rcases J with ⟨e,d,f⟩ | ⟨e,p,s,d,f,l⟩
  ·simp_all
  ·right;rw[Eb]at d;exact ⟨e,by rw[d,zlr p f l]⟩
 ·rintro r ⟨b,a,rfl,⟨e,d,f⟩ | ⟨e,d⟩⟩
  ·subst e d;have s:putK a o=a++newK o:=by have:=zlr (m:=a) (o:=o) a.length (by simp_all) (by simp);simp_all
   rw[s];unfold newK;cases o.P with
   | true=>simp[bindC]
   | false=>have d:app 32 a [(⟨o.j,o.M⟩:KV)]=some (a++ [⟨o.j,o.M⟩]):=zg (by grind) (by grind);simp_all
  ·simp_all
def zk8 (m:List KV) (b:srtK m) (c: ∀x∈m,kvV x=true) (hl:m.length<=1000000):zhp m=some true:=by
 unfold zhp;refine zG (λk s=>s=(k:Int)) m.length (λr=>r= .go ()) rfl ?_ ?_ (λr e=>by simp_all)
 ·rintro k _ a rfl;left;have d:opV ⟨m[k].j,false,m[k].M⟩=true:=c _ (Cy a);refine ⟨((k+1:Nat):Int),?_,rfl⟩;simp only[zb m k a,An,zmR,d];rw[if_pos (by simp_all),za (n:=(k:Int)+1) (by omega) (by omega)];by_cases f:0<k
  ·have g:=Cv.1 b (k - 1) k (by omega) a (by omega);rw[za (n:=(k:Int) - 1) (by omega) (by omega),show (k:Int) - 1=((k - 1:Nat):Int) by omega,zb m (k - 1) (by omega)];simp_all
  ·simp_all
 ·simp
theorem zrn (m:List KV) (l:List Op) (a:srtK m) (b: ∀x∈m,kvV x=true) (e:m.length<=100000) (hl:l.length<=1000):zcK m l=some (bif batchV l then (applyK m l,true) else (m,false)):=by
 unfold zcK;rw[zk8 m a b (by omega)];simp only[An,By,Ba,if_false];rw[zg (by grind) (by grind),zdE l (by omega)];simp only[An,Bt];cases batchV l with
 | false=>rfl
 | true=>
   simp only[By,Ba,if_false,cond_true];refine zG (λk (S:Int × List KV)=>S=((k:Int),applyK m (l.take k))) l.length (λr=>r= .go (applyK m l)) rfl ?_ ?_ (λr f=>by simp_all)
   ·rintro k _ c rfl;left;have d:l.take (k+1)=l.take k++ [l[k]]:=by simp
    have g:=ziK (l.take k) m;refine ⟨_,?_,rfl⟩;simp only[zb l k c,An];rw[if_pos (by simp_all),zrO _ _ (zla _ a) (by grind),za (n:=(k:Int)+1) (by omega) (by omega)];simp only[An];rw[d,show applyK m (l.take k++ [l[k]])=putK (applyK m (l.take k)) l[k] by simp only[applyK,Fl,List.foldl_cons,List.foldl_nil]];rfl
   ·simp
def zpe: ∀(f:Nat) (s:List UInt8) (n k:Nat),readN (f+1) s=some (n,k)->s=varN f n++s.drop k
 | _,[],_,_,h=>by trivial
 | f,x::l,n,k,h=>by
   rw[readN]at h;by_cases c:x.toNat<128
   ·rw[decide_eq_true c]at h;simp only[cond_true,Eu,Fx]at h;obtain ⟨rfl,rfl⟩:=h;rw[zgK c,znb];rfl
   ·rw[decide_eq_false c]at h;simp only[cond_false]at h;cases f with
    | zero=>simp[readN]at h
    | succ f=>
      cases a:readN (f+1) l with
      | none=>rw[a]at h;cases h
      | some mk=>
        obtain ⟨m,k'⟩:=mk;rw[a]at h;simp only at h;by_cases b:m=0
        ·simp_all
        ·rw[decide_eq_false b]at h;simp only[cond_false,Eu,Fx]at h;obtain ⟨rfl,rfl⟩:=h;have ih:=zpe f l m k' a;have i:=x.toNat_lt;have d:(x.toNat % 128+128*m) % 128=x.toNat % 128:=by omega
         have e:(x.toNat % 128+128*m) / 128=m:=by omega
         have g:128+x.toNat % 128=x.toNat:=by omega
         rw[zjg (by omega),d,e,g,znb,Da,List.drop_succ_cons,<-ih]
def zq0 {a:Nat} (b:(rdN t a false).2.2=false):t.drop a=varV (rdN t a false).1++t.drop (rdN t a false).2.1:=by
 unfold rdN at b |-
 simp only[cond_false]at b |-
 cases c:readN 7 (t.drop a) with
 | none=>rw[c]at b;cases b
 | some h=>obtain ⟨n,k⟩:=h;have:=zpe 6 _ n k c;obtain ⟨r1,r2,d⟩:=zeJ c;simp only;unfold varV;rw[decide_eq_true (by omega)];simp only[cond_true,Dk];rw[Dl]at this;trivial
theorem zqY {a:Nat} {n:Int} (b:(rdB t a bad n).2.2=false):bad=false/\t.drop a=(rdB t a bad n).1++t.drop (rdB t a bad n).2.1/\(rdB t a bad n).1.length=n.toNat:=by
 unfold rdB at b |-
 cases bad with
 | true=>simp at b
 | false=>
   by_cases c:t.length<a+n.toNat
   ·simp_all
   ·rw[decide_eq_false c]at b |-
    simp only[Bool.or_false,cond_false];refine ⟨trivial,?_,by grind⟩;rw[<-Dl,Bo]
theorem zmI {a:Nat} (h:a<=t.length) (b:(rdS t a bad).2.2=false):bad=false/\t.drop a=pieceV (rdS t a bad).1++t.drop (rdS t a bad).2.1:=by
 have c:bad=false:=((zgH t a bad h).2 b).1;subst c;refine ⟨rfl,?_⟩;unfold rdS at b |-
 obtain ⟨d,e,f⟩:=zqY b;obtain ⟨r1,_,_⟩:=zih t a false h;have:=zq0 d;rw[this,e];unfold pieceV;grind
theorem zqZ {a:Nat} (b:(rdF t a bad).2.2=false):bad=false/\t.drop a=(if (rdF t a bad).1=true then [1] else [0])++t.drop (rdF t a bad).2.1:=by
 unfold rdF at b |-
 simp only[Bool.or_eq_false_iff,Bool.and_eq_false_iff,Fi,decide_eq_true_eq]at b;obtain ⟨d,c⟩:=b;obtain ⟨e,f,_⟩:=zqY c;grind
def zvz {a:Nat} (h:a<=t.length) (b:(rdO t a).2.2=false):t.drop a=opB (rdO t a).1++t.drop (rdO t a).2.1:=by
 obtain ⟨e,_,_⟩:=zmH t a false h;obtain ⟨i,_⟩:=zgH t (rdF t a false).2.1 (rdF t a false).2.2 e;unfold rdO at b |-
 cases d:(rdF t a false).1 with
 | true=>
   rw[d]at b;simp only[if_true]at b |-
   obtain ⟨f,g⟩:=zmI e b;obtain ⟨_,c⟩:=zqZ f;rw[d,if_pos rfl]at c;rw[c,g];simp[opB]
 | false=>
   rw[d]at b;simp only[Ba,if_false]at b |-
   obtain ⟨f,g⟩:=zmI i b;obtain ⟨j,k⟩:=zmI e f;obtain ⟨_,c⟩:=zqZ j;rw[d,if_neg (by simp)]at c;rw[c,k,g];simp[opB]
def zsr (t:List UInt8): ∀(f a:Nat) (bad:Bool) (A:List Op),(opsI t f a bad A).2.1=false->bad=false
 | 0,_,_,_,h=>h
 | f+1,a,true,A,h=>by simp[opsI]at h
 | f+1,a,false,A,h=>rfl
def zo7 (t:List UInt8): ∀(f a:Nat) (bad:Bool) (A:List Op),a<=t.length->(opsI t f a bad A).2.1=false->∃l,(opsI t f a bad A).2.2=A++l/\l.length=f/\t.drop a=l.flatMap opB++t.drop (opsI t f a bad A).1
 | 0,a,bad,A,_,_=>⟨[],by simp[opsI],rfl,by rfl⟩
 | f+1,a,true,A,_,h=>by trivial
 | f+1,a,false,A,b,h=>by
   simp only[opsI,cond_false]at h |-
   have c:=zsr t f _ _ _ h;obtain ⟨l,e,g,d⟩:=zo7 t f (rdO t a).2.1 (rdO t a).2.2 (A++ [(rdO t a).1]) (zq1 t a b) h;refine ⟨(rdO t a).1::l,by simp_all,by simp_all,?_⟩;rw[zvz b c,d];simp
theorem znD (h:(readB t).2=true):batchV (readB t).1=true/\showB (readB t).1=t:=by
 unfold readB at h |-
 cases a:((!(opsR t).2.1&&Dc ((opsR t).1=t.length))&&(Dc (((opsR t).2.2.length:Int)=(rdN t 0 false).1)&&batchV (opsR t).2.2)) with
 | false=>rw[a]at h;cases h
 | true=>
   simp only[cond_true];simp only[Ct,Ds,decide_eq_true_eq]at a;obtain ⟨⟨b,e⟩,c,d⟩:=a;refine ⟨d,?_⟩;obtain ⟨r1,r2,j⟩:=zih t 0 false (Du _);unfold opsR at b e c d |-
   have f:=zsr t _ _ _ _ b;obtain ⟨l,g,k,m⟩:=zo7 t _ _ _ _ r2 b;have i:=zq0 f;rw[Dx]at i;rw[g,Bt]at c |-
   unfold showB;grind
theorem znC (h:(readB t).2=false):readB t=([],false):=by
 unfold readB at h |-
 grind
theorem zwS {s:List UInt8} :(l6V s 1 0).2= -1\/∃(b:Nat) (n:Int),l6V s 1 0=([n],(b:Int))/\b<=s.length/\0<=n/\s≠[]:=by
 rcases (zmA s 1 0 (Du _)).1 with e | ⟨b,f,a,c⟩
 ·omega
 ·right;have d:=(zmA s 1 0 (Du _)).2
  match hl:(l6V s 1 0).1,c with
  | [n],_=>refine ⟨b,n,by grind,a,(d n (by simp_all)).1,?_⟩;rintro rfl;trivial
def rbStep (k:Nat) (l:List Op) (q:Int × List UInt8) (o:Op):Option (Ctl (Int × Int × List Op) (Ctl (List Op) (List Op × Bool))):=
 if (Dc (q.1<(0:Int)))=true then (some (.done (.done (([]:List Op),false))))
 else ((app 40 l ([(⟨o.j,o.P,q.2⟩:Op)])).bind λh=>some (.go (q.1,I6.wrap ((k:Int)+(1:Int)),h)))
theorem zvy (s:List UInt8) (k m:Nat) (l:List Op) (q:Int × List UInt8) (o:Op) (f:k<1000) (hl:l.length=k) (c:q.1= -1\/∃b:Nat,q.1=(b:Int)/\b<=s.length):
 (∃h:Int × Int × List Op,rbStep k l q o=some (.go h)/\h.2.1=((k+1:Nat):Int)/\(∃a:Nat,h.1=(a:Int)/\a<=s.length)/\h.2.2.length=k+1)\/
 (∃r:Ctl (List Op) (List Op × Bool),rbStep k l q o=some (.done r)/\((∃l:List Op,r= .go l/\l.length=m)\/r= .done ([],false))):=by
 rcases c with c | ⟨d,c,e⟩
 ·right;exact ⟨.done ([],false),by unfold rbStep;simp_all,.inr rfl⟩
 ·left;refine ⟨(q.1,((k+1:Nat):Int),l++ [(⟨o.j,o.P,q.2⟩:Op)]),?_,rfl,⟨d,c,e⟩,by simp_all⟩;unfold rbStep;rw[c,decide_eq_false (by omega),zg (by grind) (by simp[hl];omega),za (n:=(k:Int)+1) (by omega) (by omega)];rfl
theorem zlz (s:List UInt8) (hs:s.length<=1048576): ∃r,zcu s=some r/\((r.2=true/\batchV r.1=true/\showB r.1=s)\/r=([],false)):=by
 unfold zcu;rw[show zbH s (0:Int) (1:Int)=some (l6V s 1 0) from zfL s 0 1 (by omega) (by decide) (by decide)];simp only[An];rcases zwS (s:=s) with e | ⟨b,n,e,w,A,B⟩
 ·simp_all
 ·rw[e];have x:idx [n] (0:Int)=some n:=rfl;rw[decide_eq_false (by omega: ¬(b:Int)<0)];simp only[Ba,if_false,x,An];by_cases y:n>6
  ·simp_all
  rw[decide_eq_false y];simp only[Ba,if_false];obtain ⟨m,rfl⟩: ∃m:Nat,n=(m:Int):=⟨n.toNat,by omega⟩;refine zbo (R:=List Op × Bool) (ρ:=List Op) (λo=>∃r,o=some r/\((r.2=true/\batchV r.1=true/\showB r.1=s)\/r=([],false))) (λk (S:Int × Int × List Op)=>S.2.1=(k:Int)/\(∃a:Nat,S.1=(a:Int)/\a<=s.length)/\S.2.2.length=k) m
   (λr=>(∃l,r= .go l/\l.length=m)\/r= .done ([],false)) ⟨rfl,⟨b,rfl,w⟩,rfl⟩ ?_ ?_ ?_
  ·rintro k ⟨i,c,l⟩ C ⟨p,⟨a,t,D⟩,hl⟩;simp only at p t hl;subst p t;simp only[decide_eq_true (by omega:(k:Int)<(m:Int)),if_true];by_cases d:(a:Int)>=(s.length:Int)
   ·right;exact ⟨.done ([],false),by rw[decide_eq_true d];rfl,.inr rfl⟩
   ·have z:a<s.length:=by omega
    rw[decide_eq_false d];simp only[Ba,if_false,zcN s a z,An];rw[za (n:=(a:Int)+1) (by omega) (by omega),show (a:Int)+1=((a+1:Nat):Int) by omega,zfK s (a+1) (by omega) hs];simp only[An];have E:=λq f o=>zvy s k m l q o (by omega) hl f;have j:=znJ s (a+1) (by omega);generalize takeB s (a+1)=g at j;by_cases F:((s[a].toNat:Nat):Int)=1
    ·rw[decide_eq_true F];simp only[By,Ba,if_false,zd];exact E (g.2,[]) j ⟨g.1,true,[]⟩
    ·rw[decide_eq_false F];simp only[Dy,if_true];rcases j with f | ⟨h,f,u⟩
     ·rw[f,zpA];exact E (-1,[]) (.inl rfl) ⟨g.1,false,[]⟩
     ·rw[f,zfK s h u hs];exact E ((takeB s h).2,(takeB s h).1) (znJ s h u) ⟨g.1,false,[]⟩
  ·simp_all
  ·rintro r (⟨l,rfl,hl⟩ | rfl)
   ·simp only[zd];by_cases v:(l.length:Int)=0
    ·rw[decide_eq_true v];exact ⟨_,rfl,.inr rfl⟩
    ·rw[decide_eq_false v,zfW l (by omega)];simp only[Ba,if_false,An];by_cases d:shownB l=s
     ·rw[decide_eq_true d];refine ⟨_,rfl,.inl ⟨rfl,?_⟩⟩;unfold shownB at d;grind
     ·rw[decide_eq_false d];exact ⟨_,rfl,.inr rfl⟩
   ·exact ⟨_,rfl,.inr rfl⟩
theorem zjM {l:List Op} (h:batchV l=true):zcu (showB l)=some (l,true):=by
 obtain ⟨⟨L,N⟩,C⟩:=zb8 h;have O:=zkb h;have hs:(showB l).length<=1048576:=by omega
 have u:(showB l).drop 0=varV (l.length:Int)++(l.flatMap opB++ []):=by rw[Dx,Cj];rfl
 have Q:=zc7 u;have D:l6V (showB l) 1 0=([(l.length:Int)],((0+(varV (l.length:Int)).length:Nat):Int)):=by have:=ztO (showB l) [(l.length:Int)] 0 (l.flatMap opB++ []) (λx a=>by rw[List.mem_singleton]at a;rw[a];omega) (Du _) (by simpa using u);simp_all
 unfold zcu;rw[show zbH (showB l) (0:Int) (1:Int)=some (l6V (showB l) 1 0) from zfL (showB l) 0 1 (by omega) (by decide) (by decide),D];have E:idx [(l.length:Int)] (0:Int)=some (l.length:Int):=rfl;simp only[An];simp only[E];rw[decide_eq_false (by omega)];simp only[Ba,if_false,An];rw[decide_eq_false (by omega: ¬(l.length:Int)>6)];simp only[Ba,if_false];let p (k:Nat):Nat:=0+(varV (l.length:Int)).length+((l.take k).flatMap opB).length;have W: ∀k (c:k<l.length),(showB l).drop (p k)=opB l[k]++((l.drop (k+1)).flatMap opB++ []):=by
  intro k c;have:(l.flatMap opB++ []:List UInt8)=(l.take k).flatMap opB++(opB l[k]++((l.drop (k+1)).flatMap opB++ [])):=by
   conv=>lhs;rw[<-Bo k l,Bf c,List.flatMap_append,List.flatMap_cons]
   simp only[Bm,Cj]
  grind
 refine zG (λk (S:Int × Int × List Op)=>S=(((p k:Nat):Int),(k:Int),l.take k)) l.length (λr=>r= .go l) (by simp[p]) ?_ ?_ ?_
 ·rintro k _ c rfl;left;have F:=C _ (Cy c);obtain ⟨⟨R,T⟩,U,G⟩:=zje F;have g:=W k c;have v:l.take (k+1)=l.take k++ [l[k]]:=by rw[List.take_add_one,De c];rfl
  have w:p (k+1)=p k+(opB l[k]).length:=by grind
  have H:=congrArg Dn g;rw[Df,Bh]at H;have V:1<=(opB l[k]).length:=by unfold opB;cases l[k].P<;>simp<;>omega
  have y:p k<(showB l).length:=by omega
  simp only[decide_eq_true (by omega:(k:Int)<(l.length:Int)),if_true];rw[decide_eq_false (by omega: ¬((p k:Nat):Int)>=(((showB l).length:Nat):Int))];simp only[Ba,if_false,zcN (showB l) (p k) y,An];rw[za (n:=((p k:Nat):Int)+1) (by omega) (by omega),show ((p k:Nat):Int)+1=((p k+1:Nat):Int) by omega,zfK (showB l) (p k+1) (by omega) hs];simp only[An];refine ⟨(((p (k+1):Nat):Int),((k+1:Nat):Int),l.take (k+1)),?_,rfl⟩;have z:I6.wrap ((k:Int)+1)=((k+1:Nat):Int):=by rw[za (by omega) (by omega)];omega
  have A: ∀o:Op,app 40 (l.take k) [o]=some (l.take k++ [o]):=λo=>zg (by simp;omega) (by simp;omega);have B: ∀(x:UInt8) (r:List UInt8),(showB l).drop (p k)=x::r->(showB l)[p k]=x:=by intro x r a;rw[Bf y]at a;exact (Fz a).1
  cases e:l[k].P with
  | true=>
    have I:=G e;have f:opB l[k]= [1]++(pieceV l[k].j++ []):=by unfold opB;rw[e];simp
    have b:=g;rw[f]at b;simp only[Bm,Ez,Cj,Da,Bt]at b;have a:=B _ _ b;have d:(showB l).drop (p k+1)=pieceV l[k].j++(l.drop (k+1)).flatMap opB:=by have:(showB l).drop (p k)= [(1:UInt8)]++(pieceV l[k].j++(l.drop (k+1)).flatMap opB):=b;exact zc7 this
    have i:=congrArg Dn d;rw[Df,Bh]at i;have m:=zmU d (by omega) (by omega);have q:(opB l[k]).length=1+(pieceV l[k].j).length:=by rw[f];simp;omega
    rw[m,a];have s:((((1:UInt8)).toNat:Nat):Int)=1:=rfl;simp only[s,decide_true,By,Ba,if_false,zd];rw[decide_eq_false (by omega: ¬((p k+1+(pieceV l[k].j).length:Nat):Int)<0)];simp only[Ba,if_false,A,An,z];rw[v,w,q];have t:(⟨l[k].j,true,[]⟩:Op)=l[k]:=by rw[<-e,<-I]
    rw[t,Nat.add_assoc]
  | false=>
    have f:opB l[k]= [0]++(pieceV l[k].j++pieceV l[k].M):=by unfold opB;rw[e];simp
    have b:=g;rw[f]at b;simp only[Bm,Ez,Cj,Da,Bt]at b;have a:=B _ _ b;have d:(showB l).drop (p k+1)=pieceV l[k].j++(pieceV l[k].M++(l.drop (k+1)).flatMap opB):=by have:(showB l).drop (p k)= [(0:UInt8)]++(pieceV l[k].j++(pieceV l[k].M++(l.drop (k+1)).flatMap opB)):=b;exact zc7 this
    have i:=congrArg Dn d;rw[Df,Bh,Bh]at i;have J:=zc7 d;have m:=zmU d (by omega) (by omega);have K:=zmU J (by omega) (by omega);have q:(opB l[k]).length=1+((pieceV l[k].j).length+(pieceV l[k].M).length):=by rw[f];simp;omega
    rw[m,a];have s:((((0:UInt8)).toNat:Nat):Int)=0:=rfl;simp only[s,decide_eq_false (by decide: ¬(0:Int)=1),Dy,if_true];rw[zfK (showB l) (p k+1+(pieceV l[k].j).length) (by omega) hs,K];simp only[An,zd];rw[decide_eq_false (by omega)];simp only[Ba,if_false,A,An,z];rw[v,w,q];have t:(⟨l[k].j,false,l[k].M⟩:Op)=l[k]:=by rw[<-e]
    rw[t];congr 3;omega
 ·rintro _ rfl;exact ⟨.go l,by simp,rfl⟩
 ·rintro r rfl;simp only[zd];rw[decide_eq_false (by omega: ¬(l.length:Int)=0),zfW l (by omega)];have:shownB l=showB l:=by unfold shownB;simp_all
  simp[this]
def zpK (s:List UInt8) (hs:s.length<=1048576):zcu s=some (readB s):=by
 obtain ⟨r,a,h | h⟩:=zlz s hs
 ·obtain ⟨c,d,e⟩:=h;rw[a,<-e,zpc d,<-c]
 ·rw[a,h];cases b:(readB s).2 with
  | false=>rw[znC b]
  | true=>obtain ⟨f,g⟩:=znD b;have:=zjM f;simp_all
def fstV (p:α->Bool) (l:List α):Int:=match l.findIdx? p with
 | some j=>(j:Int)
 | none=>-1
theorem zgq (p:α->Bool) (l:List α) (hl:l.length<=1048576) {body:Int->Option (Ctl Int (Ctl Unit R))} (g:Int->R) {f:Unit->Option R} {z:R} (m:f ()=some z) (h: ∀k (a:k<l.length),body (k:Int)=some (if p l[k]=true then .done (.done (g (k:Int))) else .go ((k:Int)+1))) (b:body (l.length:Int)=some (.done (.go ()))):
 bindC (loopO body 0) f=some (match l.findIdx? p with | some j=>g (j:Int) | none=>z):=by
 have key: ∀(n k:Nat),k+n=l.length->(∀i (hi:i<l.length),i<k->p l[i]=false)->bindC (loopO body (k:Int)) f=some (match l.findIdx? p with | some j=>g (j:Int) | none=>z):=by
  intro n;induction n with
  | zero=>
    intro k a c;have:k=l.length:=by omega
    subst this;rw[zw,b];have:l.findIdx? p=none:=by rw[List.findIdx?_eq_none_iff];intro x d;obtain ⟨i,hi,rfl⟩:=Cg d;simp_all
    rw[this];trivial
  | succ n ih=>
    intro k a c;have e:k<l.length:=by omega
    rw[zw,h k e];cases o:p l[k] with
    | true=>
      have:l.findIdx? p=some k:=by rw[Ee];simp_all
      simp_all
    | false=>simp only[Ba,if_false];have:=ih (k+1) (by omega) (λi hi q=>by grind);trivial
 exact key l.length 0 (by omega) (λi _ h=>by omega)
theorem zlO (l:List Af) (id:Int) (h:l.length<=1048576):zcX l id=some (fstV (λt=>decide (t.q=id)) l):=by unfold zcX fstV;refine zgq (λt:Af=>decide (t.q=id)) l h (λj=>j) rfl (λk a=>?_) (by simp);simp only[zb l k a,An];rw[if_pos (by simp_all),za (by omega) (by omega)];grind
theorem zjq (s:Ae) (id:Int) (h:s.a.length<=1048576):zbp s id=some (fstV (λt=>decide (t.q=id)) s.a):=by
 unfold zbp zbm fstV;rw[zgq (λt:Af=>decide (t.q=id)) s.a h (λj=>j) rfl (λk b=>?_) (by simp)]
 ·rfl
 ·simp only[zb s.a k b,An,zgY];rw[if_pos (by simp_all),za (by omega) (by omega)];grind
theorem zhM (d:At) (t:Int) (h:d.D.length<=1048576):zeI d t=some (fstV (λx=>decide (x.s=t)) d.D):=by
 unfold zeI zbq fstV;rw[zgq (λx:A5=>decide (x.s=t)) d.D h (λj=>j) rfl (λk a=>?_) (by simp)]
 ·rfl
 ·simp only[zb d.D k a,An,zir];rw[if_pos (by simp_all),za (by omega) (by omega)];grind
def znx (n:Int):zbh n=some (Dc (0<=n/\n<=1000000)):=by unfold zbh;rw[zP];rfl
def zgN (d:At):zcw d=zbg d:=by unfold zcw zbg;simp only[znx,zny,zba,ge_iff_le]
def zt5 (d:At) (h:d.D.length<=1048576): ∃b,zbg d=some b:=by
 unfold zbg;simp only[zba,An];have a: ∃B,(if (!(Dc ((d.K.length:Int)=(32:Int))))=true then (some true)
  else (if (Dc ((d.D.length:Int)>(4:Int)))=true then (some true)
 else (some (!Dc (0<=d.H/\d.H<=1000000)))))=some B:=by
  split
  ·trivial
  ·split<;>exact ⟨_,rfl⟩
 obtain ⟨B,a⟩:=a;rw[a];simp only[An];cases B with
 | true=>exact ⟨_,rfl⟩
 | false=>
   simp only[Ba,if_false];refine zt7 (zur (λk s=>s=(k:Int)) d.D.length rfl ?_ ?_) (λ_=>⟨_,rfl⟩)
   ·rintro k _ c rfl;simp only[zb d.D k c,An];rw[if_pos (by simp_all)];have e: ∃b,(if (!Dc (1<=d.D[k].s/\d.D[k].s<=99))=true then (some true)
     else (if (!(Dc (((d.D[k].j.length:Nat):Int)=(32:Int))))=true then (some true)
 else (if (Dc ((k:Int)>(0:Int)))=true then ((idx d.D (I6.wrap ((k:Int) - (1:Int)))).bind λA=>
 some (Dc (A.s>=d.D[k].s)))
 else (some false))))=some b:=by
     split
     ·trivial
     ·split
      ·trivial
      ·by_cases g:0<k
       ·rw[if_pos (by simp_all),za (n:=(k:Int) - 1) (by omega) (by omega),show (k:Int) - 1=((k - 1:Nat):Int) by omega,zb d.D (k - 1) (by omega)]
        simp
       ·simp_all
    obtain ⟨b,f⟩:=e
    rw[f]
    simp only[An]
    cases b with
    | true=>exact .inr ⟨_,rfl⟩
    | false=>exact .inl ⟨_,rfl,by rw[za (by omega) (by omega)];omega⟩
   ·simp
def keysV (d:At):Bool:=(zbg d).getD false
def ze2 (d:At) (h:d.D.length<=1048576):zbg d=some (keysV d):=by obtain ⟨b,a⟩:=zt5 d h;unfold keysV;rw[a];rfl
def keyOfV (d:At) (t:Int):List UInt8:=bif keysV d then (match d.D.findIdx? (λx=>decide (x.s=t)) with | some j=>((d.D[j]?).map A5.j).getD [] | none=>[]) else []
theorem zgc (d:At) (t:Int) (h:d.D.length<=1048576):zdF d t=some (keyOfV d t):=by
 unfold zdF keyOfV;simp only[ze2 d h,An];cases keysV d with
 | false=>rw[zw];simp
 | true=>
   simp only[cond_true];rw[zgq (λx:A5=>decide (x.s=t)) d.D h (λj=>((d.D[j.toNat]?).map A5.j).getD []) (z:=[]) rfl (λk a=>?_) (by simp)]
   ·rfl
   ·simp only[decide_eq_true (by omega),if_true,An,zb d.D k a,Dk,De a,Option.map_some,Option.getD_some];rw[za (by omega) (by omega)];grind
def zio (d:At) (t:Int) (h:d.D.length<=1048576):zgS d t=some (keyOfV d t):=by
 unfold zgS keyOfV;rw[zhM d t h,zgN,ze2 d h];simp only[An];unfold fstV;cases b:d.D.findIdx? (λx=>decide (x.s=t)) with
 | none=>cases keysV d<;>rfl
 | some j=>
   have a:j<d.D.length:=(Ee.1 b).1;simp only;rw[decide_eq_false (by omega)];simp only[Ba,if_false,An];cases keysV d with
   | false=>rfl
   | true=>simp[zb d.D j a,De a]
def zsx (t:List UInt8):((readB t).2=true/\batchV (readB t).1=true/\(showB (readB t).1)=t)\/readB t=([],false):=by
 cases h:(readB t).2 with
 | true=>exact .inl ⟨rfl,znD h⟩
 | false=>exact .inr (znC h)
theorem ziH (key:List UInt8) (boot seq:Int) (s:List UInt8) (h:s.length<=1048576):zct key boot seq s=some (openB key boot seq s):=by
 unfold zct openB;have hs:=znI key 0 (placeN boot seq) s;have f:=zpK (streamV key 0 (placeN boot seq) s) (by omega);have g: ¬s.length<=300->readB (streamV key 0 (placeN boot seq) s)=([],false):=by
  intro c;rcases zsx (streamV key 0 (placeN boot seq) s) with ⟨_,d,i⟩ | h
  ·have b:=zkb d;have a:=zsD d;rw[i]at b a;unfold streamV at b a;cases e:streamOk key 0 (placeN boot seq) s.length with
   | true=>rw[e,cond_true,zcf]at b;omega
   | false=>rw[e]at a;exact absurd rfl a
  ·exact h
 simp only[zmS,zhq,len32,An,ziF key 0 _ s (by omega)];unfold placeN at f g;unfold placeN;grind
def zoc (key:List UInt8) (boot seq:Int) (s:List UInt8):((openB key boot seq s).2=true/\batchV (openB key boot seq s).1=true)\/openB key boot seq s=([],false):=by
 unfold openB;cases Dc (key.length=32)&&(placeV boot seq&&Dc (s.length<=300)) with
 | false=>exact .inr rfl
 | true=>
   rcases zsx (streamV key 0 (placeN boot seq) s) with ⟨a,b,_⟩ | h
   ·simp_all
   ·simp_all
def repS (key:List UInt8):Aa->List Ah->Aa × Bool
 | e,[]=>(e,true)
 | e,r::rs=>bif (openB key r.A r.c r.O).2&&(putR e (openB key r.A r.c r.O).1).2 then repS key (putR e (openB key r.A r.c r.O).1).1 rs else (⟨[],[],0,[]⟩,false)
theorem zjw {l:List Op} (h:(putR e l).2=true):engV e=true/\batchV l=true/\okB e l=true/\(putR e l).1=engB e l:=by
 unfold putR at h |-
 grind
theorem zrE (key:List UInt8) (tabs:List (List Ac)) (rows:List Ah) (p:rows.length<=1048576) (g: ∀r∈rows,r.O.length<=1048576) {body:Int × Int × List Ac->Option (Ctl (Int × Int × List Ac) (Ctl (Int × List Ac) (Aa × Bool)))} (e:body=λ(B:Int × Int × List Ac)=>if (Dc (B.2.1<(rows.length:Int)))=true then ((idx rows B.2.1).bind λD=>
 (zdZ key D.A D.c D.O).bind λG=>
 (if (!G.2)=true then (some (B.1,true,B.2.2))
 else ((zdv (⟨B.2.2,tabs,B.1,[]⟩:Aa) G.1).bind λE=>
 some (E.2.c,!E.1,E.2.x))).bind (λ(F:Int × Bool × List Ac)=>
 if F.2.1=true then (some (.done (.done ((⟨[],[],0,[]⟩:Aa),false))))
 else (some (.go (F.1,I6.wrap (B.2.1+(1:Int)),F.2.2)))))
 else (some (.done (.go (B.1,B.2.2))))):
  ∀(n k:Nat) (seq:Int) (mem:List Ac),k+n=rows.length->engV ⟨mem,tabs,seq,[]⟩=true->
   bindC (loopO body (seq,(k:Int),mem)) (λ(I:Int × List Ac)=>some ((⟨I.2,tabs,I.1,[]⟩:Aa),true))=some (repS key ⟨mem,tabs,seq,[]⟩ (rows.drop k)):=by
 intro n;induction n with
 | zero=>
   intro k seq mem i a;have:k=rows.length:=by omega
   subst this;rw[zw,e];simp[bindC,repS]
 | succ n ih=>
   intro k seq mem i a;have b:k<rows.length:=by omega
   rw[zw,Bf b];have j:body (seq,(k:Int),mem)=some (bif (openB key rows[k].A rows[k].c rows[k].O).2&&(putR ⟨mem,tabs,seq,[]⟩ (openB key rows[k].A rows[k].c rows[k].O).1).2 then
    .go ((putR ⟨mem,tabs,seq,[]⟩ (openB key rows[k].A rows[k].c rows[k].O).1).1.c,(k:Int)+1,(putR ⟨mem,tabs,seq,[]⟩ (openB key rows[k].A rows[k].c rows[k].O).1).1.x)
    else .done (.done (⟨[],[],0,[]⟩,false))):=by
    rw[e]
    simp only[zb rows k b,An,zne key _ _ _ (g _ (Cy b))]
    rw[if_pos (by simp_all),za (n:=(k:Int)+1) (by omega) (by omega)]
    rcases zoc key rows[k].A rows[k].c rows[k].O with ⟨l,d⟩ | h
    ·rw[l];simp only[By,Ba,if_false,Di,zp6 _ _ a d,An];unfold putR;grind
    ·simp_all
   rw[j];simp only[repS];cases m:((openB key rows[k].A rows[k].c rows[k].O).2&&(putR ⟨mem,tabs,seq,[]⟩ (openB key rows[k].A rows[k].c rows[k].O).1).2) with
   | false=>rfl
   | true=>
     simp only[cond_true];have d:=(Ct _ _ ▸ m:_/\_).2;obtain ⟨q,s,t,o⟩:=zjw d;have f:=zqe a (openB key rows[k].A rows[k].c rows[k].O).1;rw[o]at f |-
     have:=ih (k+1) _ _ (by omega) f;trivial
def rep0 (t:Af):Aa:=⟨[],t.g.t,t.G,[]⟩
def zfX (s:Ae) (t:Af) (rows:List Ah) (a:rows.length<=1048576) (b: ∀r∈rows,r.O.length<=1048576) (c:s.m.D.length<=1048576) (d:engV t.g=true) (e:engV (rep0 t)=true):
    zcq s t rows=some (repS (keyOfV s.m t.q) (rep0 t) rows):=by unfold zcq;obtain ⟨h,i,j,k,f⟩:=zbN d;rw[zg2 t.g (by omega) (by omega) f (by omega),zio s.m t.q c];simp only[An];have:=zrE (keyOfV s.m t.q) t.g.t rows a b rfl rows.length 0 t.G [] (by omega) e;trivial
def rowsV (s:Ae) (id:Int):List Ah:=s.u.filter λr=>decide (r.s=id)
theorem zes (s:Ae) (id:Int) (h:s.u.length<=1048576):zcg s id=some (rowsV s id):=by
 unfold zcg rowsV;refine zG (λk (S:Int × List Ah)=>S=((k:Int),(s.u.take k).filter λr=>decide (r.s=id))) s.u.length (λr=>r= .go (s.u.filter λr=>decide (r.s=id))) rfl ?_ ?_ (λr b=>by simp_all)
 ·rintro k _ a rfl;left;refine ⟨_,?_,rfl⟩;have hl:=zlb (λr:Ah=>decide (r.s=id)) s.u k;simp only[zb s.u k a,An];rw[if_pos (by simp_all),za (n:=(k:Int)+1) (by omega) (by omega),zkl _ s.u k a];cases c:Dc (s.u[k].s=id) with
  | false=>simp[bindC]
  | true=>rw[if_pos rfl,zg (by grind) (by grind)];rfl
 ·simp
def chkS (key:List UInt8) (base:Int):Int->Aa->List Ah->Aa × Bool
 | _,e,[]=>(e,true)
 | n,e,r::rs=>bif ((openB key r.A r.c r.O).2&&(putR e (openB key r.A r.c r.O).1).2)&&Dc (r.c=base+(n+1)) then chkS key base (n+1) (putR e (openB key r.A r.c r.O).1).1 rs else (⟨[],[],0,[]⟩,false)
theorem zvw (s:Ae) (t:Af) (key:List UInt8) (w:s.u.length<=1048576) (g: ∀r∈s.u,r.O.length<=1048576) (y:0<=t.G/\t.G<=1000000) {body:Int × Int × Int × List Ac × List (List Ac) × List Int->Option (Ctl (Int × Int × Int × List Ac × List (List Ac) × List Int) (Ctl (Int × Int × List Ac × List (List Ac) × List Int) Bool))} (b:body=λ(J:Int × Int × Int × List Ac × List (List Ac) × List Int)=>if (Dc (J.2.2.1<(s.u.length:Int)))=true then (bindC ((idx s.u J.2.2.1).bind λM=>
 if (!(Dc (M.s=t.q)))=true then (some (.go (J.1,J.2.1,J.2.2.2.1,J.2.2.2.2.1,J.2.2.2.2.2)))
 else ((zct key M.A M.c M.O).bind λV=>
 (zb6 (⟨J.2.2.2.1,J.2.2.2.2.1,J.2.1,J.2.2.2.2.2⟩:Aa) V.1).bind λN=>
 (if (!V.2)=true then (some (true,J.2.2.2.2.1))
 else (if (!N.2)=true then (some (true,J.2.2.2.2.1))
 else (some (!(Dc (M.c=I6.wrap (t.G+(I6.wrap (J.1+(1:Int)))))),J.2.2.2.2.1)))).bind (λ(W:Bool × List (List Ac))=>
 if W.1=true then (some (.done (.done (.done false))))
 else (some (.go (I6.wrap (J.1+(1:Int)),N.1.c,N.1.x,N.1.t,N.1.B))))))
 (λ(U:Int × Int × List Ac × List (List Ac) × List Int)=>some (.go (U.1,U.2.1,I6.wrap (J.2.2.1+(1:Int)),U.2.2.1,U.2.2.2.1,U.2.2.2.2))))
 else (some (.done (.go (J.1,J.2.1,J.2.2.2.1,J.2.2.2.2.1,J.2.2.2.2.2))))):
  ∀(n k:Nat) (I:Int) (e:Aa),k+n=s.u.length->smallE e->(0<=I/\I<=(k:Int))->
   loopO body (I,e.c,(k:Int),e.x,e.t,e.B)=some (bif (chkS key t.G I e ((s.u.drop k).filter λr=>decide (r.s=t.q))).2 then
    .go (I+(((s.u.drop k).filter λr=>decide (r.s=t.q)).length:Int),(chkS key t.G I e ((s.u.drop k).filter λr=>decide (r.s=t.q))).1.c,(chkS key t.G I e ((s.u.drop k).filter λr=>decide (r.s=t.q))).1.x,(chkS key t.G I e ((s.u.drop k).filter λr=>decide (r.s=t.q))).1.t,(chkS key t.G I e ((s.u.drop k).filter λr=>decide (r.s=t.q))).1.B)
    else .done false):=by
 intro n;induction n with
 | zero=>
   intro k I e i hs j;have:k=s.u.length:=by omega
   subst this;rw[zw,b];simp[chkS]
 | succ n ih=>
   intro k I e i hs j;have a:k<s.u.length:=by omega
   have d:I6.wrap ((k:Int)+1)=((k+1:Nat):Int):=by rw[za (by omega) (by omega)];omega
   have l:I6.wrap (I+1)=I+1:=za (by omega) (by omega);have m:I6.wrap (t.G+(I+1))=t.G+(I+1):=za (by omega) (by omega);rw[zw,Bf a];by_cases c:s.u[k].s=t.q
   ·rw[Ed (by grind)];have o:(openB key s.u[k].A s.u[k].c s.u[k].O).1.length<=1048576:=by
     rcases zoc key s.u[k].A s.u[k].c s.u[k].O with ⟨_,p⟩ | h
     ·have:=(zb8 p).1;omega
     ·grind
    obtain ⟨z,C,D,E⟩:=id hs;have v:=zfC e (openB key s.u[k].A s.u[k].c s.u[k].O).1 (by omega) (by omega) (by omega) (by omega) o;have f:body (I,e.c,(k:Int),e.x,e.t,e.B)=some (bif ((openB key s.u[k].A s.u[k].c s.u[k].O).2&&(putR e (openB key s.u[k].A s.u[k].c s.u[k].O).1).2)&&Dc (s.u[k].c=t.G+(I+1)) then
     .go (I+1,(putR e (openB key s.u[k].A s.u[k].c s.u[k].O).1).1.c,((k+1:Nat):Int),(putR e (openB key s.u[k].A s.u[k].c s.u[k].O).1).1.x,(putR e (openB key s.u[k].A s.u[k].c s.u[k].O).1).1.t,(putR e (openB key s.u[k].A s.u[k].c s.u[k].O).1).1.B)
     else .done (.done false)):=by
     rw[b]
     simp only[zb s.u k a,An,ziH key _ _ _ (g _ (Cy a)),v,d,l,m]
     rw[if_pos (by grind),if_neg (by grind)]
     cases (openB key s.u[k].A s.u[k].c s.u[k].O).2<;>cases (putR e (openB key s.u[k].A s.u[k].c s.u[k].O).1).2<;>cases Dc (s.u[k].c=t.G+(I+1))<;>rfl
    rw[f];simp only[chkS];cases F:(((openB key s.u[k].A s.u[k].c s.u[k].O).2&&(putR e (openB key s.u[k].A s.u[k].c s.u[k].O).1).2)&&Dc (s.u[k].c=t.G+(I+1))) with
    | false=>rfl
    | true=>simp only[cond_true];rw[ih (k+1) (I+1) _ (by omega) (zux hs _) (by omega)];grind
   ·rw[Dd (by grind)];have f:body (I,e.c,(k:Int),e.x,e.t,e.B)=some (.go (I,e.c,((k+1:Nat):Int),e.x,e.t,e.B)):=by rw[b];simp only[zb s.u k a,An,d];rw[if_pos (by grind),if_pos (by grind)];rfl
    grind
theorem zty (key:List UInt8) (base:Int): ∀(h:List Ah) (n:Int) (e:Aa),chkS key base n e h=bif (repS key e h).2&&((Eg h.length).all λi=>match h[i]? with | some r=>decide (r.c=base+(n+1+i)) | none=>true) then ((repS key e h).1,true) else (⟨[],[],0,[]⟩,false)
 | [],n,e=>rfl
 | r::h,n,e=>by
   have a:((Eg (r::h).length).all λi=>match (r::h)[i]? with | some r=>decide (r.c=base+(n+1+i)) | none=>true)=(Dc (r.c=base+(n+1))&&((Eg h.length).all λi=>match h[i]? with | some r=>decide (r.c=base+(n+1+1+i)) | none=>true)):=by rw[Ej,Ey,Gb,Gi];grind
   rw[a];simp only[chkS,repS];rw[zty key base h (n+1)];grind
def seqsV (base:Int) (h:List Ah):Bool:=(Eg h.length).all λi=>match h[i]? with | some r=>decide (r.c=base+(0+1+i)) | none=>true
def tenV (s:Ae) (t:Af):Bool:=
 (Dc (0<=t.J/\t.J<=1000000)&&Dc (0<=t.G/\t.G<=1000000))&&((Dc (t.g.B.length<=2)&&Dc (t.g.t.length<=1))&&(engV t.g&&
   ((Dc ((rowsV s t.q).length<=6)&&Dc (t.G+((rowsV s t.q).length:Int)=t.g.c))&&(seqsV t.G (rowsV s t.q)&&(engV (rep0 t)&&((repS (keyOfV s.m t.q) (rep0 t) (rowsV s t.q)).2&&Dc ((repS (keyOfV s.m t.q) (rep0 t) (rowsV s t.q)).1.x=t.g.x)))))))
def zr7 (a b:List Ac) (h:a.length<=1048576):zdD a b=some (Dc (a=b)):=by unfold zdD;have:=zmb a b (λx y=>some (Dc (x.j=y.j)&&(Dc (x.c=y.c)&&(Dc (x.P=y.P)&&(Dc (x.M=y.M)&&true))))) (λx y _ _=>by congr 1;obtain ⟨d,e,f,g⟩:=x;obtain ⟨i,k,l,m⟩:=y;simp) (by omega);trivial
theorem zvE (h:List Ah) (base:Int) (g:0<=base/\base<=1000000) (hl:h.length<=1048576) {body:Int->Option (Ctl Int (Ctl Unit Bool))} (b:body=λ(A:Int)=>if (Dc (A<(h.length:Int)))=true then ((idx h A).bind λB=>
 if (!(Dc (B.c=I6.wrap (I6.wrap (base+A)+(1:Int)))))=true then (some (.done (.done false)))
 else (some (.go (I6.wrap (A+(1:Int))))))
 else (some (.done (.go ())))) (f:Unit->Option Bool):
  bindC (loopO body 0) f=bif seqsV base h then f () else some false:=by
 have e: ∀k (a:k<h.length),body (k:Int)=some (if (Dc (h[k].c=base+(0+1+(k:Int))))=true then .go ((k:Int)+1) else .done (.done false)):=by intro k a;rw[b];simp only[zb h k a,An];rw[if_pos (by simp_all),za (n:=base+(k:Int)) (by omega) (by omega),za (n:=base+(k:Int)+1) (by omega) (by omega),za (n:=(k:Int)+1) (by omega) (by omega),show base+(k:Int)+1=base+(0+1+(k:Int)) by omega];grind
 have key: ∀(n k:Nat),k+n=h.length->bindC (loopO body (k:Int)) f=bif ((Eg n).all λi=>match h[k+i]? with | some r=>decide (r.c=base+(0+1+((k+i:Nat):Int))) | none=>true) then f () else some false:=by
  intro n;induction n with
  | zero=>
    intro k a;have:k=h.length:=by omega
    subst this;rw[zw,b];simp
  | succ n ih=>
    intro k a;have d:k<h.length:=by omega
    rw[zw,e k d,Ey,Gb,Gi];simp only[Nat.add_zero,De d];cases Dc (h[k].c=base+(0+1+(k:Int))) with
    | false=>rfl
    | true=>simp only[if_true,Di];rw[show (k:Int)+1=((k+1:Nat):Int) by omega,ih (k+1) (by omega)];grind
 have:=key h.length 0 (by omega);simp only[Gg]at this;trivial
def zjf (key:List UInt8): ∀(B:List Ah) (e:Aa),engV e=true->(repS key e B).2=true->engV (repS key e B).1=true
 | [],e,h,_=>h
 | r::B,e,h,a=>by
   simp only[repS]at a |-
   cases b:(openB key r.A r.c r.O).2&&(putR e (openB key r.A r.c r.O).1).2 with
   | false=>rw[b]at a;cases a
   | true=>rw[b]at a;exact zjf key B _ (zqe h _) a
structure smallT (t:Af):Prop where
 mem:t.g.x.length<=1048576
 tables:t.g.t.length<=1048576
 total:totalV t.g.t<=1048576
 snaps:t.g.B.length<=1048576
structure smallS (s:Ae):Prop where
 each: ∀t∈s.a,smallT t
 rows:s.u.length<=1048576
 text: ∀r∈s.u,r.O.length<=1048576
 tens:s.a.length<=1048576
 slots:s.m.D.length<=1048576
 shares:s.C.r.length<=1048576
 hist:s.L.length<=1048576
theorem zl1 (s:Ae) (t:Af) (hs:smallS s) (a:smallT t):zet s t=some (tenV s t):=by
 unfold zet tenV;simp only[znx,zlH t.g a.mem a.tables a.total a.snaps,zes s t.q hs.rows,An];cases u:Dc (0<=t.J/\t.J<=1000000) with
 | false=>rfl
 | true=>
 cases i:Dc (0<=t.G/\t.G<=1000000) with
 | false=>rfl
 | true=>
 have j:=of_decide_eq_true i;have k:Dc ((t.g.B.length:Int)>(2:Int))= !Dc (t.g.B.length<=2):=by grind
 have l:Dc ((t.g.t.length:Int)>(1:Int))= !Dc (t.g.t.length<=1):=by grind
 rw[k,l];cases Dc (t.g.B.length<=2) with
 | false=>rfl
 | true=>
 cases Dc (t.g.t.length<=1) with
 | false=>rfl
 | true=>
 cases o:engV t.g with
 | false=>rfl
 | true=>
 have e:(rowsV s t.q).length<=1048576:=Ec (Fa _ _) hs.rows;have p:Dc ((((rowsV s t.q).length:Nat):Int)>(6:Int))= !Dc ((rowsV s t.q).length<=6):=by grind
 simp only[By,Ba,if_false,An,Et,Di];rw[p,za (n:=t.G+(((rowsV s t.q).length:Nat):Int)) (by omega) (by omega)];cases Dc ((rowsV s t.q).length<=6) with
 | false=>rfl
 | true=>
 cases Dc (t.G+(((rowsV s t.q).length:Nat):Int)=t.g.c) with
 | false=>rfl
 | true=>
 simp only[By,Ba,if_false,An,Et,Di];rw[zvE (rowsV s t.q) t.G j e rfl];cases seqsV t.G (rowsV s t.q) with
 | false=>rfl
 | true=>
 simp only[cond_true,Di];have f:=zlH (rep0 t) (by simp[rep0]) (by simpa[rep0] using a.tables) (by simpa[rep0] using a.total) (by simp[rep0]);unfold rep0 at f;rw[f];simp only[An];cases b:engV ⟨[],t.g.t,t.G,[]⟩ with
 | false=>simp[rep0,b]
 | true=>
 rw[zfX s t (rowsV s t.q) e (λr d=>hs.text r (Dj.1 d).1) hs.slots o b];simp only[An,By,Ba,if_false];have h:engV (rep0 t)=true:=b;rw[h];cases d:(repS (keyOfV s.m t.q) (rep0 t) (rowsV s t.q)).2 with
 | false=>rfl
 | true=>have:=zkd (zjf _ _ _ h d);rw[if_pos rfl,zr7 _ _ (by have:=this.1;omega)];rfl
def mineV (s:Ae) (t:Af):Bool:=
 Dc (t.g.t.length<=1)&&((Dc ((rowsV s t.q).length<=6)&&Dc (t.G+((rowsV s t.q).length:Int)=t.g.c))&&(seqsV t.G (rowsV s t.q)&&(engV (rep0 t)&&((repS (keyOfV s.m t.q) (rep0 t) (rowsV s t.q)).2&&Dc ((repS (keyOfV s.m t.q) (rep0 t) (rowsV s t.q)).1.x=t.g.x)))))
def zuD (key:List UInt8) (B:List Ah) (e:Aa) (h:(repS key e B).2=true) (b:B≠[]):engV e=true:=by
 cases B with
 | nil=>exact absurd rfl b
 | cons r B=>
   simp only[repS]at h;cases a:(openB key r.A r.c r.O).2&&(putR e (openB key r.A r.c r.O).1).2 with
   | false=>rw[a]at h;cases h
   | true=>rw[Ct]at a;exact (zjw a.2).1
theorem zvY {X:Type} (a b:List Ac) (x:X) (hl:a.length=b.length) (h:a.length<=1048576) {body:Int × X->Option (Ctl (Int × X) (Ctl Unit Bool))} (d:body=λ(A:Int × X)=>if (Dc (A.1<(a.length:Int)))=true then ((idx a A.1).bind λB=>
 (idx b A.1).bind λD=>
 if (!(Dc (B.j=D.j)&&(Dc (B.c=D.c)&&(Dc (B.P=D.P)&&(Dc (B.M=D.M)&&true)))))=true then (some (.done (.done false)))
 else (some (.go (I6.wrap (A.1+(1:Int)),A.2))))
 else (some (.done (.go ())))) (f:Unit->Option Bool):bindC (loopO body (0,x)) f=bif Dc (a=b) then f () else some false:=by
 have key: ∀(n k:Nat),k+n=a.length->bindC (loopO body ((k:Int),x)) f=bif Dc (a.drop k=b.drop k) then f () else some false:=by
  intro n;induction n with
  | zero=>
    intro k i;have:k=a.length:=by omega
    subst this;rw[zw,d,Dm,hl,Dm];simp
  | succ n ih=>
    intro k i;have e:k<a.length:=by omega
    have g:k<b.length:=by omega
    have E:(Dc (a[k].j=b[k].j)&&(Dc (a[k].c=b[k].c)&&(Dc (a[k].P=b[k].P)&&(Dc (a[k].M=b[k].M)&&true))))=Dc (a[k]=b[k]):=by generalize a[k]=y;generalize b[k]=z;obtain ⟨m,o,p,q⟩:=y;obtain ⟨s,t,u,v⟩:=z;simp
    have l:body ((k:Int),x)=some (if (Dc (a[k]=b[k]))=true then .go (((k+1:Nat):Int),x) else .done (.done false)):=by rw[d];simp only[zb a k e,zb b k g,An,E];rw[if_pos (by simp_all),za (n:=(k:Int)+1) (by omega) (by omega)];grind
    rw[zw,l,Bf e,Bf g];by_cases c:a[k]=b[k]
    ·grind
    ·rw[decide_eq_false c,decide_eq_false λh=>c (Fz h).1];rfl
 have:=key a.length 0 (by omega);trivial
def zpx (s:Ae) (t:Af) (hs:smallS s) (f:smallT t) (a:engV t.g=true) (j:0<=t.G/\t.G<=1000000):zhB s t=some (mineV s t):=by
 unfold zhB;obtain ⟨E,k,n,F⟩:=zkd a;have p:smallE (rep0 t):=⟨by simp[rep0],k,n,by simp[rep0]⟩;have hl:=zvw s t (keyOfV s.m t.q) hs.rows hs.text j rfl s.u.length 0 0 (rep0 t) (by omega) p (by omega);rw[Dx,zty]at hl;rw[zgc s.m t.q hs.slots,An];refine Eq.trans (congrArg (λo=>bindC o _) hl) ?_;have v:((Eg (s.u.filter λr=>decide (r.s=t.q)).length).all λi=>match (s.u.filter λr=>decide (r.s=t.q))[i]? with | some r=>decide (r.c=t.G+(0+1+(i:Int))) | none=>true)=seqsV t.G (rowsV s t.q):=rfl;have w:(s.u.filter λr=>decide (r.s=t.q))=rowsV s t.q:=rfl;rw[v,w];unfold mineV;cases y:(repS (keyOfV s.m t.q) (rep0 t) (rowsV s t.q)).2 with
 | false=>simp[bindC]
 | true=>
 cases H:seqsV t.G (rowsV s t.q) with
 | false=>simp[bindC]
 | true=>
 simp only[Et,cond_true,zd];have I:(rowsV s t.q).length<=1048576:=Ec (Fa _ _) hs.rows;by_cases M:(repS (keyOfV s.m t.q) (rep0 t) (rowsV s t.q)).1.x.length=t.g.x.length
 ·rw[decide_eq_true (by omega:(((repS (keyOfV s.m t.q) (rep0 t) (rowsV s t.q)).1.x.length:Nat):Int)=(t.g.x.length:Int))];simp only[By,Ba,if_false,An];by_cases b:t.g.t.length<=1
  ·rw[decide_eq_false (by omega: ¬(t.g.t.length:Int)>1),decide_eq_true b];simp only[Ba,if_false,Di];rw[zvY _ _ _ M (by have:=f.mem;omega) rfl];by_cases J:(repS (keyOfV s.m t.q) (rep0 t) (rowsV s t.q)).1.x=t.g.x
   ·rw[decide_eq_true J];simp only[cond_true];by_cases d:(rowsV s t.q).length<=6
    ·rw[decide_eq_true (by omega:(0:Int)+(((rowsV s t.q).length:Nat):Int)<=6),decide_eq_true d,if_pos rfl,za (by omega) (by omega),Int.zero_add];by_cases cs:t.G+(((rowsV s t.q).length:Nat):Int)=t.g.c
     ·have z:engV (rep0 t)=true:=by
       cases e:rowsV s t.q with
       | cons r N=>exact zuD _ _ _ y (by rw[e];simp)
       | nil=>
         rw[e]at J cs;have A:t.g.x= []:=J.symm;have C:t.G=t.g.c:=by simpa using cs
         have:=zgP a (l:=[]) (by simp) rfl;have D:rep0 t= {t.g with B:=[]}:=by unfold rep0;rw[C,<-A]
         rw[D];exact this
      rw[decide_eq_true cs,z];rfl
     ·rw[decide_eq_false cs];simp
    ·rw[decide_eq_false (by omega: ¬(0:Int)+(((rowsV s t.q).length:Nat):Int)<=6),decide_eq_false d];simp
   ·rw[decide_eq_false J];simp
  ·rw[decide_eq_true (by omega:(t.g.t.length:Int)>1),decide_eq_false b];simp
 ·rw[decide_eq_false (by omega: ¬(((repS (keyOfV s.m t.q) (rep0 t) (rowsV s t.q)).1.x.length:Nat):Int)=(t.g.x.length:Int)),decide_eq_false (λh=>M (congrArg Dn h): ¬(repS (keyOfV s.m t.q) (rep0 t) (rowsV s t.q)).1.x=t.g.x)];simp
def slotP (s:Ae) (i:Nat):Bool:=match s.a[i]?,s.m.D[i]?,s.C.r[i]? with
 | some t,some k,some h=>decide (t.q=k.s)&&(Dc (t.q=h.s)&&tenV s t)
 | _,_,_=>false
def zly (s:Ae) (i:Nat) (b:i<s.a.length) (c:i<s.m.D.length) (d:i<s.C.r.length):slotP s i=(Dc (s.a[i].q=s.m.D[i].s)&&(Dc (s.a[i].q=s.C.r[i].s)&&tenV s s.a[i])):=by unfold slotP;simp_all
def bodyS (s:Ae):Bool:=(Eg s.a.length).all (slotP s)&&s.u.all λr=>decide (0<=fstV (λt:Af=>decide (t.q=r.s)) s.a)
theorem zvM (s:Ae) (t:Af):tenV s t=((Dc (0<=t.J/\t.J<=1000000)&&Dc (0<=t.G/\t.G<=1000000))&&(engV t.g&&(Dc (t.g.B.length<=2)&&mineV s t))):=by unfold tenV mineV;grind
def storeV (s:Ae):Bool:=
 (Dc (s.F.length=32)&&(keysV s.m&&(sharesV s.C&&(Dc (0<=s.A/\s.A<=1000)&&(Dc (s.L.length<=120)&&(Dc (s.a.length=s.m.D.length)&&Dc (s.a.length=s.C.r.length)))))))&&bodyS s
theorem zq4 (s:Ae) (hs:smallS s) {body:Int->Option (Ctl Int (Ctl Unit Bool))} (g:Int->Option Int) (b: ∀id,g id=some (fstV (λt:Af=>decide (t.q=id)) s.a)) (c:body=λ(h:Int)=>if (Dc (h<(s.u.length:Int)))=true then ((idx s.u h).bind λA=>
 (g A.s).bind λB=>
 if (Dc (B<(0:Int)))=true then (some (.done (.done false)))
 else (some (.go (I6.wrap (h+(1:Int))))))
 else (some (.done (.go ())))):
  bindC (loopO body 0) (λ(_:Unit)=>some true)=some (s.u.all λr=>decide (0<=fstV (λt:Af=>decide (t.q=r.s)) s.a)):=by
 have e:=hs.rows;rw[passes (ρ:=Unit) s.u (λr=>decide (0<=fstV (λt:Af=>decide (t.q=r.s)) s.a)) body (λk d=>?_) (by simp_all)]
 ·cases s.u.all λr=>decide (0<=fstV (λt:Af=>decide (t.q=r.s)) s.a)<;>rfl
 ·rw[c];simp only[zb s.u k d,An,b];rw[if_pos (by simp_all),za (n:=(k:Int)+1) (by omega) (by omega)];grind
def lenI (a b:Nat):Dc (((a:Nat):Int)=((b:Nat):Int))=Dc (a=b):=decide_eq_decide.2 (by omega)
theorem histI (a:Nat):Dc (((a:Nat):Int)>(120:Int))= !Dc (a<=120):=by grind
theorem snapI (a:Nat):Dc (((a:Nat):Int)>(2:Int))= !Dc (a<=2):=by grind
end Go.Proofs.YtmenicbkddagmaaGreat
