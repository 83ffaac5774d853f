/-
  The plain laws: what the pure functions come to, and the statements. Conditions: none.
-/
import Derived.Test.YtbpngbeifojdeaaGreatQzb
set_option linter.unusedVariables false
set_option linter.unusedSimpArgs false
set_option linter.defProp false
open Option renaming bind->Bd0
open Decidable renaming decide->Dc
open Option renaming bind_some->Ih
open Bool renaming false_eq_true->Ii,not_true->In,not_false->Is,and_eq_true->Iu,true_and->Jm,false_or->Jx,and_self->Kv,or_self->La,eq_iff_iff->Li
open List renaming getElem_mem->Il,length_singleton->Ip,length_map->Iq,getElem_map->Ir,mem_filter->Iv,map_congr_left->Iy,mem_cons->Iz,drop_eq_getElem_cons->Ja,length_cons->Jc,eq_nil_of_length_eq_zero->Je,getElem_set_self->Jf,map_cons->Ji,drop_length->Jj,take_of_length_le->Jk,map_append->Jl,length_filter_le->Jo,set_getElem_self->Jp,append_nil->Js,mem_append->Jt,filter_eq_self->Jy,getElem_of_mem->Jz,pairwise_iff_getElem->Kd,getElem_drop->Kf,mem_of_find?_eq_some->Kh,getElem?_eq_getElem->Kj,mem_map->Km,length_nil->Kn,filter_map->Ko,take_append_drop->Kp,replicate->Kr,mem_map_of_mem->Ku,set_set->Kz,map_map->Lb,mem_flatMap->Lc,all_eq_true->Ld,foldl_cons->Lf,map_take->Lj,map_drop->Lk,map_set->Ll
open Int renaming toNat_natCast->Im,le_refl->Jr
open Nat renaming zero_le->Io,le_trans->Jh,le_refl->Kc,mul_le_mul->Kq,mul_le_mul_left->Ky
open Option.some renaming injEq->Iw
noncomputable section
namespace Go.Proofs.YtbpngbeifojdeaaGreat
open Go Sl
variable {s:Af} {k j n:Nat} {d:Ba} {R α:Type} {z:R} {t:Ar} {e:Aa} {key secret master:J3} {size q:Int} {l:List A5}
def zr1 (l:List A5):syncP (l.map markL):=List.pairwise_map.2 (Kd.2 λi j hi a b _=>rfl)
def zzy (h:syncP l) (r:A5) (c:r.W=false):syncP (l++ [r]):=by refine List.pairwise_append.2 ⟨h,List.pairwise_singleton _ _,λa d b e f=>?_⟩;simp_all
def znM (h:syncP l) (id:Int):syncP (noLR id l):=List.Pairwise.filter _ h
def zxY (hs:syncP s.x) (i:Int):syncP (roomS s i).x:=by
 unfold roomS;cases Dc (6<=(ofLR (tenE s.a i).j s.x).length) with
 | true=>exact znM hs _
 | false=>exact hs
def zwA (hs:syncP s.x) (i:Int) (ops:List Op):syncP (writeS s i ops).1.x:=by
 unfold writeS;cases Dc (120<=s.P.length) with
 | true=>exact hs
 | false=>
 cases batchV ops with
 | false=>exact hs
 | true=>
 cases Dc ((bytesN (applyK (mapR (tenE s.a i).m (tenE s.a i).m.c) ops):Int)>quoV (-1) s.s (tenE s.a i).j) with
 | true=>exact hs
 | false=>
 cases okB (tenE (roomS s i).a i).m ops&& !Dc (sealB (keyOfV s.A (tenE s.a i).j) s.H ((tenE s.a i).m.c+1) ops= []) with
 | false=>exact hs
 | true=>exact zzy (zxY hs i) _ rfl
def zzA (hs:syncP s.x) (i:Int) (c:At):syncP (tenS s i c).1.x:=by
 unfold tenS;cases Dc (c.B=5) with
 | true=>exact zwA hs i _
 | false=>
 cases Dc (c.B=6) with
 | true=>exact hs
 | false=>
 cases Dc (c.B=7) with
 | true=>exact hs
 | false=>
 cases Dc (c.B=8) with
 | true=>unfold snapS;cases Dc ((tenE s.a i).m.c∈(tenE s.a i).m.u)<;>cases Dc (2<=(tenE s.a i).m.u.length)<;>exact hs
 | false=>
 cases Dc (c.B=11) with
 | true=>exact hs
 | false=>unfold heldS;cases Dc (c.N∈(tenE s.a i).m.u)<;>cases Dc (c.B=10)<;>exact hs
theorem zzZ (hs:syncP s.x) (c:At):syncP (doS s c).1.x:=by
 unfold doS;cases Dc (c.B=1) with
 | true=>unfold createS;grind
 | false=>
 cases Dc (c.B=12) with
 | true=>exact zr1 _
 | false=>
 cases Dc (c.B=14) with
 | true=>
   unfold crashS;cases Dc (1000<=s.H) with
   | true=>exact hs
   | false=>obtain ⟨k,b⟩:=zit s.x c.N hs;rw[b];exact zr1 _
 | false=>
 cases Dc (2<=c.B/\c.B<=4)||decide (c.B=13) with
 | true=>
   unfold ownS;cases Dc (atE s.a c.r<0) with
   | true=>exact hs
   | false=>
   cases Dc (c.B=2) with
   | true=>unfold quotaS;grind
   | false=>
   cases Dc (c.B=3) with
   | true=>
     unfold removeS;cases Dc (1000<=s.H)||decide (1000000<=s.A.L) with
     | true=>exact hs
     | false=>exact znM hs _
   | false=>
   cases Dc (c.B=4) with
   | true=>unfold rotateS;cases Dc ((tenE s.a (atE s.a c.r)).I>=1000000)<;>exact hs
   | false=>exact znM hs _
 | false=>
 cases Dc (5<=c.B/\c.B<=11) with
 | false=>exact hs
 | true=>
   unfold callS;cases !(tokR s.E c.U).2.2||(Dc (atE s.a (tokR s.E c.U).1<0)|| !Dc ((tenE s.a (atE s.a (tokR s.E c.U).1)).I=(tokR s.E c.U).2.1)) with
   | true=>exact hs
   | false=>exact zzA hs _ c
theorem zpN (d:Ba) (h:d.J.length<=1048576):zdU d=some d:=by unfold zdU zgm;rw[ze (by grind) (by grind)];rfl
theorem zoP (d:Ba) (h:d.J.length<=1048576):zfK d=some d:=by unfold zfK;rw[ze (by grind) (by grind)];rfl
def zzq {id:Int} (a: ∀x∈d.J,¬x.r=id):fstV (λx:Bb=>decide (x.r=id)) d.J= -1:=by
 rcases zfB (λx:Bb=>decide (x.r=id)) d.J with ⟨j,b,_,e,_⟩ | ⟨e,_⟩
 ·simp_all
 ·exact e
theorem zsi {id:Int} (b:keysV d=true) (c: ∀x∈d.J,¬x.r=id) (e:keysV (addKS d id key)=true):zjm d id key=some (addKS d id key,true):=by
 have g:=((zbK d).1 b).2.1;have f:placeK d.J id<=d.J.length:=(zgt _ _).1;have a:zdf (addKS d id key)=some true:=by rw[zkf,zr6,<-zsx,e]
 unfold zjm;rw[zkf,zhI d (by omega),b,zi6 d id (by omega),zpN d (by omega),zzq c];simp only[Ih,In,Ii,iF];rw[iN (by decide),znP (R:=Ba × Bool) (λx:Bb=>decide (x.r<id)) d.J (by omega) (λk a=>?_) (by simp)]
 ·simp only[zd];unfold zfP ins;rw[iP ⟨by omega,by exact_mod_cast f,by grind,by grind⟩,Im];show (zdf (addKS d id key)).bind _=_;rw[a];rfl
 ·simp only[zb d.J k a,Ih];simp_all
theorem zAo (q:α->Bool) (x:α) (by_:Nat) (o:by_<=100) (l:List α) (hl:l.length<=1048576) {body:Bool × Int × List α->Option (Ctl (Bool × Int × List α) (Ctl (Bool × List α) R))} {f:Bool × List α->Option R} (s:body=λ(G:Bool × Int × List α)=>if Dc (G.2.1<(l.length:Int)) then ((if !G.1 then ((idx l G.2.1).bind λJ=>
 some (q J))
 else (some false)).bind (λ(V:Bool)=>bindC (if V=true then Bd0 (app by_ G.2.2 ([x])) λM=>some (.go (true,M))else some (.go (G.1,G.2.2))) (λ(I:Bool × List α)=>Bd0 (idx l G.2.1) λO=>Bd0 (app by_ I.2 ([O])) λU=>some (.go (I.1,J8 (G.2.1+1),U)))))
 else (some (.done (.go (G.1,G.2.2))))) (t:(l.takeWhile λy=>!q y).length=l.length->f (false,l)=some z) (u:f (true,l.take (l.takeWhile λy=>!q y).length++(x::l.drop (l.takeWhile λy=>!q y).length))=some z):bindC (loopO body (false,(0:Int),([]:List α))) f=some z:=by
 obtain ⟨v,t2,w⟩:=zgt (λy=>!q y) l;generalize (l.takeWhile λy=>!q y).length=a at v t2 w t u;have W: ∀(F:List α) (y:α),F.length<=1048578->app by_ F [y]=some (F++ [y]):=λF y h=>ze (by have:(F.length+([y]:List α).length)*by_<=1048579*100:=Kq (by simp_all) o;omega) (by grind);refine zt (λk (S:Bool × Int × List α)=>S.2.1=(k:Int)/\((k<=a/\S.1=false/\S.2.2=l.take k)\/(a<k/\S.1=true/\S.2.2=l.take a++(x::(l.drop a).take (k - a))))) l.length
  (λr=>∃p F,r= .go (p,F)/\((p=false/\F=l/\a=l.length)\/(p=true/\F=l.take a++(x::l.drop a)))) ⟨rfl,.inl ⟨Io _,rfl,by simp⟩⟩ ?_ ?_ ?_
 ·rintro k ⟨p,i,F⟩ c ⟨d,b⟩;subst d;left;have e:J8 ((k:Int)+1)=((k+1:Nat):Int):=by rw[za];omega
  have A:(Dc ((k:Int)<(l.length:Int)))=true:=by simp_all
  have E:(l.drop a).take (k+1 - a)=(l.drop a).take (k - a)++(if a<=k then [l[k]] else []):=by
   by_cases B:a<=k
   ·rw[iP B,show k+1 - a=(k - a)+1 by omega,zQ _ _ (by grind),Kf];simp_all
   ·grind
  rw[s];simp only[A,iT];rcases b with ⟨g,rfl,rfl⟩ | ⟨g,rfl,rfl⟩
  ·have C:(l.take k).length<=1048576:=by grind
   simp only[Is,iT,zb l k c,Ih];by_cases D:k=a
   ·subst D;have j:q l[k]=true:=by simp_all
    refine ⟨(true,((k+1:Nat):Int),(l.take k++ [x])++ [l[k]]),?_,rfl,.inr ⟨by simp,rfl,?_⟩⟩
    ·rw[j];simp only[iT,W _ _ (show (l.take k).length<=1048578 by omega),Ih,zd,e];grind
    ·simp_all
   ·have j:q l[k]=false:=by grind
    refine ⟨(false,((k+1:Nat):Int),l.take k++ [l[k]]),?_,rfl,.inl ⟨by omega,rfl,(zQ l k c).symm⟩⟩;rw[j];simp only[Ii,iF,W _ _ (show (l.take k).length<=1048578 by omega),Ih,zd,e]
  ·have C:(l.take a++(x::(l.drop a).take (k - a))).length<=1048577:=by grind
   refine ⟨(true,((k+1:Nat):Int),(l.take a++(x::(l.drop a).take (k - a)))++ [l[k]]),?_,rfl,.inr ⟨by omega,rfl,?_⟩⟩
   ·simp only[In,Ii,iF,Ih,zd,zb l k c,W _ _ (show (l.take a++(x::(l.drop a).take (k - a))).length<=1048578 by omega),e]
   ·grind
 ·rintro ⟨p,i,F⟩ ⟨d,b⟩;simp only at d b;refine ⟨.go (p,F),by simp_all,p,F,rfl,?_⟩;rcases b with ⟨g,m,n⟩ | ⟨g,m,n⟩
  ·grind
  ·exact .inr ⟨m,by rw[n,Jk (l:=l.drop a) (by simp)]⟩
 ·rintro _ ⟨p,F,rfl,⟨rfl,rfl,h⟩ | ⟨rfl,rfl⟩⟩
  ·simp_all
  ·trivial
theorem zsM {id:Int} (a:keysV d=true) (c:keysV (addKS d id key)=true):zjt d id key=some (addKS d id key,true):=by
 have g:=((zbK d).1 a).2.1;have f:zbq (addKS d id key)=some true:=by rw[zr6,<-zsx,c]
 have b:(d.J.takeWhile λy=>!Dc (y.r>=id)).length=placeK d.J id:=by unfold placeK;grind
 unfold zjt;rw[zhI d (by omega),a,zoP d (by omega)];refine zAo (λy:Bb=>decide (y.r>=id)) (⟨id,key⟩:Bb) 24 (by omega) d.J (by omega) rfl (λh=>?_) ?_
 ·rw[b]at h;rw[ze (by grind) (by grind)];have e:(⟨d.S,d.J++ [⟨id,key⟩],d.L⟩:Ba)=addKS d id key:=by unfold addKS;simp_all
  simp_all
 ·rw[b];show (zbq (addKS d id key)).bind _=_;rw[f];rfl
theorem zBp (a:keysV d=true) {id:Int} (b:j<d.J.length) (h:d.J[j].r=id):(d.J.filter λx=>!Dc (x.r=id))=d.J.take j++d.J.drop (j+1):=by have c:=Kd.1 ((zbK d).1 a).2.2.2.2;refine zkj d.J _ j b (by simp[h]) λi hi e=>?_;grind
theorem zq3 {id:Int} (a:keysV d=true) (g: ∃x∈d.J,x.r=id) (h:d.L<1000000):zic d id=some (wipeKS d id,true):=by
 obtain ⟨_,i,k,_,_⟩:=(zbK d).1 a;unfold zic;rw[zkf,zhI d (by omega),a,zi6 d id (by omega),zpN d (by omega)];rcases zfB (λx:Bb=>decide (x.r=id)) d.J with ⟨j,c,e,b,_⟩ | ⟨_,b⟩
 ·rw[e];simp only[Ih,In,Ii,iF];rw[iN (by simp)];simp only[Ih];rw[dF,iN (by simp)];unfold zfO;have f:J8 ((j:Int)+1)=((j+1:Nat):Int):=by rw[za];omega
  rw[f,zT d.J j (j+1) _ _ rfl rfl (by omega) (by omega),zT d.J 0 j 0 (j:Int) rfl rfl (by omega) (by omega),zT d.J (j+1) d.J.length _ _ rfl rfl (by omega) (by omega),za (n:=d.L+1)];rw[iN (by grind)];unfold wipeKS;rw[zBp a c (of_decide_eq_true b)];have l:(d.J.drop (j+1)).take (d.J.length - (j+1))=d.J.drop (j+1):=Jk (by simp);simp_all
 ·grind
theorem ztW (p:α->Bool) (by_:Nat) (b:by_<=100) (l:List α) (hl:l.length<=1048576) {body:Int × List α->Option (Ctl (Int × List α) (Ctl (List α) R))} {f:List α->Option R} (h: ∀k (a:k<l.length) (A:List α),app by_ A [l[k]]=some (A++ [l[k]])->body ((k:Int),A)=some (.go (J8 ((k:Int)+1),if p l[k]=true then A++ [l[k]] else A))) (c: ∀A,body ((l.length:Int),A)=some (.done (.go A))) (d:f (l.filter p)=some z):bindC (loopO body ((0:Int),([]:List α))) f=some z:=by
 refine zt (λk (S:Int × List α)=>S=((k:Int),(l.take k).filter p)) l.length (λr=>r= .go (l.filter p)) rfl ?_ ?_ (λr e=>by simp_all)
 ·rintro k _ a rfl;left;refine ⟨_,h k a _ (ze ?_ ?_),?_⟩
  ·have:(((l.take k).filter p).length+([l[k]]:List α).length)*by_<=1048579*100:=Kq (by grind) b;omega
  ·grind
  ·rw[za (n:=(k:Int)+1),zcE p l k a];grind
 ·simp_all
theorem zrI {id:Int} (a:keysV d=true) (c: ∃x∈d.J,x.r=id) (e:d.L<1000000):ziJ d id=some (wipeKS d id,true):=by
 obtain ⟨_,f,g,_,_⟩:=(zbK d).1 a;unfold ziJ;rw[zhI d (by omega),a,zoP d (by omega)];refine ztW (λx:Bb=>!Dc (x.r=id)) 24 (by omega) d.J (by omega) (λk b A h=>?_) (λA=>by simp) ?_
 ·simp only[zb d.J k b,Ih];rw[iP];cases Dc (d.J[k].r=id) with
  | true=>rfl
  | false=>simp_all
 ·have i:(d.J.filter λx=>!Dc (x.r=id)).length<d.J.length:=by simp_all
  rw[iN (by grind)];simp only[Ih];rw[dF,iN (by simp),za (n:=d.L+1)];rfl
def zl2 (l:List A5) (id:Int) (hl:l.length<=1048576):ziU l id=some (noLR id l):=by
 refine ztW (λx:A5=>!Dc (x.r=id)) 48 (by omega) l hl (λk a h b=>?_) (λh=>by simp) rfl;simp only[zb l k a,Ih];rw[iP];cases Dc (l[k].r=id) with
 | true=>rfl
 | false=>simp_all
theorem zzW (p:α->Bool) (l:List α) (hl:l.length<=1048576) (a:Nat) (u:a<l.length) (v:p l[a]=true) (F: ∀i (hi:i<a),p (l[i]'(by omega))=false) {g:α->Option Bool} (w: ∀x,g x=some (p x)) {body:Int × Int × List α->Option (Ctl (Int × Int × List α) (Ctl (Int × List α) R))} {f:Int × List α->Option R} (y:body=λ(I:Int × Int × List α)=>if Dc (I.2.1<(I.2.2.length:Int)) then ((idx I.2.2 I.2.1).bind λJ=>
 (g J).bind λO=>
 bindC (if !O then ((idx I.2.2 I.1).bind λU=>
 some (.go (J8 (I.1+1),(I.2.2.set I.1.toNat J))))
 else (some (.go (I.1,I.2.2))))
 (λ(M:Int × List α)=>some (.go (M.1,J8 (I.2.1+1),M.2))))
 else (some (.done (.go (I.1,I.2.2))))) (G: ∀(i:Nat) ls,ls.length=l.length->i<=l.length->ls.take i=(l.filter λx=>!p x)->f ((i:Int),ls)=some z):bindC (loopO body ((a:Int),J8 ((a:Int)+1),l)) f=some z:=by
 refine zt (λk (S:Int × Int × List α)=>∃i:Nat,S.1=(i:Int)/\S.2.1=((a+1+k:Nat):Int)/\i<a+1+k/\(S.2.2.length=l.length/\∀q (b:q<l.length),a+1+k<=q->S.2.2[q]? =some l[q])/\S.2.2.take i=((l.take (a+1+k)).filter λx=>!p x)) (l.length - (a+1))
  (λr=>∃i ls,r= .go (((i:Nat):Int),ls)/\ls.length=l.length/\i<=l.length/\ls.take i=(l.filter λx=>!p x)) ?_ ?_ ?_ ?_
 ·refine ⟨a,rfl,by simp only;rw[za];omega,by omega,⟨rfl,λq b _=>by simp⟩,?_⟩;rw[Nat.add_zero,zcE _ l a u,v];simp only[In,Ii,iF,Js];rw[Jy.2];intro x A;obtain ⟨i,hi,rfl⟩:=Jz A;grind
 ·rintro k ⟨B,C,ls⟩ H ⟨i,d,e,o,⟨j,m⟩,c⟩;simp only at d e o j m c;subst d e;left;have s:a+1+k<l.length:=by omega
  have D:idx ls ((a+1+k:Nat):Int)=some l[a+1+k]:=by rw[zb ls _ (by omega)];simp_all
  rw[y];simp only[D,Ih,w];rw[iP (dT),za (n:=((a+1+k:Nat):Int)+1),show ((a+1+k:Nat):Int)+1=((a+1+(k+1):Nat):Int) by omega];have E:i<ls.length:=by omega
  cases t:p l[a+1+k] with
  | true=>refine ⟨_,rfl,i,rfl,rfl,by omega,⟨j,λq b h=>m q b (by omega)⟩,?_⟩;rw[c,show a+1+(k+1)=(a+1+k)+1 by omega,zcE _ l (a+1+k) s,t];simp
  | false=>
    simp only[Is,iT,Im,zb ls i E,Ih,zd];rw[za (n:=(i:Int)+1)];refine ⟨_,rfl,i+1,by simp,rfl,by omega,⟨by simp_all,λq b h=>?_⟩,?_⟩
    ·rw[List.getElem?_set_ne (by omega)];grind
    ·rw[zQ _ i (by simp_all),Jf,List.take_set_of_le (Kc _),c,show a+1+(k+1)=(a+1+k)+1 by omega,zcE _ l (a+1+k) s,t];rfl
 ·rintro ⟨B,C,ls⟩ ⟨i,d,e,o,⟨j,m⟩,c⟩;have V:a+1+(l.length - (a+1))=l.length:=by omega
  grind
 ·simp_all
theorem zxv (l:List A5) (id:Int) (hl:l.length<=1048576):zL l id=some (noLR id l):=by
 have hi:zN l id=some (fstV (λt=>decide (t.r=id)) l):=by unfold zN fstV;rw[zcR (λt:A5=>decide (t.r=id)) l (by omega) (λj=>j) rfl (λk b=>?_) (by simp)];simp only[zb l k b,Ih,zcj];rw[iP,za];grind
 unfold zL;rw[hi,Ih];rcases zfB (λt:A5=>decide (t.r=id)) l with ⟨j,c,e,a,d⟩ | ⟨e,a⟩
 ·rw[e,dF,iN (by simp)];refine zzW (λt:A5=>decide (t.r=id)) l hl j c a d (g:=λx=>zcj x id) (λx=>rfl) rfl λi ls h m f=>?_;rw[zT ls i ls.length _ _ rfl rfl (by omega) (by omega),zT ls 0 i 0 (i:Int) rfl rfl (by omega) (by omega)];simp only[Ih,List.drop_zero,Nat.sub_zero];rw[f];rfl
 ·rw[e];simp only[decide_true,iT];unfold noLR;rw[Jy.2 λx n=>by simp_all]
def zkT (s:Af) (id:Int) (hl:s.x.length<=1048576):zb4 s id=some ⟨s.E,s.A,s.s,s.a,noLR id s.x,s.P,s.H⟩:=by unfold zb4;rw[zxv s.x id hl];rfl
theorem zyz (l:List Ar) (id:Int) (hl:l.length<=1048576):zR l id=some (noTE id l):=by
 have hi:zU l id=some (fstV (λt=>decide (t.j=id)) l):=by unfold zU fstV;rw[zcR (λt:Ar=>decide (t.j=id)) l (by omega) (λj=>j) rfl (λk b=>?_) (by simp)];simp only[zb l k b,Ih,zcQ];rw[iP,za];grind
 unfold zR;rw[hi,Ih];rcases zfB (λt:Ar=>decide (t.j=id)) l with ⟨j,c,e,a,d⟩ | ⟨e,a⟩
 ·rw[e,dF,iN (by simp)];exact zp8 (λt:Ar=>decide (t.j=id)) l (by omega) j c a d (g:=λx=>zcQ x id) (λx=>rfl) rfl λi ls f h m=>zse l _ i ls f h m
 ·rw[e];simp only[decide_true,iT];unfold noTE;rw[Jy.2 λx n=>by simp_all]
theorem ztO (key:J3): ∀(A:List A5) (e:Aa),(repS key e A).2=true->∀r∈A,r.O.length<=300
 | [],_,_,r,a=>by trivial
 | q::A,e,h,r,a=>by
   simp only[repS]at h;cases b:(openB key q.H q.c q.O).2&&(putR e (openB key q.H q.c q.O).1).2 with
   | false=>rw[b]at h;cases h
   | true=>
     rw[b]at h;rcases Iz.1 a with rfl | a
     ·have d:=(Iu _ _ ▸ b:_/\_).1;unfold openB at d;grind
     ·exact ztO key A _ h r a
theorem zwY: ∀(ids:List Int) (l:List A5),(∀r∈l,r.r∈ids)->(∀id∈ids,(ofLR id l).length<=6)->l.length<=6*ids.length
 | [],l,h,_=>by
   cases l with
   | nil=>simp
   | cons r l=>have:=h r (by simp);cases this
 | id::ids,l,h,c=>by
   have d:=c id (by simp);have g:l.length=(ofLR id l).length+(noLR id l).length:=by
    unfold ofLR noLR;clear h c d;induction l with
    | nil=>rfl
    | cons r l ih=>grind
   have i:=zwY ids (noLR id l) (λr f=>by
    obtain ⟨a,b⟩:=Iv.1 f;rcases Iz.1 (h r a) with e | e
    ·simp_all
    ·exact e) λk j=>Jh (by
     have:(ofLR k (noLR id l)).Sublist (ofLR k l):=List.filter_sublist.filter _;grind) (c k (by simp_all))
   grind
theorem storeP.rlen (h:storeP s):s.x.length<=24:=by
 have f:=zwY (s.a.map Ar.j) s.x (λr c=>by obtain ⟨t,b,e⟩:=h.rows r c;rw[<-e];exact Ku b) λid d=>by obtain ⟨t,b,rfl⟩:=Km.1 d;exact (h.tens t b).few
 have:=h.lens;grind
def tenP.small {rows:List A5} (h:tenP key rows t):smallT t:=by obtain ⟨a,b,c,d,_⟩:=zce h.eng;exact ⟨a,b,c,d⟩
def storeP.small {s:Af} (h:storeP s):smallS s:=by obtain ⟨c,d,f⟩:=h.lens;have g:=h.rlen;have i:=h.hist;refine ⟨λt a=>(h.tens t a).small,by omega,λr b=>?_,by omega,by omega,by omega,by omega⟩;obtain ⟨t,a,e⟩:=h.rows r b;have:=ztO _ _ _ (h.tens t a).runs r (Iv.2 ⟨b,dT e.symm⟩);omega
theorem zuS (l:List Ar) (hl:l.length<=1048576) (h:Ar->Ar) {body:Int × List Ar->Option (Ctl (Int × List Ar) (Ctl (List Ar) R))} {f:List Ar->Option R} (b: ∀k (a:k<l.length) A,body ((k:Int),A)=(app 104 A [h l[k]]).bind λE=>some (.go (J8 ((k:Int)+1),E))) (c: ∀A,body ((l.length:Int),A)=some (.done (.go A))) (d:f (l.map h)=some z):
 bindC (loopO body ((0:Int),([]:List Ar))) f=some z:=by
 obtain ⟨r,e,rfl⟩:=z7 (body:=body) (s0:=((0:Int),([]:List Ar))) (λk (S:Int × List Ar)=>S=((k:Int),(l.take k).map h)) l.length (λr=>r= .go (l.map h)) rfl (by
  rintro k _ a rfl;left;refine ⟨_,?_,rfl⟩;rw[b k a,ze (by grind) (by grind),za (n:=(k:Int)+1),zQ l k a,Jl];rfl) (by
  simp_all)
 simp_all
structure boundS (s:Af):Prop where
 slots:s.A.J.length<=5
 shares:s.s.t.length<=5
 tens:s.a.length<=5
 each: ∀t∈s.a,engV t.m=true
 rows:s.x.length<=25
 hist:s.P.length<=121
def storeP.bound (h:storeP s):boundS s:=by obtain ⟨b,c,d⟩:=h.lens;have e:=h.rlen;have f:=h.hist;exact ⟨by omega,by omega,by omega,λt a=>(h.tens t a).eng,by omega,by omega⟩
theorem zsW (h:boundS s):ze6 s=some s:=by have g:=h.slots;have i:=h.shares;have j:=h.tens;have l:=h.rows;have m:=h.hist;unfold ze6;rw[zoP _ (by omega),zf3 _ (by omega),ze (by grind) (by grind),ze (by simp only[Kn];omega) (by simp only[Kn];omega)];refine zuS s.a (by omega) id (λk f A=>?_) (λA=>by simp) (by simp);obtain ⟨a,b,c,d,e⟩:=zce (h.each _ (Il f));simp only[zb s.a k f,Ih,zcy _ a b e d];simp_all
def zl0 (h:storeP s):ze6 s=some s:=zsW h.bound
theorem zyD (l:List Ar) (j:Nat) (d:j<l.length) (h:l[j].m.D.length<=1048576): ∃b,zcI l (j:Int)=some (b,l.set j ⟨l[j].j,l[j].I,l[j].F,(flushS l[j].m).2⟩):=by
 have a:=znV l[j].m h;unfold zgx at a;unfold zcI;rw[zb l j d];simp only[Ih,Im];cases c:(if Dc (((l[j].m.G.length:Nat):Int)=0) then (some true) else (some (Dc (((l[j].m.D.length:Nat):Int)>=6)))) with
 | none=>rw[c]at a;cases a
 | some T=>
   rw[c]at a;simp only[Ih]at a |-
   cases T with
   | true=>
     simp only[iT,Iw]at a |-
     refine ⟨false,?_⟩;rw[<-a];show (false,l)=(false,l.set j l[j]);simp
   | false=>
     cases e:zbE l[j].m.D (0:Int) ([l[j].m.G]) with
     | none=>rw[e]at a;cases a
     | some R=>exact ⟨true,by grind⟩
theorem zyE (e:Ar) (h:e.m.D.length<=1048576): ∃b,zcJ e=some (b,⟨e.j,e.I,e.F,(flushS e.m).2⟩):=by
 have a:=znV e.m h;unfold zgx at a;unfold zcJ;cases c:(if Dc ((e.m.G.length:Int)=0) then (some true) else (some (Dc ((e.m.D.length:Int)>=6)))) with
 | none=>rw[c]at a;cases a
 | some T=>
   rw[c]at a;simp only[Ih]at a |-
   cases T with
   | true=>
     simp only[iT,Iw]at a |-
     refine ⟨false,?_⟩;rw[<-a]
   | false=>
     cases d:zbE e.m.D 0 ([e.m.G]) with
     | none=>rw[d]at a;cases a
     | some R=>exact ⟨true,by grind⟩
theorem zyW (l:List Ar) (j:Nat) (g:j<l.length) (h:engV l[j].m=true): ∃b,zcK l (j:Int)=some (b,l.set j ⟨l[j].j,l[j].I,l[j].F,(mergeS l[j].m).2⟩):=by
 have a:=zj3 h;unfold zgy at a;unfold zcK;rw[zb l j g];simp only[Ih,Im];cases c:Dc (((l[j].m.D.length:Nat):Int)=0) with
 | true=>
   rw[c]at a;simp only[iT,Iw]at a |-
   refine ⟨false,?_⟩;rw[<-a];show (false,l)=(false,l.set j l[j]);simp
 | false=>
   rw[c]at a;cases d:zco l[j].m.D with
   | none=>rw[d]at a;cases a
   | some R=>
     rw[d]at a;simp only[Ih]at a |-
     cases e:zck R l[j].m.u true with
     | none=>rw[e]at a;cases a
     | some C=>
       rw[e]at a;simp only[Ih]at a |-
       cases f:Dc ((C.length:Int)>0) with
       | true=>
         rw[f]at a;simp only[iT,zd,Iw]at a |-
         exact ⟨true,by grind⟩
       | false=>
         rw[f]at a;simp only[Ii,iF,zd,Iw]at a |-
         exact ⟨true,by grind⟩
theorem zyY (e:Ar) (h:engV e.m=true): ∃b,zcL e=some (b,⟨e.j,e.I,e.F,(mergeS e.m).2⟩):=by
 have a:=zj3 h;unfold zgy at a;unfold zcL;cases c:Dc ((e.m.D.length:Int)=0) with
 | true=>
   rw[c]at a;simp only[iT,Iw]at a |-
   exact ⟨false,by rw[<-a]⟩
 | false=>
   rw[c]at a;cases d:zco e.m.D with
   | none=>rw[d]at a;cases a
   | some R=>
     rw[d]at a;simp only[Ih]at a |-
     cases f:zck R e.m.u true with
     | none=>rw[f]at a;cases a
     | some C=>
       rw[f]at a;simp only[Ih]at a |-
       cases g:Dc ((C.length:Int)>0) with
       | true=>
         rw[g]at a;simp only[iT,zd,Iw]at a |-
         exact ⟨true,by grind⟩
       | false=>
         rw[g]at a;simp only[Ii,iF,zd,Iw]at a |-
         exact ⟨true,by grind⟩
theorem zqX (e:Ar) (l:List Op) (b:engV e.m=true) (h:batchV l=true):zct e l=some (okB e.m l,⟨e.j,e.I,e.F,engB e.m l⟩):=by
 obtain ⟨t,u,v,w,y,_⟩:=zJ b;obtain ⟨d,f,z⟩:=zf6 b h;have i:J8 (e.m.c+1)=e.m.c+1:=za;obtain ⟨A,B,C,E⟩:=zea l (e.m.c+1) e.m.G d f (by omega) l.length (Kc _);unfold zct;simp only[i];rw[zo (λk=>(true,(k:Int),memB l (e.m.c+1) e.m.G k)) l.length (r:=Ctl.go (true,memB l (e.m.c+1) e.m.G l.length)) ?h0]
 case h0=>rfl
 ·simp only[zd,iT,zlM e.m.D (by omega) (by omega),Ih];rw[za];unfold okB engB;have H:Dc ((totalV e.m.D:Int)+(((memB l (e.m.c+1) e.m.G l.length).length:Nat):Int)<=400)=Dc (totalV e.m.D+(memB l (e.m.c+1) e.m.G l.length).length<=400):=decide_eq_decide.2 (by omega);grind
 ·intro k a;have o:piece l (J8 ((k:Int)+1)) (l.length:Int)=some (l.drop (k+1)):=by rw[za,zT l (k+1) l.length _ _ (by omega) rfl (by omega) (Kc _),Jk (by simp)]
  simp only[zb l k a,Ih,o,znS _ l[k] (by simp;omega:(l.drop (k+1)).length<=1048576)];rw[iP (by simpa using a),za (n:=(k:Int)+1)];have p:((l.drop (k+1)).any λx=>decide (x.q=l[k].q))=laterV l k l[k].q:=rfl;rw[p];cases g:laterV l k l[k].q with
  | true=>rw[zgH l _ _ k a g];rfl
  | false=>have s:=(zoT l (e.m.c+1) e.m.G d f (by omega) k a g).1;unfold entO at s;simp_all
 ·simp
def zwB (l:List Ar) (j:Nat) (a:j<l.length) (h:engV l[j].m=true):zcf l (j:Int)=some (allR l[j].m):=by have b:=zq2 h;unfold zcf;rw[zb l j a];trivial
def zoR (l:List Ar) (j:Nat) (d:j<l.length) (h:engV l[j].m=true):zb5 l (j:Int)=some (mapR l[j].m l[j].m.c):=by obtain ⟨a,b⟩:=zfd h;unfold zb5 mapR;rw[zb l j d,zwB l j d h,h];simp only[Ih,zrd _ l[j].m.c a (by omega),cT]
def zzE (l:List Ar) (j:Nat) (c:j<l.length) (h:engV l[j].m=true) (key:J3) (seq:Int):zcM l (j:Int) key seq=some (getR l[j].m key seq):=by obtain ⟨a,b⟩:=zfd h;unfold zcM getR;rw[zb l j c,zwB l j c h,h];simp only[Ih,zwg _ key seq (by omega:(allR l[j].m).length<=1048576),cT];exact zxj _
theorem zt6 (l:List Ar) (j:Nat) (a:j<l.length) (h:engV l[j].m=true) (key:J3) (seq:Int):zbJ l (j:Int) key seq=some (valR l[j].m key seq):=by unfold zbJ valR;rw[zb l j a,zzE l j a h];simp only[Ih,no_R];grind
theorem zmY (h:engV e=true) (key:J3) (seq:Int):zhj e key seq=some (valR e key seq):=by obtain ⟨a,b,c,d,_⟩:=zce h;unfold zhj valR;rw[zsK e key seq a b c d];simp only[Ih,zcZ];grind
def zjK (h:storeP s) (id:Int):zb9 s id=some (atE s.a id):=zqm s id h.small.tens
def zsy (h:storeP s) (id:Int):zei s.a id=some (atE s.a id):=zn2 s.a id h.small.tens
def zoe (h:storeP s) (j:Nat) (b:j<s.a.length) (id:Int) (e:s.a[j].j=id) (f:atE s.a id=(j:Int)):zfk s id=some (codeR 0,flushO s (j:Int)):=by
 subst e;have A:=h.tens _ (Il b);have l:=h.small.rows;obtain ⟨n,g⟩:=zyD s.a j b (by have:=A.tabs;omega);unfold zfk;rw[zjK h,f,Ih,zb _ j b,Ih,g];simp only[Ih];have c:j<(s.a.set j ⟨s.a[j].j,s.a[j].I,s.a[j].F,(flushS s.a[j].m).2⟩).length:=by simp_all
 have d:(s.a.set j ⟨s.a[j].j,s.a[j].I,s.a[j].F,(flushS s.a[j].m).2⟩)[j]=⟨s.a[j].j,s.a[j].I,s.a[j].F,(flushS s.a[j].m).2⟩:=Jf _;obtain ⟨o,i⟩:=zyW _ j c (by rw[d];exact zfb A.eng);rw[zb _ j c,Ih,i,d,Kz];simp only[Ih];have k:j<(s.a.set j ⟨s.a[j].j,s.a[j].I,s.a[j].F,(mergeS (flushS s.a[j].m).2).2⟩).length:=by simp_all
 rw[zb _ j k,Jf];rw[zkT]
 ·simp only[Ih,Im,Kz];unfold flushO;rw[zg _ j b,Im];rfl
 ·trivial
def zlk (h:storeP s) (j:Nat) (e:j<s.a.length):zfz s (j:Int)=some (flushO s (j:Int)):=by
 have A:=h.tens _ (Il e);obtain ⟨a,b,c,d,_⟩:=zce A.eng;obtain ⟨f,g,i,k,_⟩:=zce (zfb A.eng);have l:(flushR s.a[j].m).1=(flushS s.a[j].m).2:=by unfold flushR;rw[A.eng];rfl
 have n:(mergeER (flushS s.a[j].m).2).1=flatE s.a[j].m:=by unfold mergeER;rw[zfb A.eng];rfl
 unfold zfz;rw[zb _ j e,Ih,zqA _ a b c d,Ih,l,zqB _ f g i k,Ih,n,zl2 _ _ h.small.rows];unfold flushO;rw[zg _ j e];rfl
theorem zxQ (h:storeP s) (j:Nat) (b:j<s.a.length) (d:Int):quoV d s.s s.a[j].j=quoV (-1) s.s s.a[j].j:=by unfold quoV;have c:s.a[j].j∈s.a.map Ar.j:=Ku (Il b);rw[h.ids]at c;grind
def zAV (e:Aa):(⟨(flushS e).2.G,(flatE e).D,(flatE e).c,e.u⟩:Aa)=flatE e:=by obtain ⟨a,b,c⟩:=znw (flushS e).2;have d:=(zen e).2;have f:(flatE e).G=(flushS e).2.G:=a;rw[<-f,<-d]
def zz3 (e:Aa):(⟨(flushS e).2.G,(flushS e).2.D,(flushS e).2.c,e.u⟩:Aa)=(flushS e).2:=by have:=(zkk e).2;rw[<-this]
theorem zr5 (m:List KV) (ops:List Op) (b:srtK m) (c: ∀x∈m,kvV x=true) (d:m.length<=100000) (e:ops.length<=1048576):zbo m ops=some (bif batchV ops then (applyK m ops,true) else (m,false)):=by
 by_cases f:ops.length<=1000
 ·exact zjL _ _ b c d f
 ·have a:batchV ops=false:=by
   cases a:batchV ops with
   | false=>rfl
   | true=>have:=(zbF a).1;omega
  unfold zbo;rw[zkg m b c (by omega)];rw[ze (by grind) (by grind),zc4 ops e,a];rfl
theorem zsn (h:storeP s) (j:Nat) (b:j<s.a.length) (c:At) (f:c.R.length<=1048576):zbV s (j:Int) c=some ((writeS s (j:Int) c.R).2,(writeS s (j:Int) c.R).1):=by
 have hT:=h.tens _ (Il b);have hs:=h.small;have N:=h.rlen;obtain ⟨k,l,O,n,o⟩:=zce hT.eng;unfold zbV writeS;rw[zb _ j b,zg _ j b];simp only[Ih,no_R];have p:Dc ((s.P.length:Int)>=120)=Dc (120<=s.P.length):=decide_eq_decide.2 (by omega);rw[p];by_cases q:120<=s.P.length
 ·simp_all
 rw[dF q];simp only[Ii,iF,zd0 c.R f,Ih,cF];cases d:batchV c.R with
 | false=>rfl
 | true=>
 have Q:=(zbF d).1;have S:=zk6 s.a[j].m s.a[j].m.c;have T:=zdd c.R (mapR s.a[j].m s.a[j].m.c);have t:srtK (mapR s.a[j].m s.a[j].m.c):=zk7 hT.eng _;have v:=zmz hT.eng s.a[j].m.c;simp only[In,Ii,iF,cT,zoR _ j b hT.eng,Ih,zim (mapR s.a[j].m s.a[j].m.c) c.R t (by omega) (by omega),zfX _ (zf5 v d) (by omega),zlK s.s _ hs.shares,zxQ h j b 0];cases Dc ((bytesN (applyK (mapR s.a[j].m s.a[j].m.c) c.R):Int)>quoV (-1) s.s s.a[j].j) with
 | true=>rfl
 | false=>
 have er:rowsV s s.a[j].j=ofLR s.a[j].j s.x:=rfl;have w:Dc ((((ofLR s.a[j].j s.x).length:Nat):Int)>=6)=Dc (6<=(ofLR s.a[j].j s.x).length):=decide_eq_decide.2 (by omega);simp only[Ii,iF,cF,zlE _ k l o n,zij s _ hs.rows,Ih,er,w];unfold roomS;rw[zg _ j b];cases U:Dc (6<=(ofLR s.a[j].j s.x).length) with
 | false=>
   have g:=zqX ⟨s.a[j].j,s.a[j].I,s.a[j].F,⟨s.a[j].m.G,s.a[j].m.D,s.a[j].m.c,s.a[j].m.u⟩⟩ c.R hT.eng d;have e:(engB s.a[j].m c.R).c=s.a[j].m.c+1:=rfl;simp only[Ii,iF,cF,zd,g,Ih,zjP s.A _ hs.slots,zj5 _ _ _ c.R f,e];rw[zg _ j b];cases y:okB s.a[j].m c.R with
   | false=>rfl
   | true=>
     simp only[In,Ii,iF,Ih,Jm];cases z:Dc (sealB (keyOfV s.A s.a[j].j) s.H (s.a[j].m.c+1) c.R= []) with
     | true=>rfl
     | false=>simp only[Ii,iF,Is,cT];rw[ze (by grind) (by grind),ze (by simp only[Ip];omega) (by simp only[Ip];omega)];simp only[Ih,Im];unfold putS;rw[zg _ j b];rfl
 | true=>
   obtain ⟨V,B⟩:=zyE ⟨s.a[j].j,s.a[j].I,s.a[j].F,s.a[j].m⟩ (by trivial);obtain ⟨W,C⟩:=zyY ⟨s.a[j].j,s.a[j].I,s.a[j].F,(flushS s.a[j].m).2⟩ (zfb hT.eng);have E:=zpk hT.eng;have g:=zqX ⟨s.a[j].j,s.a[j].I,(flatE s.a[j].m).c,flatE s.a[j].m⟩ c.R E d;have e:(engB (flatE s.a[j].m) c.R).c=s.a[j].m.c+1:=by show (flatE s.a[j].m).c+1=_;rw[(zen _).1]
   have J:(mergeS (flushS s.a[j].m).2).2=flatE s.a[j].m:=rfl;have i:tenE (flushO s (j:Int)).a (j:Int)=flushT s.a[j]:=by unfold flushO;simp only[Im];rw[zg _ j (by simp_all),Jf,zg _ j b]
   simp only[iT,cT,B,Ih,zz3,C,zd,J,zAV,g,zjP s.A _ hs.slots,zj5 _ _ _ c.R f,e,i];have K:(flushT s.a[j]).m=flatE s.a[j].m:=rfl;rw[K];cases y:okB (flatE s.a[j].m) c.R with
   | false=>rfl
   | true=>
     simp only[In,Ii,iF,Ih,Jm];cases z:Dc (sealB (keyOfV s.A s.a[j].j) s.H (s.a[j].m.c+1) c.R= []) with
     | true=>rfl
     | false=>
       have X:(noLR s.a[j].j s.x).length<=s.x.length:=Jo _ _;simp only[Ii,iF,iT,Is,cT,zkT s _ hs.rows,Ih,zd];rw[ze (by grind) (by grind),ze (by simp only[Ip];omega) (by simp only[Ip];omega)];simp only[Ih,Im];have Y:(flatE s.a[j].m).c=s.a[j].m.c:=(zen _).1;have L:(engB (flatE s.a[j].m) c.R).D=(flatE s.a[j].m).D:=rfl;have M:(engB (flatE s.a[j].m) c.R).u=s.a[j].m.u:=(zen _).2;unfold putS;rw[i];unfold flushO;rw[zg _ j b];simp only[Im,Kz];unfold flushT;rw[<-L,<-M];have Z:(⟨(engB (flatE s.a[j].m) c.R).G,(engB (flatE s.a[j].m) c.R).D,s.a[j].m.c+1,(engB (flatE s.a[j].m) c.R).u⟩:Aa)=engB (flatE s.a[j].m) c.R:=by rw[<-e]
       simp_all
theorem zqL (h:storeP s) (j:Nat) (b:j<s.a.length) (ops:List Op) (e:ops.length<=1048576):zhC s (j:Int) ops=some (writeS s (j:Int) ops):=by
 have Z:=h.tens _ (Il b);have hs:=h.small;have M:=h.rlen;have N:=h.hist;have y:=Z.seq;have O:=Z.base;have Q:=(zJ Z.eng).1;obtain ⟨o,p,q,t,R⟩:=zce Z.eng;unfold zhC writeS;rw[zb _ j b,zg _ j b];have z:Dc ((s.P.length:Int)>=120)=Dc (120<=s.P.length):=decide_eq_decide.2 (by omega);rw[z];by_cases u:120<=s.P.length
 ·rw[dT u];rfl
 rw[dF u];have S:=zk6 s.a[j].m s.a[j].m.c;have T:=zdd ops (mapR s.a[j].m s.a[j].m.c);have v:srtK (mapR s.a[j].m s.a[j].m.c):=zk7 Z.eng _;have w:=zmz Z.eng s.a[j].m.c;simp only[Ii,iF,zje _ _ o p q t,Ih,cF];rw[zr5 _ ops v w (by omega) e];cases d:batchV ops with
 | false=>rfl
 | true=>
 have U:=(zbF d).1;simp only[cT,Ih,In,Ii,iF,zho (applyK (mapR s.a[j].m s.a[j].m.c) ops) (zdZ ops v) (zf5 w d) (by omega),zlj s.s _ hs.shares];cases Dc ((bytesN (applyK (mapR s.a[j].m s.a[j].m.c) ops):Int)>quoV (-1) s.s s.a[j].j) with
 | true=>rfl
 | false=>
 have er:rowsV s s.a[j].j=ofLR s.a[j].j s.x:=rfl;rw[er]at y;have B:Dc (J8 (s.a[j].m.c - s.a[j].F)>=6)=Dc (6<=(ofLR s.a[j].j s.x).length):=by rw[za];exact decide_eq_decide.2 (by omega)
 simp only[Ii,iF,cF,B];unfold roomS;rw[zg _ j b];cases V:Dc (6<=(ofLR s.a[j].j s.x).length) with
 | false=>
   simp only[Ii,iF,cF,zgO _ ops o p q t e,Ih,zhs s.A _ hs.slots,zkb _ _ _ ops e];rw[zg _ j b];cases f:okB s.a[j].m ops with
   | false=>
     have:putR s.a[j].m ops=(s.a[j].m,false):=by unfold putR;rw[Z.eng,d,f];rfl
     rw[this];rfl
   | true=>
     have:putR s.a[j].m ops=(engB s.a[j].m ops,true):=by unfold putR;rw[Z.eng,d,f];rfl
     have i:(engB s.a[j].m ops).c=s.a[j].m.c+1:=rfl;rw[this];simp only[In,Ii,iF,Ih,Jm,i];cases C:Dc (sealB (keyOfV s.A s.a[j].j) s.H (s.a[j].m.c+1) ops= []) with
     | true=>rfl
     | false=>simp only[Ii,iF,Is,cT];rw[ze (by grind) (by grind),ze (by simp only[Ip];omega) (by simp only[Ip];omega)];unfold putS;rw[zg _ j b];rfl
 | true=>
   have W:=zlx h j b;have g:j<(flushO s (j:Int)).a.length:=by unfold flushO;simpa using b
   have k:(flushO s (j:Int)).a[j]=flushT s.a[j]:=by rw[<-zg _ j g];unfold flushO;simp only[Im];rw[zg _ j (by simpa using b),Jf,zg _ j b]
   have l:=zpk Z.eng;obtain ⟨D,y2,E,G,X⟩:=zce l;have n:(flushT s.a[j]).m=flatE s.a[j].m:=rfl;have I:(flushO s (j:Int)).A=s.A:=rfl;have J:(flushO s (j:Int)).H=s.H:=rfl;simp only[iT,cT,zl0 h,Ih,zlk h j b,zb _ j g,k,n,zgO _ ops D y2 E G e,I,J,zhs s.A _ hs.slots,zkb _ _ _ ops e];rw[zg _ j g,k,n];cases f:okB (flatE s.a[j].m) ops with
   | false=>
     have:putR (flatE s.a[j].m) ops=(flatE s.a[j].m,false):=by unfold putR;rw[l,d,f];rfl
     rw[this];rfl
   | true=>
     have:putR (flatE s.a[j].m) ops=(engB (flatE s.a[j].m) ops,true):=by unfold putR;rw[l,d,f];rfl
     have i:(engB (flatE s.a[j].m) ops).c=s.a[j].m.c+1:=by show (flatE s.a[j].m).c+1=_;rw[(zen _).1]
     rw[this];simp only[In,Ii,iF,Ih,Jm,i];cases C:Dc (sealB (keyOfV s.A s.a[j].j) s.H (s.a[j].m.c+1) ops= []) with
     | true=>rfl
     | false=>
       have Y:(flushO s (j:Int)).x.length<=s.x.length:=by unfold flushO;exact Jo _ _
       have K:(flushO s (j:Int)).P=s.P:=rfl;have L:(flatE s.a[j].m).c=s.a[j].m.c:=(zen _).1;simp only[Ii,iF,Is,cT,K];rw[ze (by simp only[Ip];omega) (by simp only[Ip];omega),ze (by simp only[Ip];omega) (by simp only[Ip];omega)];unfold putS;rw[zg _ j g,k];simp only[Ih,n,L];rfl
theorem zsY (l:List Ar) (t:Ar) (hl:l.length<=1000000) (H: ∀x∈l,¬x.j=t.j):zjy l t=some (insTE l t):=by
 obtain ⟨z,t2,A⟩:=zgt (λx:Ar=>decide (x.j<t.j)) l;have Z:(⟨t.j,t.I,t.F,⟨t.m.G,t.m.D,t.m.c,t.m.u⟩⟩:Ar)=t:=rfl;unfold zjy insTE placeE;generalize (l.takeWhile λx:Ar=>decide (x.j<t.j)).length=a at z t2 A;have W: ∀(O:List Ar) (x:Ar),O.length<=1000001->app 104 O [x]=some (O++ [x]):=λO x h=>ze (by grind) (by grind);refine zt (λk (S:Bool × Int × List (Option Ar) × Option (List Ac) × Option (List (List Ac)) × Option (List Int) × List Ar)=>S.2.1=(k:Int)/\wholeO l k S.2.2.1/\
  ((k<=a/\S.1=false/\S.2.2.2.1=some t.m.G/\S.2.2.2.2.1=some t.m.D/\S.2.2.2.2.2.1=some t.m.u/\S.2.2.2.2.2.2=l.take k)\/(a<k/\S.1=true/\S.2.2.2.2.2.2=l.take a++(t::(l.drop a).take (k - a))))) l.length
  (λr=>∃p U V ts O,r= .go (p,U,V,ts,O)/\((p=false/\U=some t.m.G/\V=some t.m.D/\ts=some t.m.u/\O=l/\a=l.length)\/(p=true/\O=l.take a++(t::l.drop a)))) ⟨rfl,ziW l,.inl ⟨Io _,rfl,rfl,rfl,rfl,by simp⟩⟩ ?_ ?_ ?_
 ·rintro k ⟨p,i,ls,U,V,ts,O⟩ n ⟨d,b,e⟩;subst d;left;have o:=zg5 b n;have q:J8 ((k:Int)+1)=((k+1:Nat):Int):=by rw[za];omega
  have s:wholeO l (k+1) (ls.set ((k:Nat):Int).toNat none):=zdl (zbR b) (by simp);have v:(Dc ((k:Int)<(ls.length:Int)))=true:=by rw[b.1];simp_all
  have J:(l.drop a).take (k+1 - a)=(l.drop a).take (k - a)++(if a<=k then [l[k]] else []):=by
   by_cases B:a<=k
   ·rw[iP B,show k+1 - a=(k - a)+1 by omega,zQ _ _ (by grind),Kf];simp_all
   ·grind
  rcases e with ⟨f,rfl,rfl,rfl,rfl,rfl⟩ | ⟨f,rfl,rfl⟩
  ·have C:(l.take k).length<=1000000:=by grind
   by_cases E:k=a
   ·subst E;have g:Dc (l[k].j>t.j)=true:=by grind
    refine ⟨(true,((k+1:Nat):Int),ls.set ((k:Nat):Int).toNat none,none,none,none,(l.take k++ [t])++ [l[k]]),?_,rfl,s,.inr ⟨by simp,rfl,?_⟩⟩
    ·simp only[v,iT,Is,o,Ih,g,Z,W _ _ (show (l.take k).length<=1000001 by omega),zd,q];simp_all
    ·simp_all
   ·have g:Dc (l[k].j>t.j)=false:=by grind
    refine ⟨(false,((k+1:Nat):Int),ls.set ((k:Nat):Int).toNat none,some t.m.G,some t.m.D,some t.m.u,l.take k++ [l[k]]),?_,rfl,s,.inl ⟨by omega,rfl,rfl,rfl,rfl,(zQ l k n).symm⟩⟩;simp only[v,iT,Is,o,Ih,g,Ii,iF,W _ _ (show (l.take k).length<=1000001 by omega),zd,q]
  ·have C:(l.take a++(t::(l.drop a).take (k - a))).length<=1000001:=by grind
   simp_all;omega
 ·rintro ⟨p,i,ls,U,V,ts,O⟩ ⟨d,b,e⟩;simp only at d b e;subst d;refine ⟨_,iN (by rw[b.1];simp),p,U,V,ts,O,rfl,?_⟩;rcases e with ⟨f,w,y,K,L,M⟩ | ⟨f,w,y⟩
  ·grind
  ·exact .inr ⟨w,by rw[y,Jk (l:=l.drop a) (by simp)]⟩
 ·rintro _ ⟨p,U,V,ts,O,rfl,⟨rfl,rfl,rfl,rfl,rfl,rfl⟩ | ⟨rfl,rfl⟩⟩
  ·simp only[zd,Is,iT,Ih,Z];rw[W _ _ (by omega)];simp
  ·rfl
theorem zw1 (h:storeP s) {id:Int} (b: ∀x∈s.a,¬x.j=id): ∀x∈s.A.J,¬x.r=id:=by
 intro x c e;have d:x.r∈s.a.map Ar.j:=by rw[h.slots];grind
 grind
theorem zq5 (h:storeP s) (c:At):zeA s c=some ((createS s c).2,(createS s c).1):=by
 have hs:=h.small;obtain ⟨n,o,p⟩:=h.lens;unfold zeA createS;simp only[zrf,zlN,zjK h,no_R,zfV s.s _ _ hs.shares,zcC,len32,Ih];cases f:Dc (1<=c.r/\c.r<=99) with
 | false=>rfl
 | true=>
 cases Dc (0<=c.N/\c.N<=40) with
 | false=>rfl
 | true=>
 cases g:Dc (c.q.length=32) with
 | false=>rfl
 | true=>
 rcases zb2 s.a c.r with ⟨j,t,e,_,_⟩ | ⟨e,i⟩
 ·simp_all
 ·rw[e];simp only[In,Ii,iF,Ih,Jx,show Dc ((-1:Int)>=0)=false from rfl,cF];by_cases l:4<=s.a.length
  ·grind
  ·rw[dF,dF l];have d:=zw1 h i;have b:=zsi h.keys d (zp5 (key:=c.q) h.keys (of_decide_eq_true f) (of_decide_eq_true g) (by omega) d);simp only[Ii,iF,cF,b,Ih];cases (setR s.s c.r c.N).2 with
   | false=>rfl
   | true=>
     simp only[In,Ii,iF,cT];have m:placeE s.a c.r<=s.a.length:=(zgt _ _).1;rw[znP (R:=A6 × Af) (λx:Ar=>decide (x.j<c.r)) s.a hs.tens (λk b=>?_) (by simp)]
     ·simp only[zd];unfold zfR ins;rw[iP ⟨by omega,by exact_mod_cast m,by grind,by grind⟩,Im];rfl
     ·simp only[zb s.a k b,Ih];grind
theorem zrL (h:storeP s) (c:At):zgU s c=some (createS s c):=by
 have hs:=h.small;obtain ⟨m,n,o⟩:=h.lens;unfold zgU createS;simp only[zW,zsy h,zcZ,zeg s.s _ _ hs.shares,zcD,len32,Ih];cases f:Dc (1<=c.r/\c.r<=99) with
 | false=>rfl
 | true=>
 cases Dc (0<=c.N/\c.N<=40) with
 | false=>rfl
 | true=>
 cases g:Dc (c.q.length=32) with
 | false=>rfl
 | true=>
 rcases zb2 s.a c.r with ⟨j,p,e,_,_⟩ | ⟨e,b⟩
 ·simp_all
 ·rw[e];simp only[In,Ii,iF,Ih,Jx,show Dc ((-1:Int)>=0)=false from rfl,cF];by_cases i:4<=s.a.length
  ·grind
  ·rw[dF,dF i];have k:=zw1 h b;have l:=zsM h.keys (zp5 (key:=c.q) h.keys (of_decide_eq_true f) (of_decide_eq_true g) (by omega) k);have d:=zsY s.a (newTE c.r) (by omega) b;unfold newTE at d;simp only[Ii,iF,cF,l,d,Ih];cases (setR s.s c.r c.N).2<;>rfl
def zsm (h:storeP s) (c:At):zfl s c=some ((quotaS s c).2,(quotaS s c).1):=by
 unfold zfl quotaS;simp only[zlN,no_R,zfV s.s _ _ h.small.shares,Ih];cases Dc (0<=c.N/\c.N<=40) with
 | false=>rfl
 | true=>cases (setR s.s c.r c.N).2<;>rfl
def zy5 (a b:Bool):((if a=true then (some true) else (some b)):Option Bool)=some (a||b):=by cases a<;>rfl
def zq6 (h:storeP s) (j:Nat) (b:j<s.a.length) (id:Int) (c:s.a[j].j=id):zeB s id=some ((removeS s id).2,(removeS s id).1):=by
 have hs:=h.small;have i:=h.boot;obtain ⟨y,d,e⟩:=h.slot (Il b);unfold zeB removeS;simp only[zy5,Ih,no_R,ge_iff_le];by_cases f:1000<=s.H
 ·simp_all
 ·by_cases g:1000000<=s.A.L
  ·simp_all
  ·rw[dF f,dF g];simp only[La,Ii,iF,cF,zq3 h.keys ⟨y,d,e.trans c⟩ (by omega),zj6 s.s id hs.shares,zyz s.a id hs.tens,Ih];rw[zkT]
   ·simp only[Ih];rw[za (n:=s.H+1)];rfl
   ·exact hs.rows
def zq7 (h:storeP s) (j:Nat) (b:j<s.a.length) (id:Int) (c:s.a[j].j=id) (d:atE s.a id=(j:Int)):zeC s id=some ((rotateS s (j:Int)).2,(rotateS s (j:Int)).1):=by
 subst c;have f:=(h.tens _ (Il b)).ep;unfold zeC rotateS;rw[zg _ j b];simp only[zjK h,d,zb s.a j b,no_R,zcC,Ih,Im];by_cases e:s.a[j].I>=1000000
 ·simp_all
 ·rw[dF e,za (n:=s.a[j].I+1)];rfl
def zu5 (h:storeP s) (c:At):zd5 s c=some ((ownS s c).2,(ownS s c).1):=by
 unfold zd5 ownS;simp only[zjK h,no_R,Ih];rcases zb2 s.a c.r with ⟨j,b,e,d,_⟩ | ⟨e,_⟩
 ·rw[e,dF];cases Dc (c.B=2) with
  | true=>
    simp only[iT,zsm h c,Ih,cT];unfold quotaS;cases Dc (0<=c.N/\c.N<=40) with
    | false=>rfl
    | true=>cases (setR s.s c.r c.N).2<;>rfl
  | false=>
    cases Dc (c.B=3) with
    | true=>simp only[Ii,iF,iT,zq6 h j b c.r d,Ih,cT,cF];unfold removeS;cases Dc (1000<=s.H)||decide (1000000<=s.A.L)<;>rfl
    | false=>
      cases Dc (c.B=4) with
      | true=>simp only[Ii,iF,iT,zq7 h j b c.r d e,Ih,cT,cF];unfold rotateS;cases Dc ((tenE s.a (j:Int)).I>=1000000)<;>rfl
      | false=>simp only[Ii,iF,zoe h j b c.r d e,Ih,cF];rfl
 ·simp_all
def zug (h:storeP s):zik s=some (codeR 0,syncS s):=by
 have b:=h.rlen;refine set_loop markL s.x (by omega) (λk us c a=>?_) (λus a=>?_) rfl
 ·rw[iP];rfl
 ·simp
theorem zpK (h:storeP s) (j:Nat) (b:j<s.a.length) (m: ¬1000<=s.H) (o: ¬1000000<=s.A.L):zgV s (j:Int)=some (removeS s s.a[j].j).1:=by
 have hs:=h.small;have p:=h.boot;obtain ⟨q,t,u⟩:=h.lens;obtain ⟨y,c,d⟩:=h.slot (Il b);have v:noTE s.a[j].j s.a=s.a.take j++s.a.drop (j+1):=by refine zkj s.a _ j b (by simp) λi hi e=>?_;have:=h.ne hi b e;simp_all
 obtain ⟨B,f⟩:=zpO s.a j b;have g:(Kr j (none:Option Ar)++(s.a.drop j).map some).length=s.a.length:=by grind
 have k: ∃ps,piece (Kr j (none:Option Ar)++(s.a.drop j).map some) ((j:Int)+1) (s.a.length:Int)=some ps:=⟨_,zT _ (j+1) s.a.length _ _ (by omega) rfl (by omega) (by omega)⟩;obtain ⟨ps,l⟩:=k;unfold zgV;rw[zb _ j b,Ih,zkc s.s _ hs.shares,Ih,zrI h.keys ⟨y,c,d⟩ (by omega),Ih,zT s.a 0 j 0 (j:Int) rfl rfl (by omega) (by omega),Ih,zqW s.a j (by omega),Ih];rw[ze (by grind) (by grind)];simp only[Ih,List.nil_append];rw[za (n:=(j:Int)+1),g,l,Ih,f,Ih,ze (by grind) (by grind),Ih,zl2 _ _ hs.rows,Ih,za (n:=s.H+1)];unfold removeS;grind
def keepJ:Int->List A5->List A5
 | _,[]=>[]
 | n,r::l=>bif r.W then markL r::keepJ n l else bif Dc (n - 1>=0) then markL r::keepJ (n - 1) l else keepJ (n - 1) l
def znn: ∀(l:List A5) (n k:Int),(k=n/\0<=n)\/(n<1/\k<1)->keepJ k l=keepL n l
 | [],_,_,_=>rfl
 | r::l,n,k,h=>by
   unfold keepJ keepL;cases r.W with
   | true=>simp only[cT];rw[znn l n k h]
   | false=>
     simp only[cF];by_cases a:n<1
     ·have b:k<1:=by omega
      rw[dT a,dF];simp only[cT,cF];exact znn l n (k - 1) (.inr ⟨a,by omega⟩)
     ·have b:k=n:=by omega
      subst b;rw[dF a,dT];simp only[cT,cF];rw[znn l (k - 1) (k - 1) (.inl ⟨rfl,by omega⟩)]
theorem ztp (l:List A5) (n:Int):(keepL n l).length<=l.length:=by obtain ⟨q,h,e⟩:=zlO l n;grind
theorem zxy (l:List A5) (n:Int) (hl:l.length<=1000000) (t: -9223372036854775808<=n/\n<=9223372036854775807) {body:Int × Int × List A5->Option (Ctl (Int × Int × List A5) (Ctl (List A5) R))} {f:List A5->Option R} (h:body=λ(B:Int × Int × List A5)=>if Dc (B.2.1<(l.length:Int)) then ((idx l B.2.1).bind λA=>
 bindC (if !A.W then (some (.go (J8 (B.1 - 1))))
 else (some (.go B.1)))
 (λ(E:Int)=>Bd0 (if A.W=true then some true else some (Dc (E>=0))) (λ(G:Bool)=>bindC (if G=true then Bd0 (app 48 B.2.2 ([(⟨A.r,A.H,A.c,A.O,true⟩:A5)])) λF=>some (.go F)else some (.go B.2.2)) (λ(I:List A5)=>some (.go (E,J8 (B.2.1+1),I))))))
 else (some (.done (.go B.2.2)))) (j:f (keepL n l)=some z):bindC (loopO body (goMax n 0,(0:Int),([]:List A5))) f=some z:=by
 have u:keepJ (max n 0) l=keepL n l:=znn l n (max n 0) (by omega);have m:goMax n 0=max n 0:=by unfold goMax;omega
 rw[m];refine zt (λk (S:Int × Int × List A5)=>(-(k:Int)<=S.1/\S.1<=9223372036854775807)/\S.2.1=(k:Int)/\S.2.2.length<=k/\S.2.2++keepJ S.1 (l.drop k)=keepL n l) l.length
  (λr=>r= .go (keepL n l)) ⟨by omega,rfl,by simp,by trivial⟩ ?_ ?_ (λr o=>by rw[o];exact j)
 ·rintro k ⟨c,i,D⟩ b ⟨p,d,q,a⟩;subst d;left;have s:J8 ((k:Int)+1)=((k+1:Nat):Int):=by rw[za];omega
  have e: ∀x:A5,app 48 D [x]=some (D++ [x]):=λx=>ze (by grind) (by grind);rw[Ja b,keepJ]at a;rw[h];simp only[zb l k b,Ih];rw[iP,s];cases hs:l[k].W with
  | true=>rw[hs]at a;simp only[In,Ii,iF,zd,iT,Ih,e];exact ⟨_,rfl,by omega,rfl,by simp_all,by simpa[markL] using a⟩
  | false=>
    rw[hs]at a;rw[za (n:=c - 1)];simp only[Is,iT,zd,Ii,iF,Ih];cases g:Dc (c - 1>=0) with
    | true=>rw[g]at a;simp only[iT,e,Ih,zd];exact ⟨_,rfl,by omega,rfl,by simp_all,by simpa[markL] using a⟩
    | false=>rw[g]at a;simp_all;omega
 ·rintro ⟨c,i,D⟩ ⟨p,d,q,a⟩;rw[Jj,keepJ,Js]at a;simp_all
theorem zx6 (l:List A5) (n:Int) (hl:l.length<=1000000) (j: -9223372036854775808<=n/\n<=9223372036854775807) {body:Int × Int × List A5->Option (Ctl (Int × Int × List A5) (Ctl (List A5) R))} {f:List A5->Option R} (m:body=λ(B:Int × Int × List A5)=>if Dc (B.2.1<(l.length:Int)) then (bindC ((idx l B.2.1).bind λA=>
 bindC (if !A.W then (if Dc (B.1<1) then (some (.done (.go (B.1,B.2.2))))
 else (some (.go (J8 (B.1 - 1)))))
 else (some (.go B.1)))
 (λ(F:Int)=>Bd0 (app 48 B.2.2 ([(⟨A.r,A.H,A.c,A.O,true⟩:A5)])) λE=>some (.go (F,E))))
 (λ(G:Int × List A5)=>some (.go (G.1,J8 (B.2.1+1),G.2))))
 else (some (.done (.go B.2.2)))) (q:f (keepL n l)=some z):bindC (loopO body (n,(0:Int),([]:List A5))) f=some z:=by
 refine zt (λk (S:Int × Int × List A5)=>(-9223372036854775808<=S.1/\S.1<=9223372036854775807)/\S.2.1=(k:Int)/\S.2.2.length<=k/\S.2.2++keepL S.1 (l.drop k)=keepL n l) l.length
  (λr=>r= .go (keepL n l)) ⟨j,rfl,by simp,by simp⟩ ?_ ?_ (λr s=>by simp_all)
 ·rintro k ⟨c,i,D⟩ b ⟨d,e,o,a⟩;subst e;left;have p:J8 ((k:Int)+1)=((k+1:Nat):Int):=by rw[za];omega
  have g: ∀x:A5,app 48 D [x]=some (D++ [x]):=λx=>ze (by grind) (by grind);rw[Ja b,keepL]at a;rw[m];simp only[zb l k b,Ih];rw[iP,p];cases hs:l[k].W with
  | true=>rw[hs]at a;simp only[In,Ii,iF,zd,Ih,g];exact ⟨_,rfl,d,rfl,by simp_all,by simpa[markL] using a⟩
  | false=>
    rw[hs]at a;cases h:Dc (c<1) with
    | true=>simp_all;omega
    | false=>rw[h]at a;have t:=of_decide_eq_false h;rw[za (n:=c - 1)];simp only[Is,iT,Ii,iF,zd,Ih,g];exact ⟨_,rfl,by omega,rfl,by simp_all,by simpa[markL] using a⟩
 ·rintro ⟨c,i,D⟩ ⟨d,e,o,a⟩;rw[Jj,keepL,Js]at a;simp_all
def zxp (h:storeP s) (n:Int) (b:t∈s.a):(repS (keyOfV s.A t.j) (rep0 t) (ofLR t.j (keepL n s.x))).2=true:=by obtain ⟨q,c,e⟩:=zlO s.x n;rw[e,zlR];have hs:(ofLR t.j q).Sublist (rowsV s t.j):=c.filter _;exact (h.tens t b).part hs
def zqV (h:storeP s) (n:Int): ∀r∈keepL n s.x,r.O.length<=1048576:=by intro r a;obtain ⟨q,b,rfl⟩:=zoJ _ _ _ a;exact h.small.text q b
theorem set_loopP (g:α->α) (l:List α) (hl:l.length<=1000000) {body:Int × List α->Option (Ctl (Int × List α) (Ctl (List α) R))} {f:List α->Option R} (b: ∀k (us:List α) (a:k<l.length),us.length=l.length->idx us (k:Int)=some l[k]->body ((k:Int),us)=some (.go (J8 ((k:Int)+1),us.set ((k:Nat):Int).toNat (g l[k])))) (e: ∀us:List α,us.length=l.length->body ((l.length:Int),us)=some (.done (.go us))) (h:f (l.map g)=some z):bindC (loopO body ((0:Int),l)) f=some z:=by
 refine zt (λk (S:Int × List α)=>S=((k:Int),(l.take k).map g++l.drop k)) l.length (λr=>r= .go (l.map g)) rfl ?_ ?_ (λr i=>by simp_all)
 ·rintro k _ a rfl;left;have c:((l.take k).map g++l.drop k).length=l.length:=by grind
  have d:((l.take k).map g++l.drop k)[k]'(by omega)=l[k]:=by rw[List.getElem_append_right (by grind),Kf];congr 1;grind
  rw[b k _ a c (by rw[zb _ k (by omega),d]),Im,za (n:=(k:Int)+1)];congr 3;rw[zQ l k a,Jl,List.set_append_right _ _ (by grind),Iq,List.length_take,show k - min k l.length=0 by omega,Ja a,List.set_cons_zero];simp
 ·simp_all
theorem zsl (h:storeP s) (n:Int) (b: -9223372036854775808<=n/\n<=9223372036854775807):zfj s n=some ((crashS s n).2,(crashS s n).1):=by
 have hs:=h.small;have i:=h.boot;have l:=h.rlen;have m:=ztp s.x n;obtain ⟨o,p,q⟩:=h.lens;unfold zfj crashS;simp only[no_R,ge_iff_le];by_cases c:1000<=s.H
 ·simp_all
 ·rw[dF c];refine zxy s.x n (by omega) b rfl ?_;refine set_loopP (λt=>crashT (keyOfV s.A t.j) (ofLR t.j (keepL n s.x)) t) s.a (by omega) (λk us d e hi=>?_) (λus e=>?_) ?_
  ·have B:=h.tens _ (Il d);simp only[hi,Ih];have f:=zl9 ⟨s.E,s.A,s.s,us,keepL n s.x,s.P,s.H⟩ s.a[k] (ofLR s.a[k].j (keepL n s.x)) (Jh (Jo _ _) (by omega)) (λr g=>zqV h n r (Iv.1 g).1) hs.slots B.eng B.start;have D:rowsV ⟨s.E,s.A,s.s,us,keepL n s.x,s.P,s.H⟩ s.a[k].j=ofLR s.a[k].j (keepL n s.x):=rfl;rw[iP (by grind),zij _ _ (by grind),Ih,D,f];rfl
  ·simp
  ·rw[za (n:=s.H+1)];rfl
theorem zwv (T:List A5) (id:Int) (keys:Ba) (g:Aa) (Z:T.length<=1000000) (q: ∀r∈T,r.O.length<=1048576) (s:keys.J.length<=1048576) (t:engV g=true) (m:(repS (keyOfV keys id) g (ofLR id T)).2=true) {body:Int × Int × List Ac × List Int × List (List Ac)->Option (Ctl (Int × Int × List Ac × List Int × List (List Ac)) (Ctl (Int × List Ac × List Int × List (List Ac)) R))} {f:Int × List Ac × List Int × List (List Ac)->Option R} (v:body=λ(F:Int × Int × List Ac × List Int × List (List Ac))=>if Dc (F.2.1<(T.length:Int)) then (bindC ((idx T F.2.1).bind λI=>
 if !(Dc (I.r=id)) then (some (.go (F.1,F.2.2.1,F.2.2.2.1,F.2.2.2.2)))
 else ((zef keys id).bind λV=>
 (zcU V I.H I.c I.O).bind λW=>
 (zcq (⟨F.2.2.1,F.2.2.2.2,F.1,F.2.2.2.1⟩:Aa) W.1).bind λM=>
 some (.go (M.1.c,M.1.G,M.1.u,M.1.D))))
 (λ(U:Int × List Ac × List Int × List (List Ac))=>some (.go (U.1,J8 (F.2.1+1),U.2.1,U.2.2.1,U.2.2.2))))
 else (some (.done (.go (F.1,F.2.2.1,F.2.2.2.1,F.2.2.2.2))))) (E:f ((repS (keyOfV keys id) g (ofLR id T)).1.c,(repS (keyOfV keys id) g (ofLR id T)).1.G,(repS (keyOfV keys id) g (ofLR id T)).1.u,(repS (keyOfV keys id) g (ofLR id T)).1.D)=some z):
  bindC (loopO body (g.c,(0:Int),g.G,g.u,g.D)) f=some z:=by
 have i: ∀k,(repS (keyOfV keys id) g (ofLR id (T.take k))).2=true:=by
  intro k;have w:ofLR id T=ofLR id (T.take k)++ofLR id (T.drop k):=by rw[<-zny,Kp]
  rw[w,zfH]at m;grind
 refine zt (λk (S:Int × Int × List Ac × List Int × List (List Ac))=>S=((repS (keyOfV keys id) g (ofLR id (T.take k))).1.c,(k:Int),(repS (keyOfV keys id) g (ofLR id (T.take k))).1.G,(repS (keyOfV keys id) g (ofLR id (T.take k))).1.u,(repS (keyOfV keys id) g (ofLR id (T.take k))).1.D)) T.length
  (λr=>r= .go ((repS (keyOfV keys id) g (ofLR id T)).1.c,(repS (keyOfV keys id) g (ofLR id T)).1.G,(repS (keyOfV keys id) g (ofLR id T)).1.u,(repS (keyOfV keys id) g (ofLR id T)).1.D)) rfl ?_ ?_ (λr m=>by simp_all)
 ·rintro k _ j rfl;left;refine ⟨_,?_,rfl⟩;have o:=zpo (keyOfV keys id) _ _ t (i k);obtain ⟨a,b,c,d,_⟩:=zce o;have l:ofLR id (T.take (k+1))=ofLR id (T.take k)++(if Dc (T[k].r=id)=true then [T[k]] else []):=zcE _ T k j;have h:=i (k+1);rw[v];simp only[zb T k j,Ih];rw[iP,za (n:=(k:Int)+1),show (k:Int)+1=((k+1:Nat):Int) by omega];cases x:Dc (T[k].r=id) with
  | false=>simp_all
  | true=>
    rw[x]at l;simp only[iT]at l;rw[l,zfH,i k]at h |-
    simp only[cT,repS]at h |-
    simp only[In,Ii,iF,zhs keys id s,zj9 _ _ _ _ (q _ (Il j)),Ih];have y:(openB (keyOfV keys id) T[k].H T[k].c T[k].O).1.length<=1048576:=by
     rcases zqs (keyOfV keys id) T[k].H T[k].c T[k].O with ⟨_,p⟩ | p
     ·have:=(zbF p).1;omega
     ·simp_all
    generalize (repS (keyOfV keys id) g (ofLR id (T.take k))).1=e at o a b c d h |-
    have A:=zgO e _ a b c d y;have B:zcq ⟨e.G,e.D,e.c,e.u⟩ (openB (keyOfV keys id) T[k].H T[k].c T[k].O).1=some (putR e (openB (keyOfV keys id) T[k].H T[k].c T[k].O).1):=A;rw[B];cases C:(openB (keyOfV keys id) T[k].H T[k].c T[k].O).2&&(putR e (openB (keyOfV keys id) T[k].H T[k].c T[k].O).1).2 with
    | false=>rw[C]at h;cases h
    | true=>rfl
 ·simp_all
theorem zsP (h:storeP s) (n:Int) (i: -9223372036854775808<=n/\n<=9223372036854775807) (l: ¬1000<=s.H):zhA s n=some (crashS s n).1:=by
 have hs:=h.small;have q:=h.boot;have u:=h.rlen;have v:=ztp s.x n;obtain ⟨w,y,z⟩:=h.lens;unfold zhA crashS;rw[dF l];simp only[cF];refine zx6 s.x n (by omega) i rfl ?_;refine set_loopP (λt=>crashT (keyOfV s.A t.j) (ofLR t.j (keepL n s.x)) t) s.a (by omega) (λk us f m hi=>?_) (λus m=>?_) ?_
 ·have D:=h.tens _ (Il f);have g:=zxp h n (Il f);obtain ⟨a,b,c,d,e⟩:=zce (zpo _ _ _ D.start g);simp only[hi,Ih];rw[iP (by grind)];refine zwv (keepL n s.x) s.a[k].j s.A (rep0 s.a[k]) (by omega) (zqV h n) hs.slots D.start g rfl ?_;have p:=zcy (repS (keyOfV s.A s.a[k].j) (rep0 s.a[k]) (ofLR s.a[k].j (keepL n s.x))).1 a b e d;exact (congrArg (λo:Option Aa=>o.bind λB=>some (Ctl.go (J8 ((k:Int)+1),us.set ((k:Nat):Int).toNat (⟨s.a[k].j,s.a[k].I,s.a[k].F,B⟩:Ar)))) p)
 ·simp_all
 ·rw[za (n:=s.H+1)]
def zsQ (h:storeP s) (c:At) (i: -9223372036854775808<=c.N/\c.N<=9223372036854775807):zhB s c=some
    (bif Dc (c.B=1) then createS s c else bif Dc (c.B=12) then (syncS s,codeR 0) else bif Dc (c.B=14) then crashS s c.N else ownS s c):=by
 have hs:=h.small;have o:=h.rlen;unfold zhB;cases Dc (c.B=1) with
 | true=>simp only[iT,zrL h c,Ih,cT]
 | false=>
 cases Dc (c.B=12) with
 | true=>
   refine set_loop markL s.x (by omega) (λk us p l=>?_) (λus l=>?_) rfl
   ·rw[iP];rfl
   ·simp_all
 | false=>
 cases Dc (c.B=14) with
 | true=>
   simp only[Ii,iF,iT,cT,cF,ge_iff_le,zcZ];by_cases b:1000<=s.H
   ·unfold crashS;simp_all
   ·rw[zsP h c.N i b];unfold crashS;rw[dF b];rfl
 | false=>
 simp only[Ii,iF,cF,zsy h,zcZ,Ih];unfold ownS;rcases zb2 s.a c.r with ⟨j,d,e,f,_⟩ | ⟨e,_⟩
 ·rw[e,dF];cases Dc (c.B=2) with
  | true=>
    simp only[iT,zW,zeg s.s _ _ hs.shares,Ih,cT];unfold quotaS;cases Dc (0<=c.N/\c.N<=40) with
    | false=>rfl
    | true=>cases (setR s.s c.r c.N).2<;>rfl
  | false=>
    cases Dc (c.B=3) with
    | true=>
      by_cases b:1000<=s.H
      ·unfold removeS;simp_all
      ·by_cases g:1000000<=s.A.L
       ·unfold removeS;simp_all
       ·rw[zpK h j d b g,f];unfold removeS;rw[dF b,dF g];rfl
    | false=>
      cases Dc (c.B=4) with
      | true=>
        have q:=(h.tens _ (Il d)).ep;simp only[Ii,iF,iT,zb s.a j d,Ih,cT,cF,zcD];unfold rotateS;rw[zg _ j d,f];by_cases m:s.a[j].I>=1000000
        ·simp_all
        ·rw[dF m,za (n:=s.a[j].I+1)];rfl
      | false=>simp only[Ii,iF,zlk h j d,Ih,cF];rfl
 ·simp_all
def zp3 (s:Af) (i:Int) (ops:List Op):(writeS s i ops).1.A=s.A/\(writeS s i ops).1.s=s.s:=by
 unfold writeS;cases Dc (120<=s.P.length) with
 | true=>exact ⟨rfl,rfl⟩
 | false=>
 cases batchV ops with
 | false=>exact ⟨rfl,rfl⟩
 | true=>
 cases Dc ((bytesN (applyK (mapR (tenE s.a i).m (tenE s.a i).m.c) ops):Int)>quoV (-1) s.s (tenE s.a i).j) with
 | true=>exact ⟨rfl,rfl⟩
 | false=>
 have b:(roomS s i).A=s.A/\(roomS s i).s=s.s:=by unfold roomS;cases Dc (6<=(ofLR (tenE s.a i).j s.x).length)<;>exact ⟨rfl,rfl⟩
 cases okB (tenE (roomS s i).a i).m ops&& !Dc (sealB (keyOfV s.A (tenE s.a i).j) s.H ((tenE s.a i).m.c+1) ops= []) with
 | false=>exact ⟨rfl,rfl⟩
 | true=>exact b
theorem zuf (h:storeP s) (j:Nat) (b:j<s.a.length):zcO s.a (j:Int)=some ((snapS s (j:Int)).2,(snapS s (j:Int)).1.a):=by
 have A:=h.tens _ (Il b);have e:=A.snaps;unfold zcO snapS;rw[zg _ j b,zb s.a j b];simp only[Ih,zwa s.a[j].m.u s.a[j].m.c (by omega),no_R];cases Dc (s.a[j].m.c∈s.a[j].m.u) with
 | true=>rfl
 | false=>
   by_cases d:2<=s.a[j].m.u.length
   ·grind
   ·rw[dF,dF d];rw[ze (by grind) (by grind)];unfold withE withT;rw[zg _ j b];rfl
def zrC (s:Af) (i:Int):(snapS s i).1=⟨s.E,s.A,s.s,(snapS s i).1.a,s.x,s.P,s.H⟩:=by
 unfold snapS;cases Dc ((tenE s.a i).m.c∈(tenE s.a i).m.u) with
 | true=>rfl
 | false=>cases Dc (2<=(tenE s.a i).m.u.length)<;>rfl
def zta (s:Af) (c:At) (j:Nat) (b:j<s.a.length) (d:atE s.a (tokR s.E c.U).1=(j:Int)):
    callS s c=(bif !(tokR s.E c.U).2.2|| !Dc (s.a[j].I=(tokR s.E c.U).2.1) then (s,codeR 2) else tenS s (j:Int) c):=by unfold callS;rw[d,zg _ j b,dF,Jx]
def zqS (s:Af) (c:At) (b:atE s.a (tokR s.E c.U).1= -1):callS s c=(s,codeR 2):=by unfold callS;simp_all
theorem zue (h:storeP s) (c:At) (p:c.U.length<=1048576) (i:c.R.length<=1048576):zdH s c=some ((callS s c).2,(callS s c).1):=by
 unfold zdH;rw[zj4 s.E c.U (by omega)];simp only[Ih,zjK h,no_R];rcases zb2 s.a (tokR s.E c.U).1 with ⟨j,b,e,_,_⟩ | ⟨e,_⟩
 ·rw[zta s c j b e,e,dF];simp only[zb s.a j b,Ih];cases (tokR s.E c.U).2.2 with
  | false=>rfl
  | true=>
    cases Dc (s.a[j].I=(tokR s.E c.U).2.1) with
    | false=>rfl
    | true=>
      simp only[In,Ii,iF,Ih,La,cF];have A:=h.tens _ (Il b);have q:=A.snaps;have t:=zk6 s.a[j].m s.a[j].m.c;have l:=zmz A.eng s.a[j].m.c;unfold tenS;rw[zg _ j b];cases Dc (c.B=5) with
      | true=>simp only[iT,zsn h j b c i,Ih,cT];obtain ⟨n,o⟩:=zp3 s (j:Int) c.R;rw[<-n,<-o]
      | false=>
        cases Dc (c.B=6) with
        | true=>simp only[Ii,iF,iT,zt6 s.a j b A.eng,Ih,cT,cF]
        | false=>
          cases Dc (c.B=7) with
          | true=>simp only[Ii,iF,iT,zoR s.a j b A.eng,zlD _ _ _ (show (mapR s.a[j].m s.a[j].m.c).length<=1048576 by omega),Ih,cT,cF]
          | false=>
            cases Dc (c.B=8) with
            | true=>simp only[Ii,iF,iT,zuf h j b,Ih,cT,cF];rw[<-zrC s (j:Int)]
            | false=>
              cases Dc (c.B=11) with
              | true=>simp only[Ii,iF,iT,zoR s.a j b A.eng,zfX _ l (show (mapR s.a[j].m s.a[j].m.c).length<=1048576 by omega),Ih,cT,cF]
              | false=>
                simp only[Ii,iF,cF];unfold heldS;rw[zg _ j b];rcases zwi s.a[j].m.u c.N (by omega) with ⟨k,d,g,f⟩ | ⟨g,f⟩
                ·rw[g];simp only[Ih];rw[dF,dT (f ▸ Il d:c.N∈s.a[j].m.u)];simp only[Ii,iF,cT];cases Dc (c.B=10) with
                 | true=>simp only[iT,zt6 s.a j b A.eng,Ih,cT]
                 | false=>rw[zxt s.a[j].m.u k d (by omega),<-zm8 (zki A.eng).2 k d,f];unfold withE withT;rw[zg _ j b];rfl
                ·grind
 ·rw[zqS s c e,e];simp
theorem zrM (h:storeP s) (c:At) (t:c.R.length<=1048576) (j:Nat) (b:j<s.a.length):zgW s (j:Int) c=some (tenS s (j:Int) c):=by
 have J:=h.tens _ (Il b);have G:=zk6 s.a[j].m s.a[j].m.c;have v:=zmz J.eng s.a[j].m.c;have w:srtK (mapR s.a[j].m s.a[j].m.c):=zk7 J.eng _;obtain ⟨d,e,f,g,H⟩:=zce J.eng;unfold zgW tenS;rw[zg _ j b,zb s.a j b];simp only[Ih];cases Dc (c.B=5) with
 | true=>simp only[iT,zqL h j b c.R t,Ih,cT]
 | false=>
 cases Dc (c.B=6) with
 | true=>simp only[Ii,iF,iT,zmY J.eng,Ih,cT,cF]
 | false=>
 cases Dc (c.B=7) with
 | true=>simp only[Ii,iF,iT,zje _ _ d e f g,zlZ _ _ _ (show (mapR s.a[j].m s.a[j].m.c).length<=1048576 by omega),Ih,cT,cF]
 | false=>
 by_cases l:c.B=8
 ·have y: ¬c.B=11:=by omega
  rw[dT l,dF y];simp only[Ii,iF,iT,cT,cF];have A:((if Dc (((s.a[j].m.u.length:Nat):Int)>=2) then ((idx s.a[j].m.u (J8 (((s.a[j].m.u.length:Nat):Int) - 1))).bind λM=>some (!(Dc (M=s.a[j].m.c)))) else (some false)):Option Bool)=some (Dc (2<=s.a[j].m.u.length)&& !Dc (s.a[j].m.c∈s.a[j].m.u)):=by
   by_cases C:2<=s.a[j].m.u.length
   ·rw[iP (dT),za,show (s.a[j].m.u.length:Int) - 1=((s.a[j].m.u.length - 1:Nat):Int) by omega,zb _ _ (by omega),dT C];simp only[Ih,Jm];rw[decide_eq_decide.2 (zrD (zki J.eng).2 (by omega))]
   ·grind
  rw[A];unfold snapS;rw[zg _ j b];simp only[Ih,zcZ,zrH _ d e f g];unfold snapR;by_cases i:s.a[j].m.c∈s.a[j].m.u
  ·rw[dT i,iP J.eng,iP i];have:s.a.set j ⟨s.a[j].j,s.a[j].I,s.a[j].F,s.a[j].m⟩=s.a:=Jp _;simp_all
  ·by_cases D:2<=s.a[j].m.u.length
   ·simp_all
   ·rw[dF i,dF D,iP J.eng,iN i,iN (show ¬s.a[j].m.u.length=4 by omega)];simp only[Bool.false_and,Ii,iF,cF];unfold withE withT;rw[zg _ j b]
 ·rw[dF l];cases Dc (c.B=11) with
  | true=>simp only[Ii,iF,iT,zje _ _ d e f g,zho _ w v (show (mapR s.a[j].m s.a[j].m.c).length<=1000000 by omega),Ih,cT,cF]
  | false=>
    rw[zcR (λx:Int=>decide (x=c.N)) s.a[j].m.u (by omega) (λ_=>bif Dc (c.B=10) then (s,valR s.a[j].m c.q c.N) else (withE s (j:Int) (dropS s.a[j].m.u c.N),codeR 0)) (z:=(s,codeR 5)) rfl (λk o=>?_) (by simp)]
    ·unfold heldS;rw[zg _ j b];grind
    ·simp only[zb s.a[j].m.u k o,Ih];rw[iP,za (n:=(k:Int)+1)];by_cases p:s.a[j].m.u[k]=c.N
     ·have E:c.N∈s.a[j].m.u:=p ▸ Il o;rw[dT p];simp only[In,Ii,iF,iT,zmY J.eng,zrE _ _ d e f g,Ih];unfold engDropR withE withT;rw[iP J.eng,iP E,zg _ j b];cases Dc (c.B=10)<;>rfl
     ·simp_all
theorem zqk (h:storeP s) (c:At) (b:smC c):zd6 s c=some ((doS s c).2,(doS s c).1):=by
 unfold zd6 doS;simp only[zY,no_R,Ih];cases i:Dc (c.B=1) with
 | true=>
   simp only[iT,zq5 h c,Ih,cT];unfold createS;cases !Dc (1<=c.r/\c.r<=99)||(!Dc (0<=c.N/\c.N<=40)||(!Dc (c.q.length=32)||decide (atE s.a c.r>=0))) with
   | true=>rfl
   | false=>
     cases Dc (4<=s.a.length) with
     | true=>rfl
     | false=>cases (setR s.s c.r c.N).2<;>rfl
 | false=>
   simp only[Ii,iF,cF];by_cases d:c.B=12
   ·rw[dT d,dF,dF (by omega: ¬c.B=13),dF];simp only[Ii,iF,iT,Ih,zug h,cT];rfl
   ·by_cases e:c.B=14
    ·rw[dF d,dT e,dF,dF (by omega: ¬c.B=13),dF];simp only[Ii,iF,iT,Ih,zsl h c.N b.num,cT,cF];unfold crashS;cases Dc (1000<=s.H)<;>rfl
    ·rw[dF d,dF e];simp only[zy5,Ih,cF];cases Dc (2<=c.B/\c.B<=4)||decide (c.B=13) with
     | true=>
       simp only[iT,zu5 h c,Ih,cT];have g:(ownS s c).1.P=s.P:=by
        unfold ownS;cases Dc (atE s.a c.r<0) with
        | true=>rfl
        | false=>
        cases Dc (c.B=2) with
        | true=>unfold quotaS;grind
        | false=>
        cases Dc (c.B=3) with
        | true=>unfold removeS;grind
        | false=>
        cases Dc (c.B=4) with
        | true=>unfold rotateS;cases Dc ((tenE s.a (atE s.a c.r)).I>=1000000)<;>rfl
        | false=>rfl
       rw[<-g]
     | false=>
       simp only[Ii,iF,cF];cases Dc (5<=c.B/\c.B<=11) with
       | true=>
         have f:(callS s c).1.A=s.A/\(callS s c).1.s=s.s:=by
          unfold callS;cases (!(tokR s.E c.U).2.2||(Dc (atE s.a (tokR s.E c.U).1<0)|| !Dc ((tenE s.a (atE s.a (tokR s.E c.U).1)).I=(tokR s.E c.U).2.1))) with
          | true=>exact ⟨rfl,rfl⟩
          | false=>
            unfold tenS;cases Dc (c.B=5) with
            | true=>exact zp3 _ _ _
            | false=>
            cases Dc (c.B=6) with
            | true=>exact ⟨rfl,rfl⟩
            | false=>
            cases Dc (c.B=7) with
            | true=>exact ⟨rfl,rfl⟩
            | false=>
            cases Dc (c.B=8) with
            | true=>simp only[cT,cF];rw[zrC];exact ⟨rfl,rfl⟩
            | false=>
            cases Dc (c.B=11) with
            | true=>exact ⟨rfl,rfl⟩
            | false=>unfold heldS;cases Dc (c.N∈(tenE s.a (atE s.a (tokR s.E c.U).1)).m.u)<;>cases Dc (c.B=10)<;>exact ⟨rfl,rfl⟩
         simp only[iT,zue h c b.tok b.ops,Ih,cT];rw[<-f.1,<-f.2]
       | false=>rfl
theorem zuA (h:storeP s) (c:At) (b:smC c):zkC s c=some (doS s c):=by
 unfold zkC doS;have g:(((zn c.B 1 4).bind λD=>if D=true then (some true) else ((zn c.B 12 14).bind λA=>some A)):Option Bool)=some (Dc (1<=c.B/\c.B<=4)||decide (12<=c.B/\c.B<=14)):=by simp only[zW,Ih];grind
 rw[g];simp only[zW,Ih,zcZ];by_cases i:(1<=c.B/\c.B<=4)\/(12<=c.B/\c.B<=14)
 ·have f:(Dc (1<=c.B/\c.B<=4)||decide (12<=c.B/\c.B<=14))=true:=by simp_all
  simp only[iT,zsQ h c b.num,Ih];grind
 ·have f:(Dc (1<=c.B/\c.B<=4)||decide (12<=c.B/\c.B<=14))=false:=by simp_all
  rw[f,dF (by omega: ¬c.B=1),dF (by omega: ¬c.B=12),dF (by omega: ¬c.B=14),dF (by omega: ¬(2<=c.B/\c.B<=4)),dF (by omega: ¬c.B=13)];cases Dc (5<=c.B/\c.B<=11) with
  | false=>rfl
  | true=>
    rw[zka s.E c.U (by have:=b.tok;omega)];simp only[In,Ii,iF,Ih,zsy h,cT];rcases zb2 s.a (tokR s.E c.U).1 with ⟨j,d,e,_,_⟩ | ⟨e,_⟩
    ·rw[zta s c j d e,e,dF (by omega: ¬(j:Int)<0)];simp only[zb s.a j d,Ih];cases (tokR s.E c.U).2.2 with
     | false=>rfl
     | true=>
       cases Dc (s.a[j].I=(tokR s.E c.U).2.1) with
       | false=>rfl
       | true=>simp only[In,Ii,iF,Ih,zrM h c b.ops j d,La,cF]
    ·rw[zqS s c e,e];cases (tokR s.E c.U).2.2<;>rfl
def zt4 (e:Aa) (key:J3) (seq:Int):(valR e key seq).t= []:=by unfold valR;cases (getR e key seq).2<;>rfl
def zzz (s:Af) (i:Int) (c:At):(tenS s i c).2.t.length<=400:=by
 unfold tenS;cases Dc (c.B=5) with
 | true=>
   unfold writeS;cases Dc (120<=s.P.length) with
   | true=>exact Io _
   | false=>
   cases batchV c.R with
   | false=>exact Io _
   | true=>
   cases Dc ((bytesN (applyK (mapR (tenE s.a i).m (tenE s.a i).m.c) c.R):Int)>quoV (-1) s.s (tenE s.a i).j) with
   | true=>exact Io _
   | false=>
   cases okB (tenE (roomS s i).a i).m c.R&& !Dc (sealB (keyOfV s.A (tenE s.a i).j) s.H ((tenE s.a i).m.c+1) c.R= [])<;>exact Io _
 | false=>
 cases Dc (c.B=6) with
 | true=>simp only[cT,cF];rw[zt4];exact Io _
 | false=>
 cases Dc (c.B=7) with
 | true=>exact Jh (Jo _ _) (zk6 _ _)
 | false=>
 cases Dc (c.B=8) with
 | true=>unfold snapS;cases Dc ((tenE s.a i).m.c∈(tenE s.a i).m.u)<;>cases Dc (2<=(tenE s.a i).m.u.length)<;>exact Io _
 | false=>
 cases Dc (c.B=11) with
 | true=>exact Io _
 | false=>
   simp only[cF];unfold heldS;cases Dc (c.N∈(tenE s.a i).m.u) with
   | false=>exact Io _
   | true=>
     cases Dc (c.B=10) with
     | true=>simp only[cT];rw[zt4];exact Io _
     | false=>exact Io _
def zzY (s:Af) (c:At):(doS s c).2.t.length<=400:=by
 unfold doS;cases Dc (c.B=1) with
 | true=>unfold createS;cases !Dc (1<=c.r/\c.r<=99)||(!Dc (0<=c.N/\c.N<=40)||(!Dc (c.q.length=32)||decide (atE s.a c.r>=0)))<;>cases Dc (4<=s.a.length)<;>cases (setR s.s c.r c.N).2<;>exact Io _
 | false=>
 cases Dc (c.B=12) with
 | true=>exact Io _
 | false=>
 cases Dc (c.B=14) with
 | true=>unfold crashS;cases Dc (1000<=s.H)<;>exact Io _
 | false=>
 cases Dc (2<=c.B/\c.B<=4)||decide (c.B=13) with
 | true=>
   unfold ownS;cases Dc (atE s.a c.r<0) with
   | true=>exact Io _
   | false=>
   cases Dc (c.B=2) with
   | true=>unfold quotaS;cases Dc (0<=c.N/\c.N<=40)<;>cases (setR s.s c.r c.N).2<;>exact Io _
   | false=>
   cases Dc (c.B=3) with
   | true=>unfold removeS;cases Dc (1000<=s.H)||decide (1000000<=s.A.L)<;>exact Io _
   | false=>
   cases Dc (c.B=4) with
   | true=>unfold rotateS;cases Dc ((tenE s.a (atE s.a c.r)).I>=1000000)<;>exact Io _
   | false=>exact Io _
 | false=>
 cases Dc (5<=c.B/\c.B<=11) with
 | false=>exact Io _
 | true=>
   unfold callS;cases !(tokR s.E c.U).2.2||(Dc (atE s.a (tokR s.E c.U).1<0)|| !Dc ((tenE s.a (atE s.a (tokR s.E c.U).1)).I=(tokR s.E c.U).2.1)) with
   | true=>exact Io _
   | false=>exact zzz _ _ _
def noStore:Af:=⟨[],⟨[],[],0⟩,⟨0,[]⟩,[],[],[],0⟩
theorem zz4 (h:engV e=true) (s:Int) (kv:KV) (b:kv∈mapR e s):getR e kv.q s=(kv.Q,true):=by
 have a:=(zi8 h s kv).1 b;unfold getR;rw[h];unfold valE getE;unfold seeE at a;cases f:(allR e).find? (λd=>decide (d.q=kv.q)&&Dc (d.c<=s)) with
 | none=>rw[f]at a;cases a
 | some d=>unfold valO at a;grind
def zzi (s:Af) (i:Int):(roomS s i).E=s.E/\(roomS s i).A=s.A/\(roomS s i).s=s.s/\(roomS s i).H=s.H/\(roomS s i).P=s.P:=by unfold roomS;cases Dc (6<=(ofLR (tenE s.a i).j s.x).length)<;>exact ⟨rfl,rfl,rfl,rfl,rfl⟩
def storeP.pos (h:storeP s) {x:Ar} (b:x∈s.a):1<=x.j:=by obtain ⟨y,c,e⟩:=h.slot b;have:=(((zbK _).1 h.keys).2.2.2.1 y c).1.1;omega
theorem bifP {P:α->Prop} {b:Bool} {p q:α} (a:P p) (c:P q):P (bif b then p else q):=by grind
def restP (s:Af) (p:Af × A6):Prop:=p.1.E=s.E/\p.1.P.length<=s.P.length+1
def zAS (s:Af) (c:At):restP s (doS s c):=by
 have z: ∀(a:Af) (r:A6),a.E=s.E->a.P=s.P->restP s (a,r):=λa r b e=>⟨b,by simp_all⟩;have d: ∀i,restP s (writeS s i c.R):=by intro i;refine bifP (z s _ rfl rfl) (bifP (bifP (z s _ rfl rfl) (bifP ⟨(zzi s i).1,?_⟩ (z s _ rfl rfl))) (z s _ rfl rfl));show (s.P++ [_]).length<=_;simp
 repeat' (first | exact z _ _ rfl rfl | exact d _ | refine bifP ?_ ?_)
def runS:Af->List At->List A6
 | _,[]=>[]
 | s,c::l=>(doS s c).2::runS (doS s c).1 l
def endS:Af->List At->Af
 | s,[]=>s
 | s,c::l=>endS (doS s c).1 l
structure goodS (s:Af) (n:Nat):Prop where
 p:storeP s
 y:syncP s.x
 h:s.P.length<=n
def goodS.next (h:goodS s n) (c:At):goodS (doS s c).1 (n+1):=
 ⟨zBt h.p h.y c,zzZ h.y c,by have:=(zAS s c).2;have:=h.h;omega⟩
def goodS.mono (h:goodS s n) (a:n<=k):goodS s k:=⟨h.p,h.y,Jh h.h a⟩
def zqu: ∀(l:List At) (s:Af),(runS s l).length=l.length
 | [],_=>rfl
 | c::l,s=>by rw[runS,Jc,zqu l,Jc]
def newS (secret master:J3) (size:Int):Af:=⟨secret,⟨master,[],0⟩,⟨size,[]⟩,[],[],[],0⟩
def newSOk (secret master:J3) (size:Int):Bool:=Dc (secret.length=32)&&(Dc (master.length=32)&&Dc (0<=size/\size<=1000))
def playS (secret master:J3) (size:Int) (l:List At):Af × List A6:=bif newSOk secret master size&&Dc (l.length<=120) then (endS (newS secret master size) l,runS (newS secret master size) l) else (noStore,[])
def zmA (h:newSOk secret master size=true):goodS (newS secret master size) 0:=by unfold newSOk at h;rw[Iu,Iu]at h;have a:=of_decide_eq_true h.1;have b:=of_decide_eq_true h.2.1;have c:=of_decide_eq_true h.2.2;refine ⟨⟨a,(zbK _).2 ⟨b,Io _,⟨Jr _,by show (0:Int)<=1000000;omega⟩,λx d=>(by trivial),List.Pairwise.nil⟩,?_,⟨Jr _,by show (0:Int)<=1000;omega⟩,Io _,rfl,rfl,λt f=>(by trivial),λr e=>(by cases e)⟩,List.Pairwise.nil,Kc _⟩;rw[zfI];exact ⟨c,by simp[newS],λx d=>(by trivial),List.Pairwise.nil,by simp[allNeed,newS];omega⟩
def zx9 (secret master:J3) (size:Int):zhm secret master size=some (bif newSOk secret master size then (newS secret master size,true) else (noStore,false)):=by
 unfold zhm newSOk;simp only[zY,len32,Ih];cases Dc (secret.length=32) with
 | false=>rfl
 | true=>
   cases Dc (master.length=32) with
   | false=>rfl
   | true=>cases Dc (0<=size/\size<=1000)<;>rfl
def zxd (l:List At) (s:Af) (k:Nat) (a:k<l.length):runS s (l.drop k)=(doS s l[k]).2::runS (doS s l[k]).1 (l.drop (k+1)):=by rw[Ja a,runS]
def zwJ (l:List At) (s:Af) (k:Nat) (a:k<l.length):endS s (l.drop k)=endS (doS s l[k]).1 (l.drop (k+1)):=by rw[Ja a,endS]
def zpD (secret master:J3) (size:Int) (l:List At) (hl:l.length<=1048576) (h: ∀c∈l,smC c):zgD secret master size l=some (playS secret master size l):=by
 unfold zgD playS;rw[zx9,Ih];cases i:newSOk secret master size with
 | false=>rfl
 | true=>
   simp only[cT,In,Ii,iF,Ih,Jm];by_cases f:l.length<=120
   ·rw[dF (by omega: ¬(l.length:Int)>120),dT f];simp only[Ii,iF,cT];refine zt (λk (S:J3 × J3 × Int × Int × Int × Int × List Bb × List A9 × List Ar × List A5 × List A5 × List A6)=>∃s B,S=(s.E,s.A.S,s.A.L,s.s.K,s.H,(k:Int),s.A.J,s.s.t,s.a,s.x,s.P,B)/\goodS s k/\B.length=k/\B++runS s (l.drop k)=runS (newS secret master size) l/\endS s (l.drop k)=endS (newS secret master size) l) l.length
     (λr=>∃s:Af,s=endS (newS secret master size) l/\r= .go (s.E,s.A.S,s.A.L,s.s.K,s.H,s.A.J,s.s.t,s.a,s.x,s.P,runS (newS secret master size) l)) ⟨newS secret master size,[],rfl,zmA i,rfl,by simp,by simp⟩ ?_ ?_ ?_
    ·rintro k _ b ⟨s,B,rfl,hs,g,d,e⟩;left;rw[zxd l s k b]at d;rw[zwJ l s k b]at e;have j:=zqk hs.p l[k] (h _ (Il b));have D:(⟨s.E,⟨s.A.S,s.A.J,s.A.L⟩,⟨s.s.K,s.s.t⟩,s.a,s.x,s.P,s.H⟩:Af)=s:=rfl;refine ⟨_,?_,(doS s l[k]).1,B++ [(doS s l[k]).2],rfl,hs.next _,by simp[g],by simpa using d,e⟩;simp only[zb l k b,Ih,D,j];rw[iP (by simpa using b),ze (by simp only[Ip];omega) (by simp only[Ip];omega),za (n:=(k:Int)+1)];rfl
    ·rintro _ ⟨s,B,rfl,hs,g,d,e⟩;rw[Jj,runS,Js]at d;rw[Jj,endS]at e;refine ⟨.go (s.E,s.A.S,s.A.L,s.s.K,s.H,s.A.J,s.s.t,s.a,s.x,s.P,B),?_,s,e,by rw[d]⟩;simp
    ·rintro _ ⟨s,hs,rfl⟩;rw[<-hs];rfl
   ·rw[dT (by omega:(l.length:Int)>120),dF f];rfl
def zyx (h:goodS s n) (l:List At): ∀r∈runS s l,r.t.length<=400:=by
 induction l generalizing s n with
 | nil=>intro r a;cases a
 | cons c l ih=>
   intro r a;rcases Iz.1 a with rfl | a
   ·exact zzY s c
   ·exact ih (h.next c) r a
def zp4 (code:J3) (a:code.length<=1048576): ∃s m n l,zee code=some (s,m,n,l)/\l.length<=2000/\∀c∈l,litC c:=by
 unfold zee;obtain ⟨q,d⟩:=zz8 code a;obtain ⟨y,e,f,g,b⟩:=zcF code 0 q 30 (by omega) a;obtain ⟨n,h,z,A⟩:=zyR code 36 a (by omega);simp only[d,zoN,g,h,Ih];refine zhJ (P:=λo=>∃(s m:J3) (n:Int) (l:List At),o=some (s,m,n,l)/\l.length<=2000/\∀c∈l,litC c) (λt:Int × Int × J3=>inB code t.1) (zbG ?_ ?_) λT J=>?_
 ·obtain ⟨s,B,C,i,D,k2⟩:=zz9 code e f b a;simp only[i,Ih];exact zA k2
 ·exact zA b
 ·obtain ⟨E,j,k,p,F,u⟩:=zeS code T.1 T.2.1 [100,100,12,20,1001] (by simp) J a;obtain ⟨l,G,H,v,w,x,I⟩:=zwl code j k (Kr 32 115) n (by omega) u a;simp only[p,v,Ih];exact ⟨_,_,_,_,rfl,w,x⟩
theorem zwn (secret master:J3) (size:Int) (l:List At):(playS secret master size l).2.length<=120/\∀r∈(playS secret master size l).2,r.t.length<=400:=by
 unfold playS;cases a:newSOk secret master size with
 | false=>exact ⟨Io _,λr b=>(by trivial)⟩
 | true=>
   by_cases h:l.length<=120
   ·rw[dT h];exact ⟨by simp only[Kv,cT];rw[zqu];exact h,zyx (zmA a) l⟩
   ·grind
def zzt (secret master:J3) (size:Int):zhu secret master size=some (bif newSOk secret master size then (newS secret master size,true) else (noStore,false)):=by
 unfold zhu newSOk;simp only[zW,len32,Ih];cases Dc (secret.length=32) with
 | false=>rfl
 | true=>
   cases Dc (master.length=32) with
   | false=>rfl
   | true=>cases Dc (0<=size/\size<=1000)<;>rfl
def zpJ (secret master:J3) (size:Int) (l:List At) (hl:l.length<=1048576) (i: ∀c∈l,smC c):zgQ secret master size l=some (playS secret master size l):=by
 unfold zgQ playS;rw[zzt,Ih];cases j:newSOk secret master size with
 | false=>rfl
 | true=>
   simp only[cT,In,Ii,iF,Ih,Jm];by_cases g:l.length<=120
   ·rw[dF (by omega: ¬(l.length:Int)>120),dT g];simp only[Ii,iF,cT];refine zt (λk (S:J3 × J3 × Int × Int × Int × Int × List A6 × List Bb × List A9 × List Ar × List A5 × List A5)=>∃s B,S=(s.E,s.A.S,s.A.L,s.s.K,s.H,(k:Int),B,s.A.J,s.s.t,s.a,s.x,s.P)/\goodS s k/\B.length=k/\B++runS s (l.drop k)=runS (newS secret master size) l/\endS s (l.drop k)=endS (newS secret master size) l) l.length
     (λr=>∃s:Af,storeP s/\s=endS (newS secret master size) l/\r= .go (s.E,s.A.S,s.A.L,s.s.K,s.H,runS (newS secret master size) l,s.A.J,s.s.t,s.a,s.x,s.P)) ⟨newS secret master size,[],rfl,zmA j,rfl,by simp,by simp⟩ ?_ ?_ ?_
    ·rintro k _ b ⟨s,B,rfl,hs,h,d,e⟩;left;rw[zxd l s k b]at d;rw[zwJ l s k b]at e;have f:=zuA hs.p l[k] (i _ (Il b));have D:(⟨s.E,⟨s.A.S,s.A.J,s.A.L⟩,⟨s.s.K,s.s.t⟩,s.a,s.x,s.P,s.H⟩:Af)=s:=rfl;refine ⟨_,?_,(doS s l[k]).1,B++ [(doS s l[k]).2],rfl,hs.next _,by simp[h],by simpa using d,e⟩;simp only[zb l k b,Ih,D,f];rw[iP (by simpa using b),ze (by simp only[Ip];omega) (by simp only[Ip];omega),za (n:=(k:Int)+1)];rfl
    ·rintro _ ⟨s,B,rfl,hs,h,d,e⟩;rw[Jj,runS,Js]at d;rw[Jj,endS]at e;refine ⟨.go (s.E,s.A.S,s.A.L,s.s.K,s.H,B,s.A.J,s.s.t,s.a,s.x,s.P),?_,s,hs.p,e,by rw[d]⟩;simp
    ·rintro _ ⟨s,f,hs,rfl⟩;rw[<-hs];have D:(⟨s.E,⟨s.A.S,s.A.J,s.A.L⟩,⟨s.s.K,s.s.t⟩,s.a,s.x,s.P,s.H⟩:Af)=s:=rfl;simp only[zd,D,zl0 f,Ih]
   ·rw[dT (by omega:(l.length:Int)>120),dF g];rfl
def ztf: ∀(l:List At) (s:Af) (n:Nat),goodS s n->goodS (endS s l) (n+l.length)
 | [],s,n,h=>h
 | c::l,s,n,h=>by have:=ztf l _ _ (h.next c);rw[endS,Jc];exact this.mono (by omega)
def zv0: ∀A:List Ac,(∀e∈(tid A).2,∃x∈A,x.q=e.q/\x.T=false)/\((tid A).1=true->∀x,sameK x A=true->∃y∈A,y.q=x.q/\y.T=false)
 | []=>⟨λe b=>(by cases b),λh=>(by cases h)⟩
 | a::t=>by
   obtain ⟨d,i⟩:=zv0 t;have f:((tid t).1&&sameK a t|| !a.T)=true->∃y∈a::t,y.q=a.q/\y.T=false:=by
    intro h;rcases (Bool.or_eq_true _ _ ▸ h:_\/_) with h | h
    ·obtain ⟨j,k⟩:=(Iu _ _ ▸ h:_/\_);obtain ⟨y,l,e⟩:=i j a k;exact ⟨y,.tail _ l,e⟩
    ·exact ⟨a,.head _,rfl,by simpa using h⟩
   rw[zdF];cases g:((tid t).1&&sameK a t|| !a.T) with
   | false=>refine ⟨λe b=>?_,λh=>(by cases h)⟩;obtain ⟨x,c,h⟩:=d e b;exact ⟨x,.tail _ c,h⟩
   | true=>
     refine ⟨λe b=>?_,λ_ x c=>?_⟩
     ·rcases Iz.1 b with rfl | b
      ·exact f g
      ·obtain ⟨x,c,h⟩:=d e b;exact ⟨x,.tail _ c,h⟩
     ·have m:x.q=a.q:=of_decide_eq_true c;rw[m];exact f g
def zrg (snaps:List Int): ∀(l:List Ac) (p:Option Ac),ordE l->(∀d,p=some d->∀x∈l,entLt d x=true)->∀e∈keepG snaps p l,
    ((∀y∈l,y.q=e.q->y.c<=e.c)/\∀d,p=some d->d.q≠e.q)\/∃s∈snaps,e.c<=s/\(∀y∈l,y.q=e.q->y.c<=s->y.c<=e.c)/\∀d,p=some d->d.q=e.q->s<d.c
 | [],_,_,_,e,i=>by cases i
 | x::r,p,B,w,e,i=>by
   have o:=List.pairwise_cons.1 B
   have t: ∀a b:Ac,entLt a b=true↔(sLt a.q b.q=true\/(a.q=b.q/\b.c<a.c)):=λa b=>by unfold entLt;simp
   rw[keepG]at i
   have C:(e=x/\stayG snaps p x=true)\/e∈keepG snaps (some x) r:=by
    cases hs:stayG snaps p x with
    | true=>rw[hs]at i;rcases Iz.1 i with rfl | h;exact .inl ⟨rfl,rfl⟩;exact .inr h
    | false=>rw[hs]at i;exact .inr i
   rcases C with ⟨rfl,hs⟩ | i
   ·have f: ∀y∈e::r,y.q=e.q->y.c<=e.c:=by
     intro y f g
     rcases Iz.1 f with rfl | f
     ·exact Jr _
     ·rcases (t e y).1 (o.1 y f) with h | h
      ·rw[g,zI]at h;cases h
      ·omega
    cases p with
    | none=>exact .inl ⟨f,λd h=>(by cases h)⟩
    | some d=>
      rw[znL]at hs
      by_cases g:d.q=e.q
      ·rw[dT g,In,Jx,List.any_eq_true]at hs
       obtain ⟨s,D,u⟩:=hs
       rw[Iu,decide_eq_true_eq,decide_eq_true_eq]at u
       exact .inr ⟨s,D,u.1,λy E F _=>f y E F,λJ h _=>by cases h;exact u.2⟩
      ·exact .inl ⟨f,λJ h=>by cases h;exact g⟩
   ·have G:entLt x e=true:=o.1 e ((zgf snaps (some x) r).subset i)
    have z: ∀d,p=some d->x.q≠e.q->d.q≠e.q:=by
     intro d h g m
     have j:=(t d x).1 (w d h x (.head _))
     have k:=(t x e).1 G
     rcases k with k | k
     ·rcases j with j | j
      ·have:=zb3 j k
       rw[m,zI]at this;cases this
      ·exact g (j.1.symm.trans m)
     ·exact g k.1
    rcases zrg snaps r (some x) o.2 (λd h y f=>by cases h;exact o.1 y f) e i with ⟨j,k⟩ | ⟨s,j,k,H,A⟩
    ·have g:=k x rfl
     refine .inl ⟨λy f n=>?_,λd h=>z d h g⟩
     rcases Iz.1 f with rfl | f
     ·exact absurd n g
     ·exact j y f n
    ·refine .inr ⟨s,j,k,λy f n I=>?_,λd h m=>?_⟩
     ·rcases Iz.1 f with rfl | f
      ·have:=A y rfl n;omega
      ·exact H y f n I
     ·by_cases g:x.q=e.q
      ·have:=A x rfl g
       rcases (t d x).1 (w d h x (.head _)) with v | v
       ·rw[m,g,zI]at v;cases v
       ·omega
      ·exact absurd m (z d h g)
def ztr {l:List Ac} {snaps:List Int} (a:ordE l) (i: ∀x∈l,x.c<=q) {e:Ac} (g:e∈keepG snaps none l): ∃v∈q::snaps,seeE l e.q v=some e:=by
 have b:=(zgf snaps none l).subset g;rcases zrg snaps l none a (λd h=>(by cases h)) e g with ⟨f,_⟩ | ⟨s,f,j,k,_⟩
 ·exact ⟨q,.head _,(zjc a).2 ⟨b,rfl,i e b,λy m n _=>f y m n⟩⟩
 ·exact ⟨s,.tail _ f,(zjc a).2 ⟨b,rfl,j,k⟩⟩
def zou {α β:Type} (f:α->List β) (n:Nat): ∀l:List α,(∀x∈l,(f x).length<=n)->(l.flatMap f).length<=n*l.length
 | [],_=>by simp
 | a::t,h=>by have:=zou f n t λx b=>h x (.tail _ b);have:=h a (.head _);rw[List.flatMap_cons,List.length_append,Jc,Nat.mul_add];omega
theorem zyX (h:engV e=true) (V:e.G= []) (m: ∀s,s∈e.c::e.u->(mapR e s).length<=n):(mergeC e).length<=(e.u.length+1)*(n*(e.u.length+1)):=by
 obtain ⟨g,I⟩:=zm1 h;obtain ⟨o,p,J⟩:=zgI h;obtain ⟨L,M,N,O,P,R,S,U⟩:=zJ h;have d:=zm6 e.u true (l:=tabE e) (by have:(tabE e).length<=totalV e.D:=p;omega) o;have i:mergeC e=(tid (keepG e.u none (tabE e))).2:=by
  have:compactR (tabE e) e.u true=mergeC e:=by unfold compactR mergeC tabE;grind
  rw[<-this,d];rfl
 have j: ∀x∈tabE e,x.c<=e.c:=(zuY h).2;have t:=zrm h;have w:(mergeC e).Nodup:=by have z:(mergeC e).Pairwise (λa b=>entLt a b=true):=g.sublist t;refine z.imp λ{a b} k A=>?_;subst A;unfold entLt at k;simp[zI]at k
 have B: ∀x∈mergeC e,x.q∈(e.c::e.u).flatMap λv=>(mapR e v).map KV.q:=by intro x d;rw[i]at d;obtain ⟨y,C,E,F⟩:=(zv0 _).1 x d;obtain ⟨v,f,hs⟩:=ztr g j C;refine Lc.2 ⟨v,f,Km.2 ⟨⟨y.q,y.Q⟩,?_,E⟩⟩;rw[zi8 h,zgl h,V];rw[hs];show (bif y.T then none else some y.Q)=some y.Q;rw[F];rfl
 have H:mergeC e ⊆ ((e.c::e.u).flatMap λv=>(mapR e v).map KV.q).flatMap λK=>(e.c::e.u).filterMap λv=>seeE (tabE e) K v:=by intro x d;refine Lc.2 ⟨x.q,B x d,?_⟩;rw[i]at d;obtain ⟨v,f,hs⟩:=ztr g j ((zkN _).subset d);exact List.mem_filterMap.2 ⟨v,f,hs⟩
 refine Jh (w.length_le_of_subset H) (Jh (zou _ (e.u.length+1) _ λK _=>List.length_filterMap_le _ _) (Ky _ ?_));exact zou _ n _ λv f=>by rw[Iq];exact m v f
def tMod (t:Ar):Am:={j:=t.j,I:=t.I,c:=t.m.c,M:=mapR t.m t.m.c,u:=t.m.u.map λq=>⟨q,mapR t.m q⟩}
def bMod (t:Ar):Am:=⟨t.j,t.I,t.F,mapR (rep0 t) t.F,[]⟩
def rMod (d:Ba) (r:A5):A7:=⟨r.r,(openB (keyOfV d r.r) r.H r.c r.O).1,r.W⟩
def modS (s:Af):As:=⟨s.E,s.s,s.a.map tMod,s.a.map bMod,s.x.map (rMod s.A)⟩
def znb {β:Type} (f:α->β) (p:β->Bool) (l:List α):fstV p (l.map f)=fstV (λx=>p (f x)) l:=by unfold fstV;rw[List.findIdx?_map];rfl
def zkQ (l:List Ar) (id:Int):atT (l.map tMod) id=atE l id:=znb _ _ _
def zuL (l:List Ar) (id:Int):atT (l.map bMod) id=atE l id:=znb _ _ _
def ztz {f:Ar->Am} (a: ∀t,(f t).j=t.j) (id:Int) (l:List Ar):noTen id (l.map f)=(noTE id l).map f:=by unfold noTen noTE;rw[Ko];congr 1;exact List.filter_congr λx _=>by simp[a x]
def zy4 (d:Ba) (id:Int) (l:List A5):ofRow id (l.map (rMod d))=(ofLR id l).length:=by unfold ofRow ofLR;rw[Ko,Iq];rfl
def ztx (d:Ba) (id:Int) (l:List A5):noRow id (l.map (rMod d))=(noLR id l).map (rMod d):=by unfold noRow noLR;rw[Ko];rfl
def zvf {f:Ar->Am} (b: ∀t,(f t).j=t.j) (l:List Ar) (t:Ar) (c: ∀x∈l,¬x.j=t.j):insT (l.map f) (f t)=(insTE l t).map f:=by
 have d:placeT (l.map f) (f t).j=placeE l t.j:=by
  unfold placeT placeE;rw[<-zr2];congr 1;induction l with
  | nil=>rfl
  | cons a r ih=>
    have:=ih λx g=>c x (.tail _ g);simp only[b]at this;have h:=c a (.head _);simp only[List.takeWhile_cons,b];have e:Dc (a.j<=t.j)=Dc (a.j<t.j):=decide_eq_decide.2 (by omega);rw[e];cases Dc (a.j<t.j) with
    | false=>rfl
    | true=>simp only[iT];rw[this]
 unfold insT insTE;rw[d,Jl,Ji,Lj,Lk]
def zoS (e:Aa) (q:Int) (a:e.G= []) (b:e.D= []):mapR e q= []:=by
 have:allR e= []:=by unfold allR;rw[a,b];rfl
 unfold mapR;rw[this];cases engV e<;>rfl
def zAC (id:Int):tMod (newTE id)=newTen id:=by unfold tMod;rw[zoS (newTE id).m _ rfl rfl];rfl
def zzN (id:Int):bMod (newTE id)=newTen id:=by unfold bMod;rw[zoS (rep0 (newTE id)) _ rfl rfl];rfl
structure fewT (t:Ar):Prop where
 now: ∀q,(t.F<=q/\q<=t.m.c)\/q∈t.m.u->bytesN (mapR t.m q)<=40
 tabs:totalV t.m.D<=360
structure simK (k:Nat) (s:Af):Prop where
 g:goodS s k
 boot:s.H<=k
 wip:s.A.L<=k
 ten: ∀t∈s.a,fewT t/\t.I<=k/\t.m.c<=k
 quo: ∀x∈s.s.t,x.Y<=40
def zvD {s:Ad} {t:Int} (b:sharesV s=true) (c:(setR s t q).2=true) (d:q<=40) (h: ∀x∈s.t,x.Y<=40): ∀x∈(setR s t q).1.t,x.Y<=40:=by
 obtain ⟨L,M,R,e,_,_,_,_,f,_⟩:=zjG s t q b c;rw[f];rw[e]at h;intro x a;rcases Jt.1 a with a | a
 ·exact h x (Jt.2 (.inl a))
 ·rcases Iz.1 a with rfl | a
  ·exact d
  ·exact h x (Jt.2 (.inr (Jt.2 (.inr a))))
def simK.up (h:simK k s):simK (k+1) s:=
 ⟨h.g.mono (by omega),by have:=h.boot;omega,by have:=h.wip;omega,λt d=>by obtain ⟨a,b,c⟩:=h.ten t d;exact ⟨a,by omega,by omega⟩,h.quo⟩
def simR (k:Nat) (p:As × A6) (q:Af × A6):Prop:=p=(modS q.1,q.2)/\simK (k+1) q.1
def simR.no (h:simK k s) (r:A6):simR k (modS s,r) (s,r):=⟨rfl,h.up⟩
def zxB {A:Ba} (h:keysV d=true) (a:keysV A=true) {x:Bb} (b:x∈d.J) (c:x∈A.J):keyOfV A x.r=keyOfV d x.r:=by rw[zgg h b,zgg a c]
def ztQ (h:storeP s) (b:keysV d=true) (hl: ∀r∈l,r∈s.x/\∀x∈s.A.J,x.r=r.r->x∈d.J):l.map (rMod d)=l.map (rMod s.A):=by
 refine Iy λr c=>?_;obtain ⟨f,g⟩:=hl r c;obtain ⟨t,i,e⟩:=h.rows r f;obtain ⟨x,a,B⟩:=h.slot i;have:keyOfV d r.r=keyOfV s.A r.r:=by rw[<-e,<-B];exact zxB h.keys b a (g x a (by rw[B,e]))
 unfold rMod;rw[this]
def zy2 (id:Int):fewT (newTE id):=
 ⟨λq _=>by rw[zoS (newTE id).m _ rfl rfl];exact Io _,by simp[newTE,totalV]⟩
def goodS.step (h:goodS s k) (c:At) {p:Af × A6} (a:doS s c=p):goodS p.1 (k+1):=by subst a;exact h.next c
def zxs (h:simK k s) (c:At) (w:c.B=1):simR k (createM (modS s) c) (createS s c):=by
 have b:goodS (createS s c).1 (k+1):=h.g.step c (by unfold doS;rw[dT w];rfl);have F:=h.g.p;revert b;unfold createM createS;rw[show atT (modS s).a c.r=atE s.a c.r from zkQ _ _];cases n:(!Dc (1<=c.r/\c.r<=99)||(!Dc (0<=c.N/\c.N<=40)||(!Dc (c.q.length=32)||decide (atE s.a c.r>=0)))) with
 | true=>exact λ_=>.no h _
 | false=>
   have hl:(modS s).a.length=s.a.length:=Iq ..;rw[hl];cases D:Dc (4<=s.a.length) with
   | true=>exact λ_=>.no h _
   | false=>
     show _->simR k (bif (setR s.s c.r c.N).2 then _ else _) (bif (setR s.s c.r c.N).2 then _ else _);cases i:(setR s.s c.r c.N).2 with
     | false=>exact λ_=>.no h _
     | true=>
       simp only[cT,cF];intro b;simp only[Bool.or_eq_false_iff]at n;have E: ¬atE s.a c.r>=0:=of_decide_eq_false n.2.2.2;have o: ∀x∈s.a,¬x.j=c.r:=by
        rcases zb2 s.a c.r with ⟨j,_,e,_,_⟩ | ⟨_,g⟩
        ·omega
        ·exact g
       have y:c.N<=40:=by simp_all
       refine ⟨?_,b,h.up.boot,h.up.wip,λt m=>?_,zvD F.shares i y h.quo⟩
       ·have u:=zvf (f:=tMod) (λ_=>rfl) s.a (newTE c.r) o;have v:=zvf (f:=bMod) (λ_=>rfl) s.a (newTE c.r) o;rw[zAC]at u;rw[zzN]at v;have z:=ztQ F (d:=addKS s.A c.r c.q) b.p.keys (l:=s.x) λr i=>⟨i,λx C _=>zs7 C⟩;unfold modS;simp only[u,v,z]
       ·rcases zto m with rfl | m
        ·exact ⟨zy2 _,by show (0:Int)<=_;omega,by show (0:Int)<=_;omega⟩
        ·exact (h.up.ten t m)
def zA0 {m:List KV} (h: ∀x∈m,kvV x=true):m.length<=bytesN m:=by
 induction m with
 | nil=>exact Io _
 | cons a r ih=>
   have d:=ih λx b=>h x (.tail _ b);have c:=(zi9 (h a (.head _))).1;unfold bytesN at*;rw[Ji,List.sum_cons,Jc];have e:1<=a.q.length:=by simpa using c.1
   omega
def zzf (h:simK k s) (c:At) (a:goodS (quotaS s c).1 (k+1)):simR k (quotaM (modS s) c) (quotaS s c):=by
 revert a;unfold quotaM quotaS;cases b:Dc (0<=c.N/\c.N<=40) with
 | false=>exact λ_=>.no h _
 | true=>
   have d:=of_decide_eq_true b;show _->simR k (bif (setR s.s c.r c.N).2 then _ else _) (bif (setR s.s c.r c.N).2 then _ else _);cases e:(setR s.s c.r c.N).2 with
   | false=>exact λ_=>.no h _
   | true=>exact λa=>⟨rfl,a,h.up.boot,h.up.wip,h.up.ten,zvD h.g.p.shares e d.2 h.quo⟩
def zxV (h:simK k s) (u:k<=120) (id:Int) (b:goodS (removeS s id).1 (k+1)):simR k (removeM (modS s) id,codeR 0) (removeS s id):=by
 revert b;have v:=h.boot;have w:=h.wip;unfold removeS;rw[dF,dF];intro b;refine ⟨?_,b,?_,?_,λt m=>h.up.ten t (Iv.1 m).1,λx c=>h.quo x ?_⟩
 ·have n:=ztz (f:=tMod) (λ_=>rfl) id s.a;have o:=ztz (f:=bMod) (λ_=>rfl) id s.a;have q:=ztQ h.g.p (d:=wipeKS s.A id) b.p.keys (l:=noLR id s.x) λr i=>⟨(Iv.1 i).1,λx c e=>Iv.2 ⟨c,by have:=(Iv.1 i).2;rw[e];exact this⟩⟩;unfold removeM modS;simp only[n,o,ztx,Bool.or_false,cF];rw[q]
 ·show s.H+1<=_;omega
 ·show s.A.L+1<=_;omega
 ·have j:x∈(shareDropR s.s id).1.t:=c;rw[zm7 id h.g.p.shares]at j;exact (Iv.1 j).1
def set_tMod {l:List Ar} (t:Ar):(l.set j t).map tMod=(l.map tMod).set j (tMod t):=Ll ..
def set_bMod {l:List Ar} (t:Ar):(l.set j t).map bMod=(l.map bMod).set j (bMod t):=Ll ..
def zl6 (h:simK k s) (d:fewT t/\t.I<=k/\t.m.c<=k): ∀x∈s.a.set j t,fewT x/\x.I<=k/\x.m.c<=k:=by
 intro x b;rcases List.mem_or_eq_of_mem_set b with b | rfl
 ·exact h.ten x b
 ·exact d
def zx2 (h:simK k s) (o:k<=120) (j:Nat) (b:j<s.a.length) (e:atE s.a s.a[j].j=(j:Int)) (d:goodS (rotateS s (j:Int)).1 (k+1)):simR k (rotateM (modS s) s.a[j].j) (rotateS s (j:Int)):=by
 have f:j<(modS s).a.length:=by show j<(s.a.map tMod).length;rw[Iq];exact b
 have l:atT (modS s).a s.a[j].j=(j:Int):=(zkQ _ _).trans e;have hb':atT (modS s).F s.a[j].j=(j:Int):=(zuL _ _).trans e;obtain ⟨g,p,q⟩:=h.ten _ (Il b);have i:(modS s).a[j]=tMod s.a[j]:=Ir ..;have n:(modS s).F[j]'(by show j<(s.a.map bMod).length;rw[Iq];exact b)=bMod s.a[j]:=Ir ..;revert d;unfold rotateS;rw[zjr _ _ j f l,zg _ j b,i,hb',dT (by omega:(j:Int)>=0),zdn _ j f,zdn _ j (by show j<(s.a.map bMod).length;rw[Iq];exact b),i,n];rw[dF (show ¬s.a[j].I>=1000000 by omega),dF (show ¬(tMod s.a[j]).I>=1000000 by show ¬s.a[j].I>=1000000;omega)];intro d;refine ⟨?_,d,h.up.boot,h.up.wip,?_,h.quo⟩
 ·unfold modS withT;simp only[cF,cT,Im,set_tMod,set_bMod];rfl
 ·simp only[cF,withT,Im];exact zl6 h.up ⟨⟨g.now,g.tabs⟩,by show s.a[j].I+1<=_;omega,by show s.a[j].m.c<=_;omega⟩
def zAB (h:simK k s) (a:goodS (syncS s) (k+1)):simR k (syncM (modS s),codeR 0) (syncS s,codeR 0):=by refine ⟨?_,a,h.up.boot,h.up.wip,h.up.ten,h.quo⟩;unfold syncM syncS modS;simp only[Lb];rfl
def zna (h:engV e=true) (d:q∈e.u\/e.c<=q):mapR (flatE e) q=mapR e q:=by obtain ⟨a,b⟩:=zkk e;rw[show flatE e=(mergeS (flushS e).2).2 from rfl,zyZ (zfb h) q (by rw[a,b];exact d),ztj h]
def zA2 (h:engV e=true) (a:e.G= []) {b:Int} (c:engV ⟨[],e.D,b,[]⟩=true) (q:Int):mapR ⟨[],e.D,b,[]⟩ q=mapR e q:=
 zhM c h λkey=>by
  have:allR ⟨[],e.D,b,[]⟩=allR e:=by unfold allR;rw[a]
  rw[this]
def zyn (h:fewT t) (b:engV t.m=true) (d:t.F<=t.m.c): ∀q,q∈t.m.c::t.m.u->(mapR t.m q).length<=40:=by
 intro q a;refine Jh (zA0 (zmz b q)) (h.now q ?_);rcases Iz.1 a with rfl | a
 ·exact .inl ⟨d,Jr _⟩
 ·exact .inr a
def zyc (c:List Ac):totalV (tab1 c)=c.length:=by
 unfold tab1;cases b:c with
 | nil=>rfl
 | cons a r=>simp[totalV]
def zz2 {rows:List A5} (h:tenP key rows t) (g:fewT t):totalV (flatE t.m).D<=360:=by
 have k:=h.seq;have d:=h.eng;obtain ⟨a,b⟩:=zkk t.m;have i:(flushS t.m).2.G= []:=by
  by_cases e:t.m.G.length=0\/6<=t.m.D.length
  ·rw[zde e];have:=h.tabs;exact Je (show t.m.G.length=0 by omega)
  ·rw[zfg e]
 by_cases c:(flushS t.m).2.D.length=0
 ·have:flatE t.m=(flushS t.m).2:=by unfold flatE mergeS;rw[dT c];rfl
  rw[this,Je c];simp[totalV]
 ·have j:(flatE t.m).D=tab1 (mergeC (flushS t.m).2):=by unfold flatE mergeS;rw[dF c];rfl
  rw[j,zyc];have hs:=h.snaps;have:=zyX (zfb d) i (n:=40) λq f=>by rw[ztj d];rw[a,b]at f;exact zyn g d (by omega) q f
  rw[b]at this;refine Jh this ?_;exact Jh (Kq (by omega:t.m.u.length+1<=3) (Ky 40 (by omega:t.m.u.length+1<=3))) (by decide)
def zyF {rows:List A5} (h:tenP key rows t) (e:fewT t):tMod (flushT t)=tMod t/\bMod (flushT t)=⟨t.j,t.I,t.m.c,mapR t.m t.m.c,[]⟩/\fewT (flushT t):=by
 have A:=zu2 h;obtain ⟨f,g⟩:=zen t.m;have k:=zu1 h.tabs;have a:=h.eng;have i:mapR (flatE t.m) t.m.c=mapR t.m t.m.c:=zna a (.inr (Jr _));refine ⟨?_,?_,?_,zz2 h e⟩
 ·show ({j:=t.j,I:=t.I,c:=(flatE t.m).c,M:=mapR (flatE t.m) (flatE t.m).c,u:=(flatE t.m).u.map λq=>⟨q,mapR (flatE t.m) q⟩} :Am)=_;rw[f,g,i];unfold tMod;congr 1;exact Iy λq d=>by rw[zna a (.inl d)]
 ·show (⟨t.j,t.I,(flatE t.m).c,mapR ⟨[],(flatE t.m).D,(flatE t.m).c,[]⟩ (flatE t.m).c,[]⟩:Am)=_;rw[zA2 (b:=(flatE t.m).c) (zpk a) k A.start,f,i]
 ·show ∀q,((flatE t.m).c<=q/\q<=(flatE t.m).c)\/q∈(flatE t.m).u->bytesN (mapR (flatE t.m) q)<=40;rw[f,g];have l:=h.seq;rintro q (d | d)
  ·rw[zna a (.inr (by omega))];exact e.now q (.inl ⟨by omega,by omega⟩)
  ·rw[zna a (.inl d)];exact e.now q (.inr d)
def ztk (h:simK k s) (j:Nat) (b:j<s.a.length) (d:goodS (flushO s (j:Int)) k):modS (flushO s (j:Int))=flushM (modS s) (j:Int)/\simK k (flushO s (j:Int)):=by
 have A:=h.g.p;have B:=A.tens _ (Il b);obtain ⟨e,o,q⟩:=h.ten _ (Il b);obtain ⟨f,i,l⟩:=zyF B e;have n:getT (modS s).a (j:Int)=tMod s.a[j]:=by rw[zcs _ j (by show j<(s.a.map tMod).length;rw[Iq];exact b)];exact Ir ..
 have hb':atT (modS s).F s.a[j].j=(j:Int):=(zuL _ _).trans (A.at j b);refine ⟨?_,d,h.boot,h.wip,?_,h.quo⟩
 ·unfold flushM;rw[n,show (tMod s.a[j]).j=s.a[j].j from rfl,hb',dT (by omega:(j:Int)>=0)];unfold modS flushO;simp only[zg _ j b,cT,Im,set_tMod,set_bMod,f,i,ztx];congr 1;rw[show tMod s.a[j]=(s.a.map tMod)[j]'(by rw[Iq];exact b) from (Ir ..).symm];exact Jp _
 ·show ∀x∈s.a.set (j:Int).toNat (flushT (tenE s.a (j:Int))),_;rw[zg _ j b,Im];refine zl6 h ⟨l,by show s.a[j].I<=_;omega,?_⟩;show (flatE s.a[j].m).c<=_;rw[(zen _).1];omega
def zA8 (h:simK k s) (f:k<=120) (c:At) (b:goodS (ownS s c).1 (k+1)):simR k (ownM (modS s) c) (ownS s c):=by
 revert b;unfold ownM ownS;rw[show atT (modS s).a c.r=atE s.a c.r from zkQ _ _];rcases zb2 s.a c.r with ⟨j,d,e,i,_⟩ | ⟨e,_⟩
 ·rw[e,dF (by omega: ¬(j:Int)<0)];simp only[cF];cases Dc (c.B=2) with
  | true=>exact zzf h c
  | false=>
    cases Dc (c.B=3) with
    | true=>exact zxV h f c.r
    | false=>
      cases Dc (c.B=4) with
      | true=>simp only[cT,cF];rw[<-i];exact zx2 h f j d (h.g.p.at j d)
      | false=>intro b;obtain ⟨l,m⟩:=ztk h.up j d b;exact ⟨by simp only[cF];rw[l],m⟩
 ·rw[e];exact λ_=>.no h _
def stepM (x:Am) (r:A7):Am:=⟨x.j,x.I,x.c+1,applyK x.M r.R,x.u⟩
def zAj {l:List Ar} (h: ∀i j (hi:i<l.length) (a:j<l.length),¬i=j->¬l[i].j=l[j].j) {g:Ar->Am} (k: ∀t,(g t).j=t.j) (r:A7):playT (l.map g) r=l.map λt=>bif Dc (r.r=t.j) then stepM (g t) r else g t:=by
 have d:atT (l.map g) r.r=atE l r.r:=by refine (znb _ _ _).trans ?_;unfold atE;congr 1;funext x;rw[k]
 rcases zb2 l r.r with ⟨j,a,e,f,_⟩ | ⟨e,m⟩
 ·have n:j<(l.map g).length:=by rw[Iq];exact a
  rw[zhY _ r j n (d.trans e)];refine List.ext_getElem (by simp) λi q o=>?_;have hi:i<l.length:=by simpa using o
  rw[List.getElem_set];simp only[Ir];by_cases b:j=i
  ·subst b;rw[iP rfl,dT f.symm];rfl
  ·rw[iN b,dF (λc=>h j i a hi b (f.trans c))];rfl
 ·rw[zgK _ r (d.trans e)];exact Iy λt p=>by rw[dF (λc=>m t p c.symm)];rfl
def ztG {l:List Ar} (b: ∀i j (hi:i<l.length) (c:j<l.length),¬i=j->¬l[i].j=l[j].j) (d:Ba): ∀(rows:List A5) (g:Ar->Am),(∀t,(g t).j=t.j)->
    (rows.map (rMod d)).foldl playT (l.map g)=l.map λt=>((ofLR t.j rows).map (rMod d)).foldl stepM (g t)
 | [],g,a=>rfl
 | r::rows,g,a=>by
   rw[Ji,Lf,zAj b a,ztG b d rows (λt=>bif Dc ((rMod d r).r=t.j) then stepM (g t) (rMod d r) else g t) λt=>by
    cases Dc ((rMod d r).r=t.j)
    ·exact a t
    ·exact a t]
   refine Iy λt _=>?_
   unfold ofLR
   rw[List.filter_cons]
   show (((rows.filter _).map (rMod d)).foldl stepM (bif Dc (r.r=t.j) then _ else _))=_
   cases Dc (r.r=t.j)<;>rfl
def ztP {key:J3} {d:Ba} : ∀(rows:List A5) (e:Aa) (x:Am),engV e=true->(∀r∈rows,keyOfV d r.r=key)->(repS key e rows).2=true->x.M=mapR e e.c->
    (rows.map (rMod d)).foldl stepM x=⟨x.j,x.I,x.c+(rows.length:Int),mapR (repS key e rows).1 (repS key e rows).1.c,x.u⟩
 | [],e,x,p,i,g,h=>by
   obtain ⟨a,b,c,m,f⟩:=x
   simp only at h
   subst h
   simp[repS]
 | r::rows,e,x,p,i,g,h=>by
   have s:=i r (.head _)
   simp only[repS]at g |-
   cases k:(openB key r.H r.c r.O).2&&(putR e (openB key r.H r.c r.O).1).2 with
   | false=>rw[k]at g;cases g
   | true=>
     rw[k]at g
     simp only[cT]at g |-
     obtain ⟨l,n,o,t⟩:=zgk (Iu _ _ ▸ k:_/\_).2
     rw[t]at g |-
     rw[Ji,Lf,ztP rows (engB e (openB key r.H r.c r.O).1) (stepM x (rMod d r)) ((zgv l n).trans o) (λq v=>i q (.tail _ v)) g ?_]
     ·unfold stepM
      simp only[Jc]
      congr 1
      omega
     ·show applyK x.M (openB (keyOfV d r.r) r.H r.c r.O).1=mapR _ (e.c+1)
      rw[zsE l n o,h,s]
def zxa {key:J3} : ∀(rows:List A5) (e:Aa),(repS key e rows).2=true->∀q,q<=e.c->mapR (repS key e rows).1 q=mapR e q
 | [],e,_,q,_=>rfl
 | r::rows,e,a,q,d=>by
   simp only[repS]at a |-
   cases b:(openB key r.H r.c r.O).2&&(putR e (openB key r.H r.c r.O).1).2 with
   | false=>rw[b]at a;cases a
   | true=>
     rw[b]at a;simp only[cT]at a |-
     obtain ⟨f,g,h,i⟩:=zgk (Iu _ _ ▸ b:_/\_).2;rw[i]at a |-
     rw[zxa rows _ a q (by show q<=e.c+1;omega),zmb f g h d]
def znq (d:Ba): ∀(l:List A5) (n:Int),keepR n (l.map (rMod d))=(keepL n l).map (rMod d)
 | [],n=>rfl
 | r::l,n=>by
   have e:(rMod d r).W=r.W:=rfl;rw[Ji,keepR,keepL,e];cases r.W with
   | true=>simp only[cT,Ji];rw[znq d l n];rfl
   | false=>
     cases Dc (n<1) with
     | true=>simp only[cT,cF];rw[znq d l n]
     | false=>simp only[cF,Ji];rw[znq d l (n - 1)];rfl
def zxL (h:engV e=true) (q:Int):mapR ⟨e.G,e.D,e.c,[]⟩ q=mapR e q:=
 zhM (zgw h (l:=[]) (Io _) rfl) h λ_=>rfl
def zys {rows a b:List A5} (h:tenP (keyOfV d t.j) rows t) (l:fewT t) (i:rows=a++b) (v: ∀r∈rows,r.r=t.j):
    tMod (crashT (keyOfV d t.j) (a.map markL) t)=((a.map markL).map (rMod d)).foldl stepM (bMod t)/\bMod (crashT (keyOfV d t.j) (a.map markL) t)=bMod t/\fewT (crashT (keyOfV d t.j) (a.map markL) t)/\(crashT (keyOfV d t.j) (a.map markL) t).m.c<=t.m.c:=by
 have n:=h.runs;have k:a.Sublist rows:=by rw[i];exact List.sublist_append_left _ _
 have g:(repS (keyOfV d t.j) (rep0 t) a).2=true:=by
  have:=h.part k
  rwa [zh2]at this
 obtain ⟨o,p,s⟩:=zkw _ _ _ g;have z:a.length<=rows.length:=k.length_le;have A:=h.seq;have f:repS (keyOfV d t.j) (rep0 t) (a.map markL)=repS (keyOfV d t.j) (rep0 t) a:=zh2 _ _ _;have w:(repS (keyOfV d t.j) (rep0 t) a).1.c<=t.m.c:=by rw[s];show t.F+_<=_;omega
 have x: ∀q,q<=(repS (keyOfV d t.j) (rep0 t) a).1.c->mapR (repS (keyOfV d t.j) (rep0 t) a).1 q=mapR t.m q:=by intro q e;rw[<-zxL h.eng q,<-h.eng_is,i,zfH,g,cond_true];refine (zxa b _ ?_ q e).symm;rw[i,zfH,g,cond_true]at n;exact n
 refine ⟨?_,?_,⟨?_,?_⟩,?_⟩
 ·rw[ztP (key:=keyOfV d t.j) (a.map markL) (rep0 t) (bMod t) h.start ?_ (by rw[f];exact g) rfl]
  ·rw[f];unfold tMod crashT;rw[f];simp only[p];show (⟨t.j,t.I,(repS (keyOfV d t.j) (rep0 t) a).1.c,_,List.map _ ([]:List Int)⟩:Am)=_;rw[s,Iq];rfl
  ·intro r y;obtain ⟨q,e,rfl⟩:=Km.1 y;show keyOfV d q.r=_;rw[v q (k.subset e)]
 ·unfold bMod crashT rep0;simp only;rw[show (⟨[],t.m.D,t.F,[]⟩:Aa)=rep0 t from rfl,f,o];rfl
 ·show ∀q,(t.F<=q/\q<=(repS (keyOfV d t.j) (rep0 t) (a.map markL)).1.c)\/q∈(repS (keyOfV d t.j) (rep0 t) (a.map markL)).1.u->bytesN (mapR (repS (keyOfV d t.j) (rep0 t) (a.map markL)).1 q)<=40;rw[f,p];rintro q (e | e)
  ·rw[x q e.2];exact l.now q (.inl ⟨e.1,by omega⟩)
  ·cases e
 ·show totalV (repS (keyOfV d t.j) (rep0 t) (a.map markL)).1.D<=360;rw[f,o];exact l.tabs
 ·show (repS (keyOfV d t.j) (rep0 t) (a.map markL)).1.c<=_;rw[f];exact w
def zyr (h:simK k s) (w:k<=120) (n:Int) (c:goodS (crashS s n).1 (k+1)):simR k (crashM (modS s) n,codeR 0) (crashS s n):=by
 revert c;have J:=h.g.p;have z:=h.boot;unfold crashS;rw[dF];simp only[cF];intro c;obtain ⟨j,e⟩:=zit s.x n h.g.y;have f: ∀id,ofLR id (keepL n s.x)=(ofLR id (s.x.take j)).map markL:=λid=>by rw[e,zlR]
 have m: ∀id,ofLR id s.x=ofLR id (s.x.take j)++ofLR id (s.x.drop j):=λid=>by rw[<-zny,Kp]
 have l: ∀t∈s.a,_:=λt b=>zys (d:=s.A) (J.tens t b) (h.ten t b).1 (m t.j) λr o=>of_decide_eq_true (Iv.1 o).2;refine ⟨?_,c,?_,h.up.wip,λx q=>?_,h.quo⟩
 ·unfold crashM modS;simp only[znq];congr 1;rw[ztG (λi j hi e u=>J.ne hi e u) s.A _ bMod λ_=>rfl,Lb,Lb];congr 1
  ·refine Iy λt b=>?_;show _=tMod (crashT _ _ t);rw[f,(l t b).1]
  ·refine Iy λt b=>?_;show bMod t=bMod (crashT _ _ t);rw[f,(l t b).2.1]
 ·show s.H+1<=_;omega
 ·obtain ⟨t,b,rfl⟩:=Km.1 q;rw[f];obtain ⟨B,C,D⟩:=h.ten t b;obtain ⟨E,F,v,G⟩:=l t b;exact ⟨v,by show t.I<=_;omega,by omega⟩
def zv2 (h:engV e=true) (key:J3) (q:Int):valR e key q=findR (mapR e q) key:=by
 unfold valR findR;cases a:(mapR e q).find? (λx=>decide (x.q=key)) with
 | some x=>
   have f:=Kh a;have g:x.q=key:=by have:=List.find?_some a;simpa using this
   rw[<-g,zz4 h q x f];rfl
 | none=>
   have i:(getR e key q).2=false:=by
    unfold getR;rw[h];simp only[cT];have hs:seeE (allR e) key q=(allR e).find? λd=>decide (d.q=key)&&Dc (d.c<=q):=rfl;unfold valE getE;cases j:(allR e).find? (λd=>decide (d.q=key)&&Dc (d.c<=q)) with
    | none=>rfl
    | some d=>
      cases b:d.T with
      | true=>simp[b]
      | false=>exfalso;have k:=(zi8 h q ⟨key,d.Q⟩).2 (by show valO (seeE (allR e) key q)=some d.Q;rw[hs,j];show (bif d.T then none else some d.Q)=_;rw[b];rfl);have:=List.find?_eq_none.1 a _ k;simp at this
   rw[i];rfl
theorem zzr {seq:Int} {l:List Int} (g:snapsV seq l=true) (f:Int->Bf) (j: ∀q,(f q).c=q):lastIs (l.map f) seq=Dc (seq∈l):=by
 have hs: ∀i (hi:i<l.length),(0<=l[i]/\l[i]<=seq)/\(∀h:0<i,l[i - 1]'(by omega)<l[i]):=by intro i hi;unfold snapsV at g;rw[Ld]at g;have:=g i (by simpa using hi);unfold snapP at this;grind
 have k: ∀d i (hi:i+d<l.length),l[i]'(by omega)+(d:Int)<=l[i+d]:=by
  intro d;induction d with
  | zero=>intro i hi;simp
  | succ d ih=>
    intro i hi;have a:=ih i (by omega);have b:=(hs (i+(d+1)) hi).2 (by omega);have c:i+(d+1) - 1=i+d:=by omega
    simp only[c]at b;omega
 unfold lastIs;rw[List.getLast?_map,List.getLast?_eq_getElem?];by_cases h:l.length=0
 ·have:=Je h;subst this;rfl
 ·have hl:l.length - 1<l.length:=by omega
  rw[Kj hl];simp only[Option.map_some,j];refine decide_eq_decide.2 ⟨λe=>?_,λm=>?_⟩
  ·rw[<-e];exact Il hl
  ·obtain ⟨i,hi,e⟩:=Jz m;have a:=k (l.length - 1 - i) i (by omega);have b:=(hs (l.length - 1) hl).1.2;have c:i+(l.length - 1 - i)=l.length - 1:=by omega
   simp only[c]at a;omega
def zAH (b:j<s.a.length) (h:storeP s) (l:List Int) (d:engV ⟨s.a[j].m.G,s.a[j].m.D,s.a[j].m.c,l⟩=true):modS (withE s (j:Int) l)=withSnaps (modS s) (j:Int) (l.map λq=>⟨q,mapR s.a[j].m q⟩):=by
 have e:j<(modS s).a.length:=by show j<(s.a.map tMod).length;rw[Iq];exact b
 have f:(modS s).a[j]=tMod s.a[j]:=Ir ..;have g:=(h.tens _ (Il b)).eng;have i: ∀q,mapR ⟨s.a[j].m.G,s.a[j].m.D,s.a[j].m.c,l⟩ q=mapR s.a[j].m q:=λq=>zhM d g λ_=>rfl;rw[zdY _ j e,f];unfold withE withT modS;rw[zg _ j b];simp only[Im,set_tMod,set_bMod];congr 1
 ·congr 1;unfold tMod;simp only[i]
 ·rw[show bMod ⟨s.a[j].j,s.a[j].I,s.a[j].F,⟨s.a[j].m.G,s.a[j].m.D,s.a[j].m.c,l⟩⟩=(s.a.map bMod)[j]'(by rw[Iq];exact b) from by rw[Ir];rfl];exact Jp _
def zt8 (h:simK k s) (j:Nat) (d:j<s.a.length) (l:List Int) (hl: ∀q∈l,q∈s.a[j].m.u\/q=s.a[j].m.c) (f:goodS (withE s (j:Int) l) (k+1)) (r:A6):
    simR k (withSnaps (modS s) (j:Int) (l.map λq=>⟨q,mapR s.a[j].m q⟩),r) (withE s (j:Int) l,r):=by
 obtain ⟨e,n,o⟩:=h.up.ten _ (Il d);have B:=h.g.p.tens _ (Il d);have v:=B.seq;have A:=f.p.tens ⟨s.a[j].j,s.a[j].I,s.a[j].F,⟨s.a[j].m.G,s.a[j].m.D,s.a[j].m.c,l⟩⟩ (by unfold withE withT;rw[zg _ j d];exact List.mem_set (by simpa using d) _);have i:=A.eng;have t: ∀q,mapR ⟨s.a[j].m.G,s.a[j].m.D,s.a[j].m.c,l⟩ q=mapR s.a[j].m q:=λq=>zhM i B.eng λ_=>rfl;refine ⟨by rw[zAH d h.g.p l i],f,h.up.boot,h.up.wip,?_,h.quo⟩;show ∀x∈(withE s (j:Int) l).a,_;unfold withE withT;rw[zg _ j d,Im];refine zl6 h.up ⟨⟨λq b=>?_,e.tabs⟩,n,o⟩;rw[t];rcases b with b | b
 ·exact e.now q (.inl b)
 ·rcases hl q b with b | rfl
  ·exact e.now q (.inr b)
  ·exact e.now _ (.inl ⟨by omega,Jr _⟩)
def zAv (h:simK k s) (j:Nat) (d:j<s.a.length) (e:goodS (snapS s (j:Int)).1 (k+1)):simR k (snapM (modS s) (j:Int)) (snapS s (j:Int)):=by
 have f:j<(modS s).a.length:=by show j<(s.a.map tMod).length;rw[Iq];exact d
 have i:(modS s).a[j]=tMod s.a[j]:=Ir ..;have A:=h.g.p.tens _ (Il d);revert e;rw[zlU _ j f,i];unfold snapS;rw[zg _ j d];have hl:lastIs (tMod s.a[j]).u (tMod s.a[j]).c=Dc (s.a[j].m.c∈s.a[j].m.u):=zzr (zJ A.eng).2.2.2.2.2.2.2 _ λ_=>rfl;have l:(tMod s.a[j]).u.length=s.a[j].m.u.length:=Iq ..;rw[hl,l];cases Dc (s.a[j].m.c∈s.a[j].m.u) with
 | true=>exact λ_=>.no h _
 | false=>
   cases Dc (2<=s.a[j].m.u.length) with
   | true=>exact λ_=>.no h _
   | false=>
     intro e;have:=zt8 h j d (s.a[j].m.u++ [s.a[j].m.c]) (λq b=>by
      rcases Jt.1 b with b | b
      ·exact .inl b
      ·exact .inr (List.mem_singleton.1 b)) e ⟨0,s.a[j].m.c,[],[]⟩
     rw[Jl]at this;exact this
def zz7 (h:simK k s) (j:Nat) (d:j<s.a.length) (c:At) (f:goodS (heldS s (j:Int) c).1 (k+1)):simR k (heldM (modS s) (j:Int) c) (heldS s (j:Int) c):=by
 have n:j<(modS s).a.length:=by show j<(s.a.map tMod).length;rw[Iq];exact d
 have o:(modS s).a[j]=tMod s.a[j]:=Ir ..;have A:=h.g.p.tens _ (Il d);have t:=(zJ A.eng).2.2.2.2.2.2.2;revert f;rw[zlA _ j n,o];unfold heldS;rw[zg _ j d];have v:atS (tMod s.a[j]).u c.N=fstV (λq=>decide (q=c.N)) s.a[j].m.u:=znb _ _ _;rw[v];rcases zfB (λq=>decide (q=c.N)) s.a[j].m.u with ⟨i,hi,e,l,y⟩ | ⟨e,l⟩
 ·have b:s.a[j].m.u[i]=c.N:=of_decide_eq_true l;rw[e,dF (by omega: ¬(i:Int)<0),dT (by rw[<-b];exact Il hi:c.N∈s.a[j].m.u)];simp only[cT,cF,Im];cases Dc (c.B=10) with
  | true=>
    intro _;have w:((tMod s.a[j]).u.getD i ⟨0,[]⟩)=⟨c.N,mapR s.a[j].m c.N⟩:=by rw[List.getD_eq_getElem?_getD];show ((s.a[j].m.u.map _)[i]?).getD _=_;rw[List.getElem?_map,Kj hi,b];rfl
    simp only[cT];rw[w,zv2 A.eng];exact .no h _
  | false=>
    intro f;have:=zt8 h j d (dropS s.a[j].m.u c.N) (λq b=>.inl (Iv.1 b).1) f (codeR 0);rw[<-b,zm8 t i hi]at this |-
    rw[Jl,Lj,Lk]at this;exact this
 ·rw[e,dF (by intro x;have:=l _ x;simp at this: ¬c.N∈s.a[j].m.u)];exact λ_=>.no h _
def zuQ (l:List Op): ∀k,cntB l k<=k
 | 0=>Kc _
 | k+1=>by
   have:=zuQ l k;unfold cntB;cases l[k]? with
   | none=>simp only;omega
   | some o=>simp only;cases laterV l k o.q<;>simp<;>omega
def zvn {key:J3} : ∀(rows:List A5) (e:Aa),(repS key e rows).2=true->(repS key e rows).1.G.length<=e.G.length+6*rows.length
 | [],e,_=>by simp[repS]
 | r::rows,e,f=>by
   simp only[repS]at f |-
   cases g:(openB key r.H r.c r.O).2&&(putR e (openB key r.H r.c r.O).1).2 with
   | false=>rw[g]at f;cases f
   | true=>
     rw[g]at f;simp only[cT]at f |-
     obtain ⟨i,h,k,j⟩:=zgk (Iu _ _ ▸ g:_/\_).2;rw[j]at f |-
     have a:=zvn rows _ f;have b:=zkU i h;have c:=zuQ (openB key r.H r.c r.O).1 (openB key r.H r.c r.O).1.length;have d:=(zbF h).1.2;rw[Jc];omega
def zBd {boot seq:Int} {l:List Op} (a:batchV l=true) (b:key.length=32) (c:0<=boot/\boot<=1000) (d:0<=seq/\seq<=999999):sealB key boot seq l≠[]:=by
 have f:placeV boot seq=true:=by unfold placeV;rw[dT c,dT d];rfl
 have g:(placeN boot seq).length=12:=by unfold placeN;rw[za (n:=boot*1000000),za];exact zxN (by omega) (by omega)
 unfold sealB;rw[a,f,dT b];have hl:=zjH a;have hs:streamOk key 0 (placeN boot seq) (showB l).length=true:=by unfold streamOk chaOk;rw[dT b,dT g,dT (by omega:(0:Int)<=0/\(0:Int)<=4294967295),dT (.inr (by omega))];rfl
 simp only[Kv,cT];unfold streamV;rw[hs];intro e;have:=congrArg List.length e;simp only[cT,zcd,Kn]at this;exact zqx a (Je this)
def zAY (h:storeP s) (c:t∈s.a):(keyOfV s.A t.j).length=32:=by obtain ⟨x,b,e⟩:=h.slot c;obtain ⟨_,_,_,d,_⟩:=(zbK s.A).1 h.keys;rw[<-e,zgg h.keys b];exact (d x b).2
def zAr (h:simK k s) (j:Nat) (b:j<s.a.length):modS (roomS s (j:Int))=(bif Dc (6<=ofRow s.a[j].j (modS s).x) then flushM (modS s) (j:Int) else modS s)/\simK k (roomS s (j:Int)):=by
 have e:ofRow s.a[j].j (modS s).x=(ofLR s.a[j].j s.x).length:=zy4 _ _ _;unfold roomS;rw[e,zg _ j b];cases Dc (6<=(ofLR s.a[j].j s.x).length) with
 | false=>exact ⟨rfl,h⟩
 | true=>refine ztk h j b ⟨zlx h.g.p j b,?_,h.g.h⟩;unfold flushO;rw[zg _ j b];exact znM h.g.y _
theorem zvH (h:engV e=true) (b:q∈e.u):q<=e.c:=by have a:=(zJ h).2.2.2.2.2.2.2;obtain ⟨i,hi,rfl⟩:=Jz b;unfold snapsV at a;rw[Ld]at a;have:=a i (by simpa using hi);unfold snapP at this;grind
def zzJ (h:simK k s) (hk:k<120) (j:Nat) (d:j<s.a.length) (ops:List Op) (v:goodS (writeS s (j:Int) ops).1 (k+1)):simR k (writeM (modS s) (j:Int) ops) (writeS s (j:Int) ops):=by
 have z:j<(modS s).a.length:=by show j<(s.a.map tMod).length;rw[Iq];exact d
 have B:(modS s).a[j]=tMod s.a[j]:=Ir ..;have hP:=h.g.p;have hT:=hP.tens _ (Il d);have hh:=h.g.h;revert v;rw[zkK _ j z,B];unfold writeS;rw[zg _ j d,dF (by omega: ¬120<=s.P.length)];simp only[cF];cases f:batchV ops with
 | false=>exact λ_=>.no h _
 | true=>
   simp only[cT];show _->simR k (bif Dc ((bytesN (applyK (mapR s.a[j].m s.a[j].m.c) ops):Int)>quoV (-1) s.s s.a[j].j) then _ else _) _;cases b:Dc ((bytesN (applyK (mapR s.a[j].m s.a[j].m.c) ops):Int)>quoV (-1) s.s s.a[j].j) with
   | true=>exact λ_=>.no h _
   | false=>
     simp only[cF];have a3:=of_decide_eq_false b;have a4:quoV (-1) s.s s.a[j].j<=40:=by
      unfold quoV;cases Q:s.s.t.find? (λx=>decide (x.r=s.a[j].j)) with
      | none=>simp
      | some x=>exact h.quo x (Kh Q)
     obtain ⟨r1,r2⟩:=zAr h j d;obtain ⟨R,C,D,E,J,S,l,K,w,T⟩:=zvz s j d;generalize roomS s (j:Int)=a at r1 r2 R C D E J S l K w T |-
     have i:j<a.a.length:=by omega
     rw[zg _ j i]at l K w |-
     have hPa:=r2.g.p;have hTa:=hPa.tens _ (Il i);obtain ⟨y,f2,f3⟩:=r2.ten _ (Il i);have U:rowsV a a.a[j].j=ofLR s.a[j].j a.x:=by rw[l];rfl
     have a5:a.a[j].m.G.length<=30:=by have:=zvn _ _ hTa.runs;rw[hTa.mem,U]at this;have h0:(rep0 a.a[j]).G.length=0:=rfl;omega
     have a6:=zuQ ops ops.length;have a7:=(zbF f).1.2;have V:=zkU hTa.eng f;have a8:(memB ops (a.a[j].m.c+1) a.a[j].m.G ops.length).length=a.a[j].m.G.length+cntB ops ops.length:=V;have a9:=(zJ hT.eng).1;have b0:=y.tabs;have b1:=(h.ten _ (Il d)).2.2;have n:okB a.a[j].m ops=true:=by unfold okB;rw[dT,dT,dT];rfl
     have W:=hP.boot;have L:sealB (keyOfV s.A s.a[j].j) s.H (s.a[j].m.c+1) ops≠[]:=zBd f (zAY hP (Il d)) W ⟨by omega,by omega⟩;rw[n,dF L];simp only[Is,Kv,cT];intro v;have hM: ∀e,a.a.map tMod=e->e=a.a.map tMod:=λ_ h=>h.symm;have o:(modS s).a=(modS a).a:=by rw[r1];cases Dc (6<=ofRow s.a[j].j (modS s).x)<;>rfl
     have N:tMod s.a[j]=tMod a.a[j]:=by have:=List.getElem_of_eq o z;rw[B]at this;rw[this];exact Ir ..
     have X:mapR s.a[j].m s.a[j].m.c=mapR a.a[j].m a.a[j].m.c:=congrArg Am.M N;refine ⟨?_,v,?_,?_,?_,?_⟩
     ·have Y:tMod ⟨a.a[j].j,a.a[j].I,a.a[j].F,engB a.a[j].m ops⟩=⟨(tMod s.a[j]).j,(tMod s.a[j]).I,(tMod s.a[j]).c+1,applyK (tMod s.a[j]).M ops,(tMod s.a[j]).u⟩:=by rw[N];unfold tMod;have Z:=zsE hTa.eng f n;simp only[show (engB a.a[j].m ops).c=a.a[j].m.c+1 from rfl,show (engB a.a[j].m ops).u=a.a[j].m.u from rfl,Z];congr 1;refine Iy λq b=>?_;rw[zmb hTa.eng f n (zvH hTa.eng b)]
      have a0:bMod ⟨a.a[j].j,a.a[j].I,a.a[j].F,engB a.a[j].m ops⟩=bMod a.a[j]:=rfl;have a1:rMod a.A ⟨a.a[j].j,a.H,a.a[j].m.c+1,sealB (keyOfV a.A a.a[j].j) a.H (a.a[j].m.c+1) ops,false⟩=⟨(tMod s.a[j]).j,ops,false⟩:=by
       unfold rMod;have e2:sealB (keyOfV a.A a.a[j].j) a.H (a.a[j].m.c+1) ops≠[]:=by rw[C,D,l,w];exact L
       simp only[(zrq e2).1];rw[l];rfl
      have hM1:(bif Dc (6<=ofRow (tMod s.a[j]).j (modS s).x) then flushM (modS s) (j:Int) else modS s)=modS a:=r1.symm;unfold putS;rw[zg _ j i,hM1];show (_,_)=(_,_);congr 1;unfold modS at o |-
      simp only[Im,set_tMod,set_bMod,Y,a0,Jl,Ji,List.map_nil,a1]at o |-
      rw[o,E,J];congr 1;rw[show bMod a.a[j]=(a.a.map bMod)[j]'(by rw[Iq];exact i) from (Ir ..).symm];exact (Jp _).symm
     ·exact r2.up.boot
     ·exact r2.up.wip
     ·show ∀x∈(putS s a (j:Int) ops).a,_;unfold putS;rw[zg _ j i];simp only[Im];refine zl6 r2.up ⟨⟨λq b=>?_,y.tabs⟩,by show a.a[j].I<=_;omega,by show a.a[j].m.c+1<=_;omega⟩;by_cases a2:q=a.a[j].m.c+1
      ·subst a2;show bytesN (mapR (engB a.a[j].m ops) (a.a[j].m.c+1))<=40;rw[zsE hTa.eng f n,<-X];omega
      ·have O:q<=a.a[j].m.c:=by
        rcases b with b | b
        ·have:q<=a.a[j].m.c+1:=b.2;omega
        ·exact zvH hTa.eng b
       show bytesN (mapR (engB a.a[j].m ops) q)<=40;rw[zmb hTa.eng f n O];refine y.now q ?_;rcases b with b | b
       ·exact .inl ⟨b.1,O⟩
       ·exact .inr b
     ·exact r2.quo
def zBj (h:simK k s) (d:k<120) (j:Nat) (b:j<s.a.length) (c:At) (e:goodS (tenS s (j:Int) c).1 (k+1)):simR k (tenM (modS s) (j:Int) c) (tenS s (j:Int) c):=by
 have f:j<(modS s).a.length:=by show j<(s.a.map tMod).length;rw[Iq];exact b
 have i:getT (modS s).a (j:Int)=tMod s.a[j]:=by rw[zcs _ j f];exact Ir ..
 have l:=(h.g.p.tens _ (Il b)).eng;revert e;unfold tenM tenS;rw[i,zg _ j b];cases Dc (c.B=5) with
 | true=>exact zzJ h d j b c.R
 | false=>
   cases Dc (c.B=6) with
   | true=>intro _;simp only[cT,cF];rw[zv2 l];exact .no h _
   | false=>
     cases Dc (c.B=7) with
     | true=>exact λ_=>.no h _
     | false=>
       cases Dc (c.B=8) with
       | true=>exact zAv h j b
       | false=>
         cases Dc (c.B=11) with
         | true=>exact λ_=>.no h _
         | false=>exact zz7 h j b c
def zzP (h:simK k s) (f:k<120) (c:At) (b:goodS (callS s c).1 (k+1)):simR k (callM (modS s) c) (callS s c):=by
 revert b;unfold callS;rcases zb2 s.a (tokR s.E c.U).1 with ⟨j,d,e,_,_⟩ | ⟨e,_⟩
 ·have g:j<(modS s).a.length:=by show j<(s.a.map tMod).length;rw[Iq];exact d
  have i:(modS s).a[j]=tMod s.a[j]:=Ir ..;rw[zlu _ c j g ((zkQ _ _).trans e),i,e,zg _ j d,dF (by omega: ¬(j:Int)<0),Jx];show _->simR k (bif !(tokR s.E c.U).2.2|| !Dc (s.a[j].I=(tokR s.E c.U).2.1) then _ else _) _;cases !(tokR s.E c.U).2.2|| !Dc (s.a[j].I=(tokR s.E c.U).2.1) with
  | true=>intro _;simp only[cT];exact .no h _
  | false=>intro b;simp only[cF]at b |-;exact zBj h f j d c b
 ·have l:atT (modS s).a (tokR (modS s).E c.U).1= -1:=(zkQ s.a (tokR s.E c.U).1).trans e;rw[zkh (modS s) c l,e,dT (by omega:(-1:Int)<0),Bool.true_or,Bool.or_true];simp only[cT];exact λ_=>.no h _
def zBu (h:simK k s) (a:k<120) (c:At):simR k (doM (modS s) c) (doS s c):=by
 have b:=h.g.next c;have d:=zxs h c;revert b;unfold doM doS;cases e:Dc (c.B=1) with
 | true=>exact λ_=>d (of_decide_eq_true e)
 | false=>
   cases Dc (c.B=12) with
   | true=>exact zAB h
   | false=>
     cases Dc (c.B=14) with
     | true=>exact zyr h (by omega) c.N
     | false=>
       cases Dc (2<=c.B/\c.B<=4)||decide (c.B=13) with
       | true=>exact zA8 h (by omega) c
       | false=>
         cases Dc (5<=c.B/\c.B<=11) with
         | true=>exact zzP h a c
         | false=>exact λ_=>.no h _
def zxe: ∀(l:List At) (k:Nat) (s:Af),simK k s->k+l.length<=120->runM (modS s) l=runS s l
 | [],_,_,_,_=>rfl
 | c::l,k,s,h,a=>by rw[Jc]at a;obtain ⟨b,d⟩:=zBu h (by omega) c;rw[runM,runS,b];simp only;rw[zxe l (k+1) _ d (by omega)]
def zA5 (a:newSOk secret master size=true):simK 0 (newS secret master size)/\modS (newS secret master size)=newM secret size:=
 ⟨⟨zmA a,Jr _,Jr _,λt b=>(by cases b),λx c=>(by cases c)⟩,rfl⟩
def zAk (l:List At) (a:newSOk secret master size=true):(playS secret master size l).2=playM secret size l:=by
 have b:newOk secret size=true:=by unfold newSOk at a;unfold newOk;simp_all
 obtain ⟨c,d⟩:=zA5 a;unfold playS playM;rw[a,b];by_cases hl:l.length<=120
 ·rw[dT hl];show runS _ l=runM _ l;rw[<-d,zxe l 0 _ c (by omega)]
 ·rw[dF hl];rfl
def zy8 {l:List At} (h:(newSOk secret master size&&Dc (l.length<=120))=false):playS secret master size l=(noStore,[]):=by unfold playS;rw[h];rfl
def zy7 {l:List At} (h:(newSOk secret master size&&Dc (l.length<=120))=true):(playS secret master size l).2.length=l.length/\storeP (playS secret master size l).1:=by have a:=((Iu _ _).mp h).1;have b:=(ztf l _ 0 (zmA a)).p;unfold playS;rw[h];exact ⟨zqu _ _,b⟩
def zAM (s m:J3) (n:Int) (k:Nat):(if !(Dc ((m.length:Int)=32)) then (some true)
    else (if !(Dc ((s.length:Int)=32)) then (some true)
 else (if Dc (n<0) then (some true)
 else (if Dc (n>1000) then (some true)
 else (some (Dc (((k:Nat):Int)>120)))))))=some (!(newSOk s m n&&Dc (k<=120))):=by
 have a (l:J3):Dc ((l.length:Int)=32)=Dc (l.length=32):=decide_eq_decide.2 (by omega);have b:Dc (((k:Nat):Int)>120)= !Dc (k<=120):=by rw[Li];simp;omega
 have c:Dc (0<=n/\n<=1000)=(!Dc (n<0)&& !Dc (n>1000)):=by rw[Li];simp
 rw[a,a,b];unfold newSOk;rw[c];cases Dc (m.length=32)<;>cases Dc (s.length=32)<;>cases Dc (n<0)<;>cases Dc (n>1000)<;>cases Dc (k<=120)<;>rfl
def zxl (code:J3):ziz code=some true:=by
 unfold ziz;rw[zBs,Ih];by_cases f:(code.length:Int)>1048576
 ·rw[dT f];rfl
 ·rw[dF f];obtain ⟨s,m,n,l,e,hl,A⟩:=zp4 code (by omega);have a: ∀c∈l,smC c:=λc i=>(A c i).sm;obtain ⟨p,j⟩:=zwn s m n l;have g: ∀r:List A6,r=(playS s m n l).2->zcc (playS s m n l).2 r=some true:=λr b=>by rw[b,zsG _ _ (by omega) λr b=>by have:=j r b;omega,dT rfl]
  simp only[Ii,iF,e,Ih,zpD s m n l (by omega) a,zpJ s m n l (by omega) a,g _ rfl,In,zAM];cases d:newSOk s m n&&Dc (l.length<=120) with
  | false=>simp[zy8 d]
  | true=>obtain ⟨k,h⟩:=zy7 d;have o:=zAk l ((Iu _ _).mp d).1;simp[zpy s n l (by omega) a,zpI s n l (by omega) a,g _ o.symm,zrO _ h.small,(zya _).2 h,k]
theorem FnTop_proved:Rows.FnTopSaid:=zxk λcode _=>zxl code
end Go.Proofs.YtbpngbeifojdeaaGreat
