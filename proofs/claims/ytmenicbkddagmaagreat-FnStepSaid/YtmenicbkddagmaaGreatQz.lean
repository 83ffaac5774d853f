/-
  The plain laws: what the pure functions come to, and the statements. Conditions: none.
-/
import Derived.Test.YtmenicbkddagmaaGreatQzb
set_option linter.unusedVariables false
set_option linter.unusedSimpArgs false
set_option linter.defProp false
open Decidable renaming decide->Dc
open Option renaming bind_some->An
open Bool renaming false_eq_true->Ba,not_true->Bl,and_eq_true->Bw,not_false->Bz,true_and->Ct,or_self->Ei,or_eq_false_iff->Em,false_or->Ep
open List renaming getElem_mem->Bf,length_singleton->Bh,pairwise_iff_getElem->Bp,getElem_of_mem->Bt,drop_eq_getElem_cons->By,replicate->Cg,length_filter_le->Cj,take_of_length_le->Cr,getElem_set_self->Cu,mem_filter->Cv,filter_eq_self->Cx,nil_append->Da,map_append->Db,mem_map_of_mem->Dd,mem_append->De,append_nil->Df,map_cons->Dg,getElem_drop->Dh,takeWhile_cons->Di,mem_or_eq_of_mem_set->Dj,length_map->Dk,length_append->Dl,findIdx?_eq_some_iff_getElem->Dn,filter_cons->Do,length_take->Dp,length_cons->Dq,take_append_drop->Ds,drop_length->Du,take_set_of_le->Dx,set_cons_zero->Dy,length->Ea,map_take->Eb,map_drop->Ec,all_eq_true->Ed,ext_getElem->Ee,getElem_map->Eg,mem_map->Eh,set_append_right->Ej,getElem?_set_ne->Ek,pairwise_append->El,range->En,mem_cons->Eo,filter_append->Et,getElem_of_eq->Eu,pairwise_cons->Ev,mem_singleton->Ew,set_set->Ey,pairwise_map->Ez,length_drop->Fa,length_nil->Ff,drop_zero->Fh
open Int renaming toNat_natCast->Bm,le_refl->Fc
open Nat renaming zero_le->Bo,le_refl->Cy,le_trans->Dm,mul_le_mul->Fi,add_zero->Fj,sub_zero->Fk
open Option.some renaming injEq->Cq
noncomputable section
open Go.IntKind renaming i64->I6
namespace Go.Proofs.YtmenicbkddagmaaGreat
open Go Sl
variable {s:Ae} {α R T:Type} {key secret:List UInt8} {z:R} {t:Af} {d:At} {j k:Nat} {m:List KV} {e:Aa} {l:List α} {Q:T->Prop} {ls:List (Option α)} {body:Int × List α->Option (Ctl (Int × List α) (Ctl (List α) R))} {f:List α->Option R}
def zoM (s:Ae) (hs:smallS s):zgX s=some (storeV s):=by
 unfold zgX storeV;have g:=hs.shares;simp only[zgN,ze2 s.m hs.slots,zbz s.C hs.shares,zT s.C hs.shares,zP,len32,lenI,histI,An];cases Dc (s.F.length=32) with
 | false=>rfl
 | true=>
 cases keysV s.m with
 | false=>rfl
 | true=>
 cases sharesV s.C with
 | false=>rfl
 | true=>
 cases Dc (0<=s.A/\s.A<=1000) with
 | false=>rfl
 | true=>
 cases Dc (s.L.length<=120) with
 | false=>rfl
 | true=>
 cases e:Dc (s.a.length=s.m.D.length) with
 | false=>rfl
 | true=>
 cases f:Dc (s.a.length=s.C.r.length) with
 | false=>rfl
 | true=>
 have h:=of_decide_eq_true e;have i:=of_decide_eq_true f;have j:=hs.tens;simp only[Bl,Ba,if_false,An,Ct];rw[zhH (slotP s) s.a.length (λk b=>?_) (by simp)]
 ·unfold bodyS;cases (En s.a.length).all (slotP s) with
  | false=>rfl
  | true=>simp only[if_true,zd,Ct];exact zq4 s hs (zbp s) (λid=>zjq s id hs.tens) rfl
 ·have c:k<s.m.D.length:=by omega
  have d:k<s.C.r.length:=by omega
  rw[zly s k b c d];simp only[zb s.a k b,zb s.m.D k c,zb s.C.r k d,An,zl1 s _ hs (hs.each _ (Bf b))];rw[if_pos (by simp_all),za (n:=(k:Int)+1) (by omega) (by omega),decide_eq_decide.2 (eq_comm (a:=s.m.D[k].s)),decide_eq_decide.2 (eq_comm (a:=s.C.r[k].s))];cases Dc (s.a[k].q=s.m.D[k].s)<;>cases Dc (s.a[k].q=s.C.r[k].s)<;>cases tenV s s.a[k]<;>rfl
theorem zht (s:Ae) (hs:smallS s):zee s=some (storeV s):=by
 unfold zee storeV;have h:=hs.shares;simp only[ze2 s.m hs.slots,zT s.C hs.shares,zba,len32,lenI,histI,An];cases Dc (s.F.length=32) with
 | false=>rfl
 | true=>
 cases keysV s.m with
 | false=>rfl
 | true=>
 cases sharesV s.C with
 | false=>rfl
 | true=>
 cases e:Dc (s.a.length=s.m.D.length) with
 | false=>simp
 | true=>
 cases f:Dc (s.a.length=s.C.r.length) with
 | false=>simp
 | true=>
 cases Dc (0<=s.A/\s.A<=1000) with
 | false=>rfl
 | true=>
 cases Dc (s.L.length<=120) with
 | false=>rfl
 | true=>
 have i:=of_decide_eq_true e;have j:=of_decide_eq_true f;have l:=hs.tens;simp only[Bl,Ba,if_false,An,Ct];rw[zhH (slotP s) s.a.length (λk b=>?_) (by simp)]
 ·unfold bodyS;cases (En s.a.length).all (slotP s) with
  | false=>rfl
  | true=>simp only[if_true,zd,Ct];exact zq4 s hs (zcX s.a) (λid=>zlO s.a id hs.tens) rfl
 ·have c:k<s.m.D.length:=by omega
  have d:k<s.C.r.length:=by omega
  have B:=hs.each _ (Bf b);rw[zly s k b c d,zvM];simp only[zb s.a k b,zb s.m.D k c,zb s.C.r k d,An,zbY _ B.mem B.tables B.total B.snaps,snapI];rw[if_pos (by simp_all),za (n:=(k:Int)+1) (by omega) (by omega)];cases Dc (s.a[k].q=s.m.D[k].s) with
  | false=>rfl
  | true=>
  cases Dc (s.a[k].q=s.C.r[k].s) with
  | false=>rfl
  | true=>
  cases Dc (0<=s.a[k].J/\s.a[k].J<=1000000) with
  | false=>rfl
  | true=>
  cases E:Dc (0<=s.a[k].G/\s.a[k].G<=1000000) with
  | false=>rfl
  | true=>
  cases I:engV s.a[k].g with
  | false=>rfl
  | true=>
  rw[zpx s _ hs B I (of_decide_eq_true E)];grind
theorem zkx (p:α->Bool) (l:List α):(∃j,∃a:j<l.length,fstV p l=(j:Int)/\p l[j]=true/\∀i (hi:i<j),p (l[i]'(by omega))=false)\/(fstV p l= -1/\∀x∈l,p x=false):=by
 unfold fstV;cases h:l.findIdx? p with
 | none=>exact .inr ⟨rfl,by simp_all⟩
 | some j=>obtain ⟨a,b,c⟩:=Dn.1 h;grind
def wholeO (l:List α) (k:Nat) (ls:List (Option α)):Prop:=ls.length=l.length/\∀i (hi:i<l.length),k<=i->ls[i]? =some (some l[i])
def zuP (l:List α):wholeO l 0 (l.map some):=⟨by simp,λi hi _=>by simp[hi]⟩
def zpG (h:wholeO l k ls) (a:k<l.length):idx ls (k:Int)=some (some l[k]):=by unfold idx;rw[if_pos (by omega),Bm];exact h.2 k a (Cy _)
def zks (h:wholeO l k ls):wholeO l (k+1) ls:=⟨h.1,λi hi a=>h.2 i hi (by omega)⟩
def zlC {o:Option α} (h:wholeO l k ls) (b:j<k):wholeO l k (ls.set j o):=
 ⟨by rw[List.length_set,h.1],λi hi a=>by rw[Ek (by omega)];exact h.2 i hi a⟩
theorem zdu (p:α->Bool) (l:List α) (k:Nat) (a:k<l.length):(l.take (k+1)).filter p=(l.take k).filter p++(if p l[k]=true then [l[k]] else []):=by rw[zZ l k a,Et];grind
theorem zjP: ∀s u:List UInt8,(cmpS s u<0↔sLt s u=true)/\(cmpS s u=0↔s=u)
 | [],[]=>by trivial
 | [],_::_=>by simp[cmpS,Lib.compareBytes,sLt,Op.bytesLess]
 | _::_,[]=>by simp[cmpS,Lib.compareBytes,sLt,Op.bytesLess]
 | a::s,b::u=>by
   have ih:=zjP s u;have c:cmpS (a::s) (b::u)=if a<b then -1 else if b<a then 1 else cmpS s u:=rfl
   have d:sLt (a::s) (b::u)=(Dc (a<b)||(a == b&&sLt s u)):=rfl;grind
theorem zoE (m:List KV) (key:List UInt8) (n:srtK m) (hl:m.length<=1048576): ∃j,∃f:j<=m.length,(∀i (hi:i<m.length),i<j->sLt m[i].j key=true)/\(∀i (hi:i<m.length),j<=i->sLt m[i].j key=false)/\
 ze8 m key=some ((j:Int),if h:j<m.length then Dc (m[j].j=key) else false):=by
 obtain ⟨j,f,d,o,p⟩:=bisect (ρ:=Int × Bool) m (λx=>zd3 x key) (λx=>cmpS x.j key) (λx _=>rfl) hl;have g: ∀a b (k:a<m.length) (d:b<m.length),a<b->sLt m[a].j m[b].j=true:=λa b k d q=>Bp.1 n a b k d q;refine ⟨j,f,λi hi s=>?_,λi hi s=>?_,?_⟩
 ·have l:=(zjP _ _).1.1 (o (j - 1) (by omega) (by omega));by_cases e:i=j - 1
  ·simp_all
  ·exact zcZ (g i (j - 1) hi (by omega) (by omega)) l
 ·have c:j<m.length:=by omega
  have l:=p c;cases t:sLt m[i].j key with
  | false=>rfl
  | true=>
    have u:sLt m[j].j key=true:=by
     by_cases e:j=i
     ·simp_all
     ·exact zcZ (g j i c hi (by omega)) t
    have:=(zjP _ _).1.2 u;omega
 ·unfold ze8 z8;rw[d];simp only[zd];by_cases c:j<m.length
  ·rw[dif_pos c,if_pos (by simp_all),zb m j c];have e:zd3 m[j] key=some (cmpS m[j].j key):=rfl;simp only[An,e];rw[decide_eq_decide.2 (zjP m[j].j key).2]
  ·grind
def ztE (a:srtK m) (j:Nat) (b:j<m.length):(m.drop (j+1)).filter (λx=>!Dc (x.j=m[j].j))=m.drop (j+1):=by
 rw[Cx];intro x c;obtain ⟨i,hi,rfl⟩:=Bt c;rw[Fa]at hi;rw[Dh];have:=Bp.1 a j (j+1+i) b (by omega) (by omega);have d: ¬(m[j+1+i]).j=m[j].j:=λh=>by rw[h,zbW]at this;trivial
 simp_all
def zpS (j:Nat) (b: ∀i (hi:i<m.length),j<=i->¬m[i].j=key):(m.drop j).filter (λx=>!Dc (x.j=key))=m.drop j:=by rw[Cx];intro x a;obtain ⟨i,hi,rfl⟩:=Bt a;simp_all
def zqS (a:srtK m) (j:Nat) (b: ∀i (hi:i<m.length),j<=i->sLt m[i].j key=false) (c: ∀d:j<m.length,¬m[j].j=key): ∀i (hi:i<m.length),j<=i->¬m[i].j=key:=by
 intro i hi f g;by_cases e:i=j
 ·simp_all
 ·have h:=Bp.1 a j i (by omega) hi (by omega);simp_all
theorem zr3 (b: ∀i (hi:i<m.length),i<j->sLt m[i].j key=true): ∀x∈m.take j,sLt x.j key=true:=by intro x a;obtain ⟨i,hi,rfl⟩:=Bt a;grind
def zr2 (b: ∀i (hi:i<m.length),j<=i->sLt m[i].j key=false): ∀x∈m.drop j,sLt x.j key=false:=by intro x a;obtain ⟨i,hi,rfl⟩:=Bt a;simp_all
theorem zub (m:List KV) (key:List UInt8) (c:srtK m) (hl:m.length<=1000000):zg3 m key=some (putK m ⟨key,true,[]⟩):=by
 obtain ⟨j,p,e,d,f⟩:=zoE m key c (by omega);unfold zg3;rw[f,An,zlr (o:=⟨key,true,[]⟩) j (zr3 e) (zr2 d)];by_cases a:j<m.length
 ·rw[dif_pos a];by_cases b:m[j].j=key
  ·rw[decide_eq_true b,if_pos rfl];unfold zeN;rw[za (n:=(j:Int)+1) (by omega) (by omega)];have g:piece m (j:Int) ((j:Int)+1)=some ((m.drop j).take 1):=by unfold piece;grind
   have h:piece m (0:Int) (j:Int)=some (m.take j):=by unfold piece;simp_all
   have k:piece m ((j:Int)+1) (m.length:Int)=some (m.drop (j+1)):=by unfold piece;rw[if_pos ⟨by omega,by omega,by omega⟩,show ((j:Int)+1).toNat=j+1 by omega,Bm,Cr (by simp)]
   simp only[g,h,k,An];rw[decide_eq_false (by omega)];have l:=ztE c j a;subst b;simp only[Ba,if_false,An,newK,cond_true,Da];rw[By a,Do,if_neg (by simp),l]
  ·rw[decide_eq_false b,if_neg (by simp),zpS j (zqS c j d λ_=>b)];simp[newK]
 ·rw[dif_neg a,if_neg (by simp),zpS j (λi hi q=>by omega)];simp[newK]
theorem zvF (m:List KV) (key val:List UInt8) (c:srtK m) (hl:m.length<=1000000):zh1 m key val=some (putK m ⟨key,false,val⟩):=by
 obtain ⟨j,l,e,d,f⟩:=zoE m key c (by omega);unfold zh1;rw[f,An,zlr (o:=⟨key,false,val⟩) j (zr3 e) (zr2 d)];have g: ∀h: ∀i (hi:i<m.length),j<=i->¬m[i].j=key,zdn m (j:Int) [(⟨key,val⟩:KV)]=some (m.take j++(newK ⟨key,false,val⟩++(m.drop j).filter λx=>!Dc (x.j=key))):=by intro h;unfold zdn ins;rw[if_pos ⟨by omega,by omega,by grind,by grind⟩,Bm,zpS j h];rfl
 by_cases a:j<m.length
 ·rw[dif_pos a];by_cases b:m[j].j=key
  ·rw[decide_eq_true b,if_pos rfl,zb m j a];have k:=ztE c j a;subst b;simp only[An,Bm,newK,cond_false];rw[By a,Do,if_neg (by simp),k,List.set_eq_take_append_cons_drop,if_pos a];rfl
  ·rw[decide_eq_false b,if_neg (by simp),g (zqS c j d λ_=>b)];rfl
 ·grind
theorem zoN (m:List KV) (l:List Op) (c:srtK m) (hl:m.length<=100000) (e:l.length<=1000):zg0 m l=some (applyK m l):=by
 unfold zg0 zfe;rw[zg (by grind) (by grind)];simp only[An,Da];refine zG (λk (S:Int × List KV)=>S=((k:Int),applyK m (l.take k))) l.length (λr=>r= .go (applyK m l)) rfl ?_ ?_ (λr f=>by simp_all)
 ·rintro k _ a rfl;left;have d:=ziK (l.take k) m;rw[Dp]at d;refine ⟨_,?_,rfl⟩;simp only[zb l k a,An];rw[if_pos (by simp_all),za (n:=(k:Int)+1) (by omega) (by omega),zZ l k a,show applyK m (l.take k++ [l[k]])=putK (applyK m (l.take k)) l[k] by simp only[applyK,List.foldl_append,List.foldl_cons,List.foldl_nil]];have hs:=zla (l.take k) c;cases b:l[k].P with
  | true=>
    rw[if_pos rfl,zub _ _ hs (by omega)];simp only[An,zd];have:putK (applyK m (l.take k)) ⟨l[k].j,true,[]⟩=putK (applyK m (l.take k)) l[k]:=by simp only[putK,newK,b,cond_true]
    simp_all
  | false=>
    rw[if_neg (by simp),zvF _ _ _ hs (by omega)];simp only[An,zd];have:putK (applyK m (l.take k)) ⟨l[k].j,false,l[k].M⟩=putK (applyK m (l.take k)) l[k]:=by simp only[putK,newK,b,cond_false]
    simp_all
 ·simp
theorem zhW {α:Type} (q:α->Bool): ∀l:List α,(l.takeWhile q).length<=l.length/\(∀i (hi:i<l.length),i<(l.takeWhile q).length->q l[i]=true)/\(∀h:(l.takeWhile q).length<l.length,q l[(l.takeWhile q).length]=false)
 | []=>⟨Cy _,λi hi=>absurd hi (by simp),λh=>absurd h (by simp)⟩
 | x::l=>by
   obtain ⟨b,c,d⟩:=zhW q l;cases a:q x with
   | false=>simp_all
   | true=>simp only[Di,a,if_true,Dq];grind
theorem zpF (p:α->Bool) (l:List α) (hl:l.length<=1048576) {body:Int->Option (Ctl Int (Ctl Int R))} (c: ∀k (b:k<l.length),body (k:Int)=if p l[k]=true then some (.go (I6.wrap ((k:Int)+(1:Int)))) else some (.done (.go (k:Int)))) (f:body (l.length:Int)=some (.done (.go (l.length:Int)))):
 loopO body 0=some (.go (((l.takeWhile p).length:Nat):Int)):=by
 obtain ⟨d,t2,e⟩:=zhW p l;generalize (l.takeWhile p).length=a at d t2 e;refine zk (λk=>(k:Int)) a rfl (λk b=>?_) ?_
 ·rw[c k (by omega),if_pos (t2 k (by omega) b),za (by omega) (by omega)];rfl
 ·grind
theorem zv4 (p:α->Bool) (l:List α) (hl:l.length<=1048576) (a:Nat) (q:a<l.length) (s:p l[a]=true) (B: ∀i (hi:i<a),p (l[i]'(by omega))=false) {g:α->Option Bool} (t: ∀x,g x=some (p x)) {body:Int × Int × List (Option α)->Option (Ctl (Int × Int × List (Option α)) (Ctl (Int × List (Option α)) R))} {f:Int × List (Option α)->Option R} (m:body=λ(E:Int × Int × List (Option α))=>if (Dc (E.2.1<(E.2.2.length:Int)))=true then ((idx E.2.2 E.2.1).bind λI=>
 (I).bind λF=>
 (g F).bind λJ=>
 bindC (if (!J)=true then ((idx E.2.2 E.1).bind λM=>
 (idx (E.2.2.set E.2.1.toNat none) E.1).bind λN=>
 some (.go (I6.wrap (E.1+(1:Int)),((E.2.2.set E.2.1.toNat none).set E.1.toNat (some F)))))
 else (some (.go (E.1,E.2.2))))
 (λ(G:Int × List (Option α))=>some (.go (G.1,I6.wrap (E.2.1+(1:Int)),G.2))))
 else (some (.done (.go (E.1,E.2.2))))) (C: ∀(i:Nat) ls,ls.length=l.length->i<=l.length->ls.take i=(l.filter λx=>!p x).map some->f ((i:Int),ls)=some z):bindC (loopO body ((a:Int),I6.wrap ((a:Int)+(1:Int)),l.map some)) f=some z:=by
 refine zG (λk (S:Int × Int × List (Option α))=>∃i:Nat,S.1=(i:Int)/\S.2.1=((a+1+k:Nat):Int)/\i<a+1+k/\wholeO l (a+1+k) S.2.2/\S.2.2.take i=((l.take (a+1+k)).filter λx=>!p x).map some) (l.length - (a+1))
  (λr=>∃i ls,r= .go (((i:Nat):Int),ls)/\ls.length=l.length/\i<=l.length/\ls.take i=(l.filter λx=>!p x).map some) ?_ ?_ ?_ ?_
 ·refine ⟨a,rfl,by simp only;rw[za (by omega) (by omega)];omega,by omega,⟨by simp,λi hi _=>by simp⟩,?_⟩;rw[Fj,zdu _ l a q,s];simp only[Bl,Ba,if_false,Df];rw[Cx.2,Eb];intro x u;obtain ⟨i,hi,rfl⟩:=Bt u;grind
 ·rintro k ⟨v,w,ls⟩ D ⟨i,d,e,h,b,c⟩;simp only at d e h b c;subst d e;left;have j:a+1+k<l.length:=by omega
  rw[m];simp only[zpG b j,An,t];rw[if_pos (decide_eq_true (by rw[b.1];omega)),za (n:=((a+1+k:Nat):Int)+1) (by omega) (by omega),show ((a+1+k:Nat):Int)+1=((a+1+(k+1):Nat):Int) by omega];have y:i<ls.length:=by rw[b.1];omega
  have A:i<(ls.set (a+1+k) none).length:=by simp_all
  cases o:p l[a+1+k] with
  | true=>simp only[Bl,Ba,if_false,zd];refine ⟨_,rfl,i,rfl,rfl,by omega,zks b,?_⟩;simp only;rw[c,show a+1+(k+1)=(a+1+k)+1 by omega,zdu _ l (a+1+k) j,o];simp
  | false=>simp only[Bz,if_true,Bm,zb ls i y,zb (ls.set (a+1+k) none) i A,An,zd];rw[za (n:=(i:Int)+1) (by omega) (by omega)];refine ⟨_,rfl,i+1,by simp,rfl,by omega,zlC (zlC (zks b) (by omega)) (by omega),?_⟩;simp only;rw[zZ _ i (by simp_all),Cu,Dx (Cy _),Dx (by omega),c,show a+1+(k+1)=(a+1+k)+1 by omega,zdu _ l (a+1+k) j,o];simp
 ·rintro ⟨v,w,ls⟩ ⟨i,d,e,h,b,c⟩;simp only at d e h b c;subst d e;have O:a+1+(l.length - (a+1))=l.length:=by omega
  rw[O]at h b c |-
  refine ⟨_,by rw[m];exact if_neg (by rw[b.1];simp),i,ls,rfl,b.1,by omega,by simp_all⟩
 ·simp_all
def zwL (l q:List α) (i:Nat) (ls:List (Option α)) (d:ls.length=l.length) (e:i<=l.length) (a:ls.take i=q.map some):
    ((piece ls (i:Int) (ls.length:Int)).bind λB=>(piece ls (0:Int) (i:Int)).bind λh=>(allO h).bind λA=>some A)=some q:=by
 have b:piece ls (i:Int) (ls.length:Int)=some (ls.drop i):=by unfold piece;rw[if_pos ⟨by omega,by omega,by omega⟩,Bm,Bm,Cr (by simp)]
 have c:piece ls (0:Int) (i:Int)=some (ls.take i):=by unfold piece;simp_all
 rw[b,c,a];simp[zjN]
def codeR (c:Int):Ar:=⟨c,0,[],[]⟩
def quoV (d:Int) (s:Ad) (id:Int):Int:=match s.r.find? (λx=>decide (x.s=id)) with
 | some x=>x.S
 | none=>d
def bytesN (m:List KV):Nat:=(m.map λx=>x.j.length+x.M.length).sum
def withinV (key lo hi:List UInt8):Bool:=!sLt key lo&&(Dc (hi= [])||sLt key hi)
def scanV (m:List KV) (lo hi:List UInt8):List KV:=m.filter λx=>withinV x.j lo hi
def setR (s:Ad) (t q:Int):Ad × Bool:=(zbF s t q).getD (⟨0,[]⟩,false)
def zhr (s:Ad) (t q:Int) (h:s.r.length<=1048576):zbF s t q=some (setR s t q):=by obtain ⟨r,a,b,_⟩:=zlD s t q h;unfold setR;rw[a];rfl
def zjU (s:Ad) (t q:Int) (h:s.r.length<=1048576):zch s t q=some (setR s t q):=by obtain ⟨r,a,b,_⟩:=zlD s t q h;unfold setR;rw[a,b];rfl
def zuj (n:Int):zbE n=some (Dc (1<=n/\n<=99)):=by unfold zbE;rw[zP];rfl
def zqQ (n:Int):zfb n=some (Dc (0<=n/\n<=40)):=by unfold zfb;rw[zP];rfl
def no_R (c:Int):zbs c=some (codeR c):=rfl
def zfd (c:Int):zD c=some (codeR c):=rfl
theorem zqL (p:α->Bool) (l:List α) (hl:l.length<=1048576) {body:Int->Option (Ctl Int (Ctl Unit R))} (g:α->R) {f:Unit->Option R} (b:f ()=some z) (h: ∀k (a:k<l.length),body (k:Int)=if p l[k]=true then some (.done (.done (g l[k]))) else some (.go (I6.wrap ((k:Int)+(1:Int))))) (c:body (l.length:Int)=some (.done (.go ()))):
 bindC (loopO body 0) f=some (match l.find? p with | some x=>g x | none=>z):=by
 refine zG (λk S=>S=(k:Int)/\∀i (hi:i<l.length),i<k->p l[i]=false) l.length (λr=>(r= .go ()/\l.find? p=none)\/∃x,l.find? p=some x/\r= .done (g x)) ⟨rfl,λi _ h=>by omega⟩ ?_ ?_ ?_
 ·rintro k _ a ⟨rfl,d⟩;rw[h k a];cases m:p l[k] with
  | true=>right;refine ⟨_,if_pos rfl,.inr ⟨l[k],?_,rfl⟩⟩;rw[List.find?_eq_some_iff_getElem];grind
  | false=>left;refine ⟨_,if_neg (by simp),by rw[za (by omega) (by omega)];omega,λi hi n=>?_⟩;grind
 ·rintro _ ⟨rfl,d⟩;refine ⟨_,c,.inl ⟨rfl,?_⟩⟩;rw[List.find?_eq_none];intro x j;obtain ⟨i,hi,rfl⟩:=Bt j;simp_all
 ·rintro r (⟨rfl,e⟩ | ⟨x,e,rfl⟩)
  ·rw[e];exact b
  ·simp_all
theorem zoQ (s:Ad) (id:Int) (h:s.r.length<=1048576):zg6 s id=some (quoV 0 s id):=by
 unfold zg6 quoV;refine (zqL (λx:As=>decide (x.s=id)) s.r h As.S rfl (λk a=>?_) (by simp)).trans ?_
 ·simp only[zb s.r k a,An];simp_all
 ·grind
theorem zoo (s:Ad) (id:Int) (h:s.r.length<=1048576):zgh s id=some (quoV (-1) s id):=by
 unfold zgh quoV;refine (zqL (λx:As=>decide (x.s=id)) s.r h As.S rfl (λk a=>?_) (by simp)).trans ?_
 ·simp only[zb s.r k a,An];simp_all
 ·grind
def zsj {x:KV} (h:kvV x=true):x.j.length<=10/\x.M.length<=16:=by obtain ⟨⟨_,a⟩,b,_⟩:=zje (o:=⟨x.j,false,x.M⟩) h;trivial
def znu (m:List KV) (k:Nat) (a:k<m.length):bytesN (m.take (k+1))=bytesN (m.take k)+(m[k].j.length+m[k].M.length):=by unfold bytesN;rw[zZ m k a,Db,List.sum_append];rfl
theorem zuY (m:List KV) (a: ∀x∈m,kvV x=true):bytesN m<=26*m.length:=by
 induction m with
 | nil=>exact Cy _
 | cons x m ih=>have b:=zsj (a x (by simp));have c:=ih λy d=>a y (by simp_all);have e:bytesN (x::m)=(x.j.length+x.M.length)+bytesN m:=rfl;grind
theorem zlE (m:List KV) (a: ∀x∈m,kvV x=true) (k:Nat):bytesN (m.take k)<=26*m.length:=by have:=zuY (m.take k) λx b=>a x (List.mem_of_mem_take b);grind
def zjX (m:List KV) (b: ∀x∈m,kvV x=true) (h:m.length<=1048576):ze7 m=some (bytesN m:Int):=by
 unfold ze7;refine zG (λk (S:Int × Int)=>S=((bytesN (m.take k):Int),(k:Int))) m.length (λr=>r= .go (bytesN m:Int)) rfl ?_ ?_ (λr c=>by simp_all)
 ·rintro k _ a rfl;left;refine ⟨_,?_,rfl⟩;have d:=zsj (b m[k] (Bf a));have e:=zlE m b k;simp only[zb m k a,An];rw[if_pos (by simp_all),za (n:=((m[k].j.length:Nat):Int)+((m[k].M.length:Nat):Int)) (by omega) (by omega),za (by omega) (by omega),za (n:=(k:Int)+1) (by omega) (by omega),znu m k a];rfl
 ·simp
theorem zlM (m:List KV) (c:srtK m) (a: ∀x∈m,kvV x=true) (h:m.length<=1000000):zhj m=some (bytesN m:Int):=by
 unfold zhj;refine zG (λk (S:Int × Int)=>S=((bytesN (m.take k):Int),(k:Int))) m.length (λr=>r= .go (bytesN m:Int)) rfl ?_ ?_ (λr d=>by simp_all)
 ·rintro k _ b rfl;left;refine ⟨_,?_,rfl⟩;have e:=zsj (a m[k] (Bf b));have f:=zlE m a k;simp only[zb m k b,An,zk8 m c a h];rw[if_pos (by simp_all),An,if_pos rfl,za (n:=((bytesN (m.take k):Nat):Int)+((m[k].j.length:Nat):Int)) (by omega) (by omega),za (by omega) (by omega),za (n:=(k:Int)+1) (by omega) (by omega),znu m k b];grind
 ·simp
theorem zwF (key lo hi:List UInt8):zfY key lo hi=some (withinV key lo hi):=by unfold zfY withinV;grind
theorem zuo (key lo hi:List UInt8):zeH key lo hi=some (withinV key lo hi):=by unfold zeH withinV;grind
theorem zrd (p:KV->Bool) (l:List KV) (hl:l.length<=1048576) {body:Int × List KV->Option (Ctl (Int × List KV) (Ctl (List KV) R))} {f:List KV->Option R} {g:KV->Option Bool} (b: ∀x,g x=some (p x)) (c:body=λ(A:Int × List KV)=>if (Dc (A.1<(l.length:Int)))=true then ((idx l A.1).bind λE=>
 (g E).bind λF=>
 bindC (if F=true then ((app 32 A.2 ([E])).bind λB=>
 some (.go B))
 else (some (.go A.2)))
 (λ(D:List KV)=>some (.go (I6.wrap (A.1+(1:Int)),D))))
 else (some (.done (.go A.2)))) (d:f (l.filter p)=some z):bindC (loopO body ((0:Int),([]:List KV))) f=some z:=by
 refine zG (λk (S:Int × List KV)=>S=((k:Int),(l.take k).filter p)) l.length (λr=>r= .go (l.filter p)) rfl ?_ ?_ (λr e=>by simp_all)
 ·rintro k _ a rfl;left;have h:((l.take k).filter p).length<=k:=Dm (Cj _ _) (by grind);refine ⟨_,?_,rfl⟩;rw[c];simp only[zb l k a,An,b];rw[if_pos (by simp_all),za (n:=(k:Int)+1) (by omega) (by omega),zdu p l k a];cases i:p l[k] with
  | true=>simp only[if_true];rw[zg (by grind) (by grind)];rfl
  | false=>simp
 ·simp_all
def zoO (m:List KV) (lo hi:List UInt8) (h:m.length<=1048576):zg1 m lo hi=some (scanV m lo hi):=by unfold zg1;exact zrd (λx=>withinV x.j lo hi) m h (g:=λx=>zfY x.j lo hi) (λx=>zwF _ _ _) rfl rfl
def zpv (m:List KV) (lo hi:List UInt8) (h:m.length<=1048576):zhx m lo hi=some (scanV m lo hi):=by unfold zhx;exact zrd (λx=>withinV x.j lo hi) m h (g:=λx=>zeH x.j lo hi) (λx=>zuo _ _ _) rfl rfl
def zw1 {s:Ad} (h:sharesV s=true):s.r.length<=4:=((zf0 s).1 h).2.1
def zt9 (l:List α) (k:Nat) (a:k<=l.length):cutO (l.map some) (0:Int) (k:Int)=some (l.take k,Cg k none++(l.drop k).map some):=by unfold cutO;rw[if_pos ⟨by omega,by omega,by simp_all⟩];simp only[Bm,Int.toNat_zero,Fk,Fh,List.take_zero,Da,<-Eb,zjN,Option.map_some,<-Ec,List.map_nil,Da]
theorem zs5 (l:List α) (k:Nat) (a:k<l.length): ∃h,cutO (Cg k none++(l.drop k).map some) ((k:Int)+1) (l.length:Int)=some (l.drop (k+1),h):=by
 unfold cutO;rw[if_pos ⟨by omega,by omega,by grind⟩];have e:((Cg k (none:Option α)++(l.drop k).map some).drop ((k:Int)+1).toNat).take ((l.length:Int).toNat - ((k:Int)+1).toNat)=(l.drop (k+1)).map some:=by rw[show ((k:Int)+1).toNat=k+1 by omega,Bm,List.drop_append,List.drop_of_length_le (by simp),Da,List.length_replicate,show k+1 - k=1 by omega,<-Ec,List.drop_drop,Cr (by simp)]
 rw[e,zjN];simp
theorem set_loop (g:α->α) (l:List α) (hl:l.length<=1000000) (b: ∀k (us:List α),k<l.length->us.length=l.length->body ((k:Int),us)=(idx us (k:Int)).bind λE=>some (.go (I6.wrap ((k:Int)+(1:Int)),us.set ((k:Nat):Int).toNat (g E)))) (e: ∀us:List α,us.length=l.length->body ((l.length:Int),us)=some (.done (.go us))) (h:f (l.map g)=some z):bindC (loopO body ((0:Int),l)) f=some z:=by
 refine zG (λk (S:Int × List α)=>S=((k:Int),(l.take k).map g++l.drop k)) l.length (λr=>r= .go (l.map g)) rfl ?_ ?_ (λr i=>by simp_all)
 ·rintro k _ a rfl;left;refine ⟨_,?_,rfl⟩;have c:((l.take k).map g++l.drop k).length=l.length:=by grind
  have d:((l.take k).map g++l.drop k)[k]'(by omega)=l[k]:=by grind
  rw[b k _ a c,zb _ k (by omega),An,d,Bm,za (n:=(k:Int)+1) (by omega) (by omega)];congr 3;rw[zZ l k a,Db,Ej _ _ (by grind),Dk,Dp,show k - min k l.length=0 by omega,By a,Dy];simp
 ·simp_all
structure smC (c:Ao):Prop where
 tok:c.Q.length<=1048576
 ops:c.R.length<=1048576
 num: -9223372036854775808<=c.N/\c.N<=9223372036854775807
theorem zsB {s:Ad} (t:Int) (a:sharesV s=true):sharesV {s with r:=dropT s.r t} =true:=by
 obtain ⟨b,g,c,d,e⟩:=(zf0 s).1 a;have hs:=znA (λx=>!Dc (x.s=t)) s.r;have hl:(dropT s.r t).length<=s.r.length:=Cj _ _;rw[zf0];refine ⟨b,by grind,λx f=>c x (Cv.1 f).1,d.filter _,?_⟩;unfold allNeed at e |-
 simp only;unfold dropT at hl |-
 omega
def zud {s:Ad} (t:Int) (a:sharesV s=true):(shareDropR s t).1= {s with r:=dropT s.r t}:=by
 unfold shareDropR;rw[if_pos a];split
 ·rename_i h;have:dropT s.r t=s.r:=Cx.2 (List.length_filter_eq_length_iff.1 h);simp_all
 ·rfl
def zdr {α β:Type} (f:α->β) (p:α->Bool) (q:β->Bool) (h: ∀x,p x=q (f x)): ∀l:List α,(l.filter p).map f=(l.map f).filter q
 | []=>rfl
 | x::l=>by
   rw[Do,Dg,Do,<-h x];cases p x with
   | true=>simp only[if_true,Dg,zdr f p q h l]
   | false=>simp only[Ba,if_false,zdr f p q h l]
def zu8 (id:Int) (l:List As):(dropT l id).map As.s=(l.map As.s).filter λx=>!Dc (x=id):=zdr As.s (λx=>!Dc (x.s=id)) (λx=>!Dc (x=id)) (λ_=>rfl) l
theorem zq8 (s:Ad) (t q:Int) (a:sharesV s=true) (g:(setR s t q).2=true): ∃L M R:List As,s.r=L++(M++R)/\(∀y∈L,y.s<t)/\(∀y∈R,t<y.s)/\(M= []\/∃m:As,M= [m]/\m.s=t)/\
 sharesV (setR s t q).1=true/\(setR s t q).1.r=L++(⟨t,q⟩::R)/\(setR s t q).1.I=s.I:=by have h:=zw1 a;obtain ⟨L,M,R,b,c,d,e,f⟩:=zrp s t q a (by omega);refine ⟨L,M,R,b,c,d,e,?_⟩;rw[zhr s t q (by omega)]at f;grind
def zl {t:T} (h:Q t):goO Q (some (.go t):Option (Ctl T R)):=⟨t,rfl,h⟩
def zbc {c:Bool} {x y:Option (Ctl T R)} (a:goO Q x) (b:goO Q y):goO Q (if c=true then x else y):=by cases c<;>assumption
def zbu {τ:Type} {m:Option (Ctl τ (Ctl T R))} {k:τ->Option (Ctl T R)} (A:τ->Prop) (h:goO A m) (a: ∀t,A t->goO Q (k t)):goO Q (bindC m k):=zbK (P:=goO Q) A h a
def inB (b:List UInt8) (i:Int):Prop:=0<=i/\i<=(b.length:Int)
def smN (n:Int):Prop:=-1000<=n/\n<=1000
def drQ5 (b:List UInt8) (t:Int × Int × Int × Int × List Op):Prop:=inB b t.1/\smN t.2.2.2.1/\t.2.2.2.2.length<=1000
def drQ6 (b:List UInt8) (t:Int × Int × Int × Int × List UInt8 × List Op):Prop:=inB b t.1/\smN t.2.2.2.1/\t.2.2.2.2.2.length<=1000
def drQ7 (b:List UInt8) (t:Int × Int × Int × Int × List UInt8 × List UInt8 × List Op):Prop:=inB b t.1/\smN t.2.2.2.1/\t.2.2.2.2.2.2.length<=1000
def litC (c:Ao):Prop:=c.Q.length<=2000/\c.R.length<=1000/\smN c.N
def litC.sm {c:Ao} (h:litC c):smC c:=⟨by have:=h.1;omega,by have:=h.2.1;omega,by have:=h.2.2;unfold smN at this;omega⟩
def drC (b:List UInt8) (o:Option (Ao × Am)):Prop:=∃c h a,o=some (c,(⟨b,h,a⟩:Am))/\litC c/\inB b h
def drO (b:List UInt8) (o:Option (List Op × Am)):Prop:=∃l h a,o=some (l,(⟨b,h,a⟩:Am))/\l.length<=1000/\inB b h
def drL (b:List UInt8) (o:Option (List Ao × Am)):Prop:=∃l h a,o=some (l,(⟨b,h,a⟩:Am))/\l.length<=2000/\(∀c∈l,litC c)/\inB b h
def zj7 (x:UInt8):zcB x=some (Cg 32 x):=by
 unfold zcB;refine zG (λk (S:Int × List UInt8)=>S=((k:Int),Cg k x)) 32 (λr=>r= .go (Cg 32 x)) rfl ?_ ?_ (λr a=>by rw[a];rfl)
 ·rintro k _ b rfl;left;refine ⟨_,?_,rfl⟩;rw[if_pos (by simp only[decide_eq_true_eq];omega),zg (by simp;omega) (by simp;omega),za (n:=(k:Int)+1) (by omega) (by omega),List.replicate_succ'];rfl
 ·simp
def ztd (b:List UInt8) (i h:Int) (hi:inB b i) (d:b.length<=1048576):drO b (zgf ⟨b,i,h⟩):=by
 unfold zgf;obtain ⟨w,o,s,x,u⟩:=zcx b i h 8 hi d;simp only[x,An];cases w with
 | true=>obtain ⟨l,y,z,g,j,m⟩:=zun b o s u d;simp only[if_true,g,An];exact ⟨_,_,_,rfl,by omega,m⟩
 | false=>
   obtain ⟨f,y,z,g,j,m⟩:=zR b o s 2 u d;have K:=j.2.1 (by omega);have L:=j.1;simp only[Ba,if_false,g,An];rw[za (n:=1+f) (by omega) (by omega)];refine zbo (R:=List Op × Am) (ρ:=Int × Int × List Op) (drO b) (λk (S:Int × Int × Int × List Op)=>inB b S.1/\S.2.2.1=1+f - (k:Int)/\S.2.2.2.length=k) (1+f).toNat (λr=>∃t:Int × Int × List Op,r= .go t/\inB b t.1/\t.2.2.length<=1000) ⟨m,by simp,rfl⟩ ?_ ?_ ?_
   ·rintro k ⟨p,q,c,l⟩ M ⟨a,e,hl⟩;simp only at a e hl;subst e;left;obtain ⟨N,A,B,C,O,D⟩:=zfc b p q [[97],[98],[97,98],[99],[100]] (by simp) a d;obtain ⟨E,F,G,H,v⟩:=zcx b A B 4 D d;simp only[C,H,An];rw[if_pos (by simp only[decide_eq_true_eq];omega),za (n:=1+f - (k:Int) - 1) (by omega) (by omega)];cases E with
    | true=>simp only[if_true,zd];rw[zg (by simp only[Bh];omega) (by simp only[Bh];omega)];exact ⟨_,rfl,v,by simp only;omega,by simp[hl]⟩
    | false=>obtain ⟨P,Q,T,I,U,J⟩:=zj6 b F G 3 (by omega) v d;simp only[Ba,if_false,I,An,zd];rw[zg (by simp only[Bh];omega) (by simp only[Bh];omega)];exact ⟨_,rfl,J,by simp only;omega,by simp[hl]⟩
   ·rintro ⟨p,q,c,l⟩ ⟨a,e,hl⟩;simp only at a e hl;subst e;exact ⟨.go (p,q,l),by simp only;rw[if_neg (by simp only[decide_eq_true_eq];omega)],(p,q,l),rfl,a,by simp only;omega⟩
   ·rintro _ ⟨⟨p,q,l⟩,rfl,a,hl⟩;exact ⟨_,_,_,rfl,hl,a⟩
theorem zuu (secret:List UInt8) (t e:Int):(mintV secret t e).length<=100:=by
 unfold mintV;cases mintOk secret t e with
 | false=>exact Bo _
 | true=>have a:=zcR t;have b:=zcR e;grind
def zoX (b:List UInt8) (i h:Int) (secret:List UInt8) (hi:inB b i) (e:b.length<=1048576):drC b (zfk ⟨b,i,h⟩ secret):=by
 unfold zfk;obtain ⟨C,I,J,K,g1,L⟩:=zR b i h 3 hi e;obtain ⟨D,M,N,O,g2,Q⟩:=zdc b I J [0,0,0,0,0,1] (by simp) L e;obtain ⟨x3,m,o,R,g3,g⟩:=zR b M N 24 Q e;simp only[K,O,R,zdX,An];have S:=zuu secret (I6.wrap (1+C)) D;generalize mintV secret (I6.wrap (1+C)) D=tok at S;have ps: ∀{y:Int} {l:List Int},y∈l->(∀z∈l,-1000<=z/\z<=1000)->smN y:=λT hl=>hl _ T;refine zbK (P:=drC b) (λ_=>True) ?_ λT16 _=>?_
 ·exact zbc (zl trivial) (zl trivial)
 refine zbK (P:=drC b) (drQ7 b) ?_ λT19 hT=>?_
 ·refine zbc ?_ ?_
  ·obtain ⟨s,j,k,d,f,c⟩:=zdc b m o [40,40,20,0,41] (by simp) g e;obtain ⟨w,x,A,u,B,v⟩:=zR b j k 250 c e;simp only[d,u,zj7,An];exact zl ⟨v,ps f (by simp),Bo _⟩
  refine zbu (drQ7 b) (zbc ?_ ?_) λt a=>zl a
  ·obtain ⟨s,j,k,d,f,c⟩:=zdc b m o [40,10,30,-1,41] (by simp) g e;simp only[d,An];exact zl ⟨c,ps f (by simp),Bo _⟩
  refine zbu (drQ7 b) (zbc ?_ ?_) λt a=>zl a
  ·obtain ⟨s,j,k,d,c⟩:=zcx b m o 2 g e;simp only[d,An];exact zbu (λ_=>True) (zbc (zl trivial) (zl trivial)) λt _=>zl ⟨c,by unfold smN;simp,Bo _⟩
  refine zbu (drQ7 b) (zbc ?_ ?_) λt a=>zl a
  ·obtain ⟨s,j,k,d,c⟩:=zcx b m o 4 g e;simp only[d,An];exact zbu (λ_=>True) (zbc (zl trivial) (zl trivial)) λt _=>zl ⟨c,by unfold smN;simp,Bo _⟩
  refine zbu (λ_=>True) (zbc (zl trivial) (zbu (λ_=>True) (zbc (zl trivial) (zl trivial)) λt _=>zl trivial)) λT57 _=>?_;refine zbu (drQ7 b) (zbc ?_ ?_) λt a=>zl a
  ·obtain ⟨s,j,k,d,f,c⟩:=zfc b m o [[97],[98],[97,98],[99],[100],[122,122]] (by simp) g e;simp only[d,An];exact zl ⟨c,by unfold smN;simp,Bo _⟩
  refine zbu (λ_=>True) (zbc (zl trivial) (zl trivial)) λT70 _=>?_;refine zbu (drQ7 b) (zbc ?_ ?_) λt a=>zl a
  ·obtain ⟨s,j,k,d,f,c⟩:=zfc b m o [[],[97],[98]] (by simp) g e;obtain ⟨w,x,A,u,B,v⟩:=zfc b j k [[],[99],[98]] (by simp) c e;simp only[d,u,An];exact zl ⟨v,by unfold smN;simp,Bo _⟩
  refine zbu (drQ6 b) (zbc ?_ ?_) λt a=>zl a
  ·exact zl ⟨g,by unfold smN;simp,Bo _⟩
  refine zbu (drQ6 b) (zbc ?_ ?_) λt a=>zl a
  ·obtain ⟨s,j,k,d,f,c⟩:=zR b m o 5 g e;have:=f.2.1 (by omega);have:=f.1;simp only[d,An];exact zl ⟨c,by unfold smN;simp only;omega,Bo _⟩
  refine zbu (λ_=>True) (zbc (zl trivial) (zl trivial)) λT93 _=>?_;refine zbu (drQ6 b) (zbc ?_ ?_) λt a=>zl a
  ·obtain ⟨s,j,k,d,f,c⟩:=zR b m o 5 g e;obtain ⟨w,x,A,u,B,v⟩:=zfc b j k [[97],[98],[97,98],[99]] (by simp) c e;have:=f.2.1 (by omega);have:=f.1;simp only[d,u,An];exact zl ⟨v,by unfold smN;simp only;omega,Bo _⟩
  refine zbu (drQ5 b) (zbc ?_ ?_) λt a=>zl a
  ·exact zl ⟨g,by unfold smN;simp,Bo _⟩
  refine zbu (drQ5 b) (zbc ?_ ?_) λt a=>zl a
  ·exact zl ⟨g,by unfold smN;simp,Bo _⟩
  refine zbu (drQ5 b) (zbc ?_ ?_) λt a=>zl a
  ·exact zl ⟨g,by unfold smN;simp,Bo _⟩
  refine zbu (drQ5 b) (zbc ?_ ?_) λt a=>zl a
  ·obtain ⟨s,j,k,d,f,c⟩:=zdc b m o [0,0,1,2,9,-1] (by simp) g e;simp only[d,An];exact zl ⟨c,ps f (by simp),Bo _⟩
  ·obtain ⟨l,j,k,d,f,c⟩:=ztd b m o g e;simp only[d,An];exact zl ⟨c,by unfold smN;simp,f⟩
 ·obtain ⟨p,q,kd,n,key,to,ops⟩:=T19;obtain ⟨E,F,G⟩:=hT;simp only at E F G;obtain ⟨s,j,k,d,c⟩:=zcx b p q 30 E e;simp only[d,An];refine zbK (P:=drC b) (λt:Int × Int × Int=>inB b t.1) (zbc ?_ ?_) λT128 hT=>?_
  ·obtain ⟨w,x,A,u,B,v⟩:=zdc b j k [0,15] (by simp) c e;simp only[u,An];exact zl v
  ·exact zl c
  obtain ⟨U,V,kd2⟩:=T128;simp only at hT;obtain ⟨x6,W,X,Y,H⟩:=zcx b U V 25 hT e;simp only[Y,An];refine zbK (P:=drC b) (λt:List UInt8 × Int × Int=>t.1.length<=2000/\inB b t.2.1) (zbc ?_ ?_) λT138 hT2=>?_
  ·obtain ⟨x7,i7,h7,Z,g7,k7⟩:=zul b W X tok (by omega) H e;simp only[Z,An];exact zl ⟨by simp only;omega,k7⟩
  ·exact zl ⟨by simp only;omega,H⟩
  exact ⟨_,_,_,rfl,⟨hT2.1,G,F⟩,hT2.2⟩
theorem zte (b:List UInt8) (i h:Int) (secret:List UInt8) (most:Int) (K:most<=1000) (hi:inB b i) (f:b.length<=1048576):drL b (zgg ⟨b,i,h⟩ secret most):=by
 unfold zgg;have V: ∀k t n key Z,smN n->litC ⟨k,[],t,n,key,Z,[]⟩:=λk t n key Z E=>⟨Bo _,Bo _,E⟩;have o: ∀(l:List Ao) (c:Ao),l.length<=10000->app 96 l [c]=some (l++ [c]):=λl c hl=>zg (by simp only[Bh];omega) (by simp only[Bh];omega);have s: ∀{l:List Ao} {c:Ao},(∀x∈l,litC x)->litC c->∀x∈l++ [c],litC x:=by grind
 refine zbo (R:=List Ao × Am) (ρ:=Int × Int × List Ao) (drL b) (λk (S:Int × Int × Int × List Ao)=>inB b S.1/\S.2.2.1=1+(k:Int)/\S.2.2.2.length<=k/\∀c∈S.2.2.2,litC c) 2 (λr=>∃t:Int × Int × List Ao,r= .go t/\inB b t.1/\t.2.2.length<=2/\∀c∈t.2.2,litC c) ⟨hi,by simp,Bo _,λc d=>by cases d⟩ ?_ ?_ ?_
 ·rintro k ⟨p,q,c,l⟩ z ⟨a,d,hl,U⟩;simp only at a d hl U;subst d;left;obtain ⟨A,u,g,j,e⟩:=zcx b p q 8 a f;simp only[j,An];rw[if_pos (by simp only[decide_eq_true_eq];omega),za (n:=1+(k:Int)+1) (by omega) (by omega)];cases A with
  | true=>exact ⟨_,rfl,e,by simp only;omega,by simp only;omega,U⟩
  | false=>simp only[Bz,if_true,zj7,An,o l _ (show l.length<=10000 by omega),zd];exact ⟨_,rfl,e,by simp only;omega,by simp;omega,s U (V _ _ _ _ _ (by unfold smN;omega))⟩
 ·rintro ⟨p,q,c,l⟩ ⟨a,d,hl,U⟩;simp only at a d hl U;subst d;exact ⟨.go (p,q,l),by simp only;rw[if_neg (by simp only[decide_eq_true_eq];omega)],(p,q,l),rfl,a,hl,U⟩
 rintro _ ⟨⟨p,q,l⟩,rfl,a,hl,U⟩;simp only at a hl U;obtain ⟨m,L,B,F,v,G⟩:=zR b p q most a f;simp only[zd,F,An];have M:m<=1000:=by
  rcases Int.lt_or_le 0 most with w | w
  ·have:=v.2.1 w;omega
  ·have:=v.2.2 w;omega
 have N:=v.1;refine zbo (R:=List Ao × Am) (ρ:=Int × Int × List Ao) (drL b) (λk (S:Int × Int × Int × List Ao)=>inB b S.1/\S.2.2.1=m - (k:Int)/\S.2.2.2.length<=2+k/\∀c∈S.2.2.2,litC c) m.toNat (λr=>∃t:Int × Int × List Ao,r= .go t/\inB b t.1/\t.2.2.length<=1500/\∀c∈t.2.2,litC c) ⟨G,by simp,by simp only;omega,U⟩ ?_ ?_ ?_
 ·rintro k ⟨p,q,c,l⟩ z ⟨a,d,hl,U⟩;simp only at a d hl U;subst d;left;obtain ⟨cc,u,g,j,H,e⟩:=zoX b p q secret a f;simp only[j,An,o l _ (show l.length<=10000 by omega)];rw[if_pos (by simp only[decide_eq_true_eq];omega),za (n:=m - (k:Int) - 1) (by omega) (by omega)];exact ⟨_,rfl,e,by simp only;omega,by simp;omega,s U H⟩
 ·rintro ⟨p,q,c,l⟩ ⟨a,d,hl,U⟩;simp only at a d hl U;subst d;exact ⟨.go (p,q,l),by simp only;rw[if_neg (by simp only[decide_eq_true_eq];omega)],(p,q,l),rfl,a,by simp only;omega,U⟩
 rintro _ ⟨⟨p,q,l⟩,rfl,a,hl,U⟩;simp only at a hl U;obtain ⟨A,u,g,j,e⟩:=zcx b p q 60 a f;simp only[zd,j,An];refine zbK (P:=drL b) (λt:Int × Int × List Ao=>inB b t.1/\t.2.2.length<=2000/\∀c∈t.2.2,litC c) (zbc ?_ ?_) λt y=>⟨_,_,_,rfl,y.2.1,y.2.2,y.1⟩
 ·obtain ⟨C,O,Q,I,D,J⟩:=zR b u g 2 e f;have:=D.2.1 (by omega);have:=D.1;simp only[I,An];rw[za (n:=120+C) (by omega) (by omega)];refine zbo (ρ:=List Ao) (goO λt:Int × Int × List Ao=>inB b t.1/\t.2.2.length<=2000/\∀c∈t.2.2,litC c) (λk (S:List Ao)=>S.length=l.length+k/\∀c∈S,litC c) (120+C - (l.length:Int)).toNat (λr=>∃t:List Ao,r= .go t/\t.length<=2000/\∀c∈t,litC c) ⟨rfl,U⟩ ?_ ?_ ?_
  ·rintro k S z ⟨hs,W⟩;left;simp only[o S _ (show S.length<=10000 by omega),An];rw[if_pos (by simp only[decide_eq_true_eq];omega)];exact ⟨_,rfl,by simp;omega,s W (V _ _ _ _ _ (by unfold smN;omega))⟩
  ·rintro S ⟨hs,W⟩;exact ⟨.go S,by rw[if_neg (by simp only[decide_eq_true_eq];omega)],S,rfl,by omega,W⟩
  ·rintro _ ⟨t,rfl,B,g⟩;exact zl ⟨J,B,g⟩
 ·exact zl ⟨e,by simp only;omega,U⟩
def keyP (l:List A5) (k:Nat):Bool:=match l[k]? with
 | some x=>decide (1<=x.s/\x.s<=99)&&(Dc (x.j.length=32)&&(match k with | 0=>true | j+1=>match l[j]? with | some d=>decide (d.s<x.s) | none=>true))
 | none=>true
theorem zm2 (l:List A5) (k:Nat) (h:k<l.length):keyP l k=(Dc (1<=l[k].s/\l[k].s<=99)&&(Dc (l[k].j.length=32)&&(if a:0<k then Dc ((l[k - 1]'(by omega)).s<l[k].s) else true))):=by unfold keyP;grind
def keysC (d:At):Bool:=Dc (d.K.length=32)&&(Dc (d.D.length<=4)&&(Dc (0<=d.H/\d.H<=1000000)&&(En d.D.length).all (keyP d.D)))
theorem zpJ (d:At):zbg d=some (keysC d):=by
 unfold zbg keysC;simp only[zba,An,len32];cases Dc (d.K.length=32) with
 | false=>rfl
 | true=>
 by_cases f:d.D.length<=4
 ·rw[decide_eq_true f,decide_eq_false (by omega)];by_cases g:0<=d.H/\d.H<=1000000
  ·rw[decide_eq_true g];simp only[Bl,Ba,if_false,An,Ct];rw[zhH (keyP d.D) d.D.length ?hp ?hq]
   case hq=>simp
   case hp=>
    intro k b
    simp only[zb d.D k b,An]
    rw[if_pos (by simp_all),za (n:=(k:Int)+1) (by omega) (by omega),zm2 d.D k b]
    by_cases a:1<=d.D[k].s/\d.D[k].s<=99
    ·by_cases c:d.D[k].j.length=32
     ·rw[decide_eq_true a,decide_eq_true c];by_cases h:0<k
      ·have i:I6.wrap ((k:Int) - 1)=((k - 1:Nat):Int):=by rw[za (by omega) (by omega)];omega
       rw[dif_pos h,if_neg (by simp),if_neg (by simp),if_pos (by simp_all)];simp only[i,zb d.D (k - 1) (by omega),An];by_cases e:(d.D[k - 1]'(by omega)).s<d.D[k].s
       ·simp[e,show ¬d.D[k].s<=(d.D[k - 1]'(by omega)).s by omega]
       ·simp[e,show d.D[k].s<=(d.D[k - 1]'(by omega)).s by omega]
      ·obtain rfl:k=0:=by omega
       simp
     ·rw[decide_eq_true a,decide_eq_false c];simp
    ·rw[decide_eq_false a];simp
   cases (En d.D.length).all (keyP d.D) with
   | false=>rfl
   | true=>rfl
  ·grind
 ·grind
def zqa (d:At):keysV d=keysC d:=by unfold keysV;rw[zpJ];rfl
theorem zbO (d:At):keysV d=true↔d.K.length=32/\d.D.length<=4/\(0<=d.H/\d.H<=1000000)/\(∀x∈d.D,(1<=x.s/\x.s<=99)/\x.j.length=32)/\d.D.Pairwise (λa b=>a.s<b.s):=by
 rw[zqa];unfold keysC;simp only[Bw,Ed,decide_eq_true_eq];constructor
 ·rintro ⟨e,f,g,h⟩;have c: ∀k (c:k<d.D.length),_:=λk c=>h k (by simp_all);have v: ∀(j:Nat) (l:j<d.D.length) (i:Nat) (hi:i<j),(d.D[i]'(by omega)).s<d.D[j].s:=by
   intro j;induction j with
   | zero=>intro _ i hi;omega
   | succ j ih=>
     intro l i hi;have e:(d.D[j]'(by omega)).s<d.D[j+1].s:=by have:=c (j+1) l;rw[zm2 d.D (j+1) l,dif_pos (by omega)]at this;simp_all
     grind
  refine ⟨e,f,g,λx p=>?_,?_⟩
  ·obtain ⟨k,n,rfl⟩:=Bt p;have:=c k n;rw[zm2 d.D k n]at this;simp_all
  ·rw[Bp];grind
 ·rintro ⟨e,f,g,h,o⟩;rw[Bp]at o;refine ⟨e,f,g,λk c=>?_⟩;have m:k<d.D.length:=by simp_all
  obtain ⟨q,t⟩:=h _ (Bf m);rw[zm2 d.D k m,decide_eq_true q,decide_eq_true t];simp only[Ct];by_cases u:0<k
  ·rw[dif_pos u];exact decide_eq_true (o (k - 1) k (by omega) m (by omega))
  ·simp_all
theorem zj5 (a:keysV d=true) {x:A5} (b:x∈d.D):keyOfV d x.s=x.j:=by
 obtain ⟨_,_,_,_,c⟩:=(zbO d).1 a;unfold keyOfV;rw[a];simp only[cond_true];cases e:d.D.findIdx? (λy=>decide (y.s=x.s)) with
 | none=>grind
 | some j=>obtain ⟨g,f,_⟩:=Dn.1 e;have h:=of_decide_eq_true f;obtain ⟨i,hi,rfl⟩:=Bt b;rw[Bp]at c;grind
def placeK (l:List A5) (id:Int):Nat:=(l.takeWhile λx=>decide (x.s<id)).length
def addKS (d:At) (id:Int) (key:List UInt8):At:=⟨d.K,d.D.take (placeK d.D id)++(⟨id,key⟩::d.D.drop (placeK d.D id)),d.H⟩
def wipeKS (d:At) (id:Int):At:={K:=d.K,D:=d.D.filter λx=>!Dc (x.s=id),H:=d.H+1}
theorem zxn (q:α->Bool) (l:List α):(∀x∈l.take (l.takeWhile q).length,q x=true)/\(∀h:(l.takeWhile q).length<l.length,q l[(l.takeWhile q).length]=false):=by
 induction l with
 | nil=>exact ⟨λx b=>by trivial,λh=>by trivial⟩
 | cons a l ih=>rw[Di];grind
theorem zsw {l:List A5} {id:Int} (d:l.Pairwise λa b=>a.s<b.s) (e: ∀x∈l,¬x.s=id):(∀x∈l.take (placeK l id),x.s<id)/\(∀x∈l.drop (placeK l id),id<x.s):=by
 obtain ⟨f,g⟩:=zxn (λx:A5=>decide (x.s<id)) l;refine ⟨λx c=>of_decide_eq_true (f x c),λx c=>?_⟩;obtain ⟨i,hi,rfl⟩:=Bt c;rw[Dh];rw[Fa]at hi;have hl:placeK l id<l.length:=by omega
 have h: ¬l[placeK l id].s<id:=of_decide_eq_false (g hl);have j:=e _ (Bf hl);rw[Bp]at d;by_cases k:i=0
 ·grind
 ·have:=d (placeK l id) (placeK l id+i) hl (by omega) (by omega);omega
def zsv {R:α->α->Prop} {A B:List α} {x:α} (h:(A++B).Pairwise R) (D: ∀a∈A,R a x) (E: ∀b∈B,R x b):(A++x::B).Pairwise R:=by
 rw[El]at h |-
 simp_all
theorem znM {id:Int} (b:keysV d=true) (hi:1<=id/\id<=99) (j:key.length=32) (hl:d.D.length<4) (c: ∀x∈d.D,¬x.s=id):keysV (addKS d id key)=true:=by
 obtain ⟨e,k,f,l,g⟩:=(zbO d).1 b;rw[zbO];obtain ⟨h,i⟩:=zsw g c;refine ⟨e,?_,f,λx a=>?_,?_⟩
 ·show (d.D.take _++_::d.D.drop _).length<=4;grind
 ·rcases De.1 a with a | a
  ·grind
  ·grind
 ·exact zsv (by simp_all) h i
def zvT (id:Int) (a:keysV d=true) (h:d.H<1000000):keysV (wipeKS d id)=true:=by obtain ⟨b,c,i,e,f⟩:=(zbO d).1 a;rw[zbO];refine ⟨b,Dm (Cj _ _) c,?_,λx g=>e x (Cv.1 g).1,f.filter _⟩;show 0<=d.H+1/\d.H+1<=1000000;omega
structure tenP (key:List UInt8) (rows:List Ah) (t:Af):Prop where
 ep:0<=t.J/\t.J<=1000000
 base:0<=t.G/\t.G<=1000000
 snaps:t.g.B.length<=2
 tabs:t.g.t.length<=1
 eng:engV t.g=true
 few:rows.length<=6
 seq:t.G+(rows.length:Int)=t.g.c
 seqs:seqsV t.G rows=true
 start:engV (rep0 t)=true
 runs:(repS key (rep0 t) rows).2=true
 mem:(repS key (rep0 t) rows).1.x=t.g.x
def zsT (s:Ae) (t:Af):tenV s t=true↔tenP (keyOfV s.m t.q) (rowsV s t.q) t:=by
 unfold tenV;simp only[Bw,decide_eq_true_eq];constructor
 ·rintro ⟨⟨a,b⟩,⟨c,d⟩,e,⟨f,g⟩,h,i,j,k⟩;exact ⟨a,b,c,d,e,f,g,h,i,j,k⟩
 ·rintro ⟨a,b,c,d,e,f,g,h,i,j,k⟩;trivial
structure storeP (s:Ae):Prop where
 secret:s.F.length=32
 keys:keysV s.m=true
 shares:sharesV s.C=true
 boot:0<=s.A/\s.A<=1000
 hist:s.L.length<=120
 slots:s.a.map Af.q=s.m.D.map A5.s
 ids:s.a.map Af.q=s.C.r.map As.s
 tens: ∀t∈s.a,tenP (keyOfV s.m t.q) (rowsV s t.q) t
 rows: ∀r∈s.u,∃t∈s.a,t.q=r.s
theorem zqO (p:α->Bool) (l:List α):0<=fstV p l↔∃x∈l,p x=true:=by unfold fstV;grind
theorem zi9 (s:Ae):storeV s=true↔storeP s:=by
 unfold storeV bodyS;simp only[Bw,decide_eq_true_eq,Ed];constructor
 ·rintro ⟨⟨c,d,e,f,g,j,k⟩,l,n⟩;have hs: ∀i (hi:i<s.a.length),s.a[i].q=(s.m.D[i]'(by omega)).s/\s.a[i].q=(s.C.r[i]'(by omega)).s/\tenP (keyOfV s.m s.a[i].q) (rowsV s s.a[i].q) s.a[i]:=by intro i hi;have:=l i (by simp_all);rw[zly s i hi (by omega) (by omega)]at this;simp only[Bw,decide_eq_true_eq]at this;exact ⟨this.1,this.2.1,(zsT s _).1 this.2.2⟩
  refine ⟨c,d,e,f,g,Ee (by simp_all) λi hi w=>?_,Ee (by grind) λi hi w=>?_,λt b=>?_,λr o=>?_⟩
  ·grind
  ·grind
  ·obtain ⟨i,hi,rfl⟩:=Bt b;grind
  ·obtain ⟨t,b,h⟩:=(zqO _ _).1 (n r o);grind
 ·rintro ⟨c,d,e,f,g,j,k,l,n⟩;have x:s.a.length=s.m.D.length:=by have:=congrArg Ea j;grind
  have y:s.a.length=s.C.r.length:=by have:=congrArg Ea k;grind
  refine ⟨⟨c,d,e,f,g,x,y⟩,λi hi=>?_,λr o=>?_⟩
  ·have p:i<s.a.length:=by simp_all
   rw[zly s i p (by omega) (by omega)];simp only[Bw,decide_eq_true_eq];have u:=Eu j (i:=i) (by simp_all);have v:=Eu k (i:=i) (by simp_all);simp only[Eg]at u v;exact ⟨u,v,(zsT s _).2 (l _ (Bf p))⟩
  ·obtain ⟨t,b,h⟩:=n r o;exact (zqO _ _).2 ⟨t,b,decide_eq_true h⟩
theorem zgJ (base:Int) (h:List Ah):seqsV base h=true↔∀i (hi:i<h.length),h[i].c=base+1+i:=by
 unfold seqsV;rw[Ed];constructor
 ·simp_all;omega
 ·grind
def zh3 (key:List UInt8): ∀(a b:List Ah) (e:Aa),repS key e (a++b)=bif (repS key e a).2 then repS key (repS key e a).1 b else (⟨[],[],0,[]⟩,false)
 | [],b,e=>rfl
 | r::a,b,e=>by
   simp only[List.cons_append,repS];cases (openB key r.A r.c r.O).2&&(putR e (openB key r.A r.c r.O).1).2 with
   | false=>rfl
   | true=>exact zh3 key a b _
def zls (key:List UInt8): ∀(D:List Ah) (e:Aa),(repS key e D).2=true->(repS key e D).1.t=e.t/\(repS key e D).1.B=e.B/\(repS key e D).1.c=e.c+D.length
 | [],e,_=>⟨rfl,rfl,by simp[repS]⟩
 | r::D,e,h=>by
   simp only[repS]at h |-
   cases d:(openB key r.A r.c r.O).2&&(putR e (openB key r.A r.c r.O).1).2 with
   | false=>rw[d]at h;cases h
   | true=>rw[d]at h;obtain ⟨g,i,j,f⟩:=zjw (Bw _ _ ▸ d:_/\_).2;obtain ⟨a,b,c⟩:=zls key D _ h;rw[f]at a b c;simp only[cond_true];rw[f];refine ⟨a,b,?_⟩;rw[c];simp only[engB,Dq];omega
def cntB (l:List Op):Nat->Nat
 | 0=>0
 | k+1=>match l[k]? with
   | some o=>cntB l k+bif laterV l k o.j then 0 else 1
   | none=>cntB l k
def zsm (l:List Op) (seq:Int) (m:List Ac) (e:ordE m) (hs: ∀x∈m,x.c<seq) (hl:m.length+l.length<=1048576): ∀k,k<=l.length->(memB l seq m k).length=m.length+cntB l k:=by
 intro k;induction k with
 | zero=>intro _;rfl
 | succ k ih=>
   intro p;have a:k<l.length:=by omega
   have b:=ih (by omega);obtain ⟨f,q,g,s⟩:=zgD l seq m e hs hl k (by omega);have h:cntB l (k+1)=cntB l k+bif laterV l k l[k].j then 0 else 1:=by show (match l[k]? with | some o=>_ | none=>_)=_;simp_all
   rw[h];cases d:laterV l k l[k].j with
   | true=>rw[zhe l seq m k a d,b];rfl
   | false=>obtain ⟨j,i,_,n,t⟩:=zoe (memB l seq m k) (entO l[k] seq) f (by omega) (zn7 l seq m _ k a hs g);rw[zn8 l seq m k a d,n,Option.getD_some,zsg _ _ _ i,b];rfl
def ztU {l:List Op} (h:engV e=true) (a:batchV l=true):okB e l=true↔e.c+1<=1000000/\e.x.length+cntB l l.length<=60/\totalV e.t+(e.x.length+cntB l l.length)<=400:=by obtain ⟨b,d,f⟩:=zhI h a;unfold okB;rw[zsm l (e.c+1) e.x b d (by omega) l.length (Cy _)];simp
def znQ {l:List Op} (h:engV e=true) (a:batchV l=true):(engB e l).x.length=e.x.length+cntB l l.length:=by obtain ⟨b,d,f⟩:=zhI h a;exact zsm l (e.c+1) e.x b d (by omega) l.length (Cy _)
def zwr (key:List UInt8) {B qs:List Ah} (j:qs.Sublist B): ∀(e f:Aa),(repS key e B).2=true->engV f=true->f.t=e.t->f.c<=e.c->f.x.length<=e.x.length->(repS key f qs).2=true:=by
 induction j with
 | slnil=>intro e f _ _ _ _ _;rfl
 | @cons qs B r j ih=>
   intro e f h d g n o;simp only[repS]at h;cases a:(openB key r.A r.c r.O).2&&(putR e (openB key r.A r.c r.O).1).2 with
   | false=>rw[a]at h;cases h
   | true=>
     rw[a]at h;obtain ⟨i,b,l,k⟩:=zjw (Bw _ _ ▸ a:_/\_).2;simp only[cond_true]at h;rw[k]at h;refine ih _ f h d g ?_ ?_
     ·show f.c<=e.c+1;omega
     ·rw[znQ i b];omega
 | @cons_cons qs B r j ih=>
   intro e f h d g n o;simp only[repS]at h |-
   cases a:(openB key r.A r.c r.O).2&&(putR e (openB key r.A r.c r.O).1).2 with
   | false=>rw[a]at h;cases h
   | true=>
     rw[a]at h;have p:=(Bw _ _ ▸ a:_/\_).1;obtain ⟨i,b,l,k⟩:=zjw (Bw _ _ ▸ a:_/\_).2;simp only[cond_true]at h;rw[k]at h;obtain ⟨s,u,v⟩:=(ztU i b).1 l;have m:okB f (openB key r.A r.c r.O).1=true:=by rw[ztU d b,g];omega
     have q:putR f (openB key r.A r.c r.O).1=(engB f (openB key r.A r.c r.O).1,true):=by unfold putR;rw[d,b,m];rfl
     rw[q,p];simp only[Bool.and_self,cond_true];refine ih _ _ h ?_ g ?_ ?_
     ·rw[zm0 d b];exact m
     ·show f.c+1<=e.c+1;omega
     ·rw[znQ i b,znQ d b];omega
def tenP.eng_is {rows:List Ah} (h:tenP key rows t):(repS key (rep0 t) rows).1=⟨t.g.x,t.g.t,t.g.c,[]⟩:=by
 obtain ⟨a,b,c⟩:=zls key rows _ h.runs;have d:=h.mem;have e:=h.seq;generalize (repS key (rep0 t) rows).1=x at a b c d;obtain ⟨i,j,f,k⟩:=x;simp only at a b c d;have A:f=t.g.c:=by rw[c];exact e
 rw[a,b,A,d];rfl
def atE (l:List Af) (id:Int):Int:=fstV (λt=>decide (t.q=id)) l
def tenE (l:List Af) (i:Int):Af:=l.getD i.toNat ⟨0,0,0,⟨[],[],0,[]⟩⟩
def noTE (id:Int) (l:List Af):List Af:=l.filter λt=>!Dc (t.q=id)
def noLR (id:Int) (l:List Ah):List Ah:=l.filter λr=>!Dc (r.s=id)
def ofLR (id:Int) (l:List Ah):List Ah:=l.filter λr=>decide (r.s=id)
def flatE (e:Aa):Aa:=(mergeS (flushS e).2).2
def flushT (t:Af):Af:=⟨t.q,t.J,(flatE t.g).c,flatE t.g⟩
def flushO (s:Ae) (i:Int):Ae:=⟨s.F,s.m,s.C,s.a.set i.toNat (flushT (tenE s.a i)),noLR (tenE s.a i).q s.u,s.L,s.A⟩
def newTE (id:Int):Af:=⟨id,0,0,⟨[],[],0,[]⟩⟩
def placeE (l:List Af) (id:Int):Nat:=(l.takeWhile λx=>decide (x.q<id)).length
def insTE (l:List Af) (t:Af):List Af:=l.take (placeE l t.q)++(t::l.drop (placeE l t.q))
def createS (s:Ae) (c:Ao):Ae × Ar:=
 bif !Dc (1<=c.s/\c.s<=99)||(!Dc (0<=c.N/\c.N<=40)||(!Dc (c.j.length=32)||decide (atE s.a c.s>=0))) then (s,codeR 1)
 else bif Dc (4<=s.a.length) then (s,codeR 4)
 else bif (setR s.C c.s c.N).2 then (⟨s.F,addKS s.m c.s c.j,(setR s.C c.s c.N).1,insTE s.a (newTE c.s),s.u,s.L,s.A⟩,⟨0,1,mintV s.F c.s 0,[]⟩)
 else (s,codeR 6)
def quotaS (s:Ae) (c:Ao):Ae × Ar:=
 bif Dc (0<=c.N/\c.N<=40) then (bif (setR s.C c.s c.N).2 then (⟨s.F,s.m,(setR s.C c.s c.N).1,s.a,s.u,s.L,s.A⟩,codeR 0) else (s,codeR 6)) else (s,codeR 1)
def removeS (s:Ae) (id:Int):Ae × Ar:=
 bif Dc (1000<=s.A)||decide (1000000<=s.m.H) then (s,codeR 4)
 else (⟨s.F,wipeKS s.m id,(shareDropR s.C id).1,noTE id s.a,noLR id s.u,s.L,s.A+1⟩,codeR 0)
def withT (s:Ae) (i:Int) (t:Af):Ae:=⟨s.F,s.m,s.C,s.a.set i.toNat t,s.u,s.L,s.A⟩
def rotateS (s:Ae) (i:Int):Ae × Ar:=
 bif Dc ((tenE s.a i).J>=1000000) then (s,codeR 4)
 else (withT s i ⟨(tenE s.a i).q,(tenE s.a i).J+1,(tenE s.a i).G,(tenE s.a i).g⟩,⟨0,0,mintV s.F (tenE s.a i).q ((tenE s.a i).J+1),[]⟩)
def ownS (s:Ae) (c:Ao):Ae × Ar:=
 bif Dc (atE s.a c.s<0) then (s,codeR 5)
 else bif Dc (c.E=2) then quotaS s c
 else bif Dc (c.E=3) then removeS s c.s
 else bif Dc (c.E=4) then rotateS s (atE s.a c.s)
 else (flushO s (atE s.a c.s),codeR 0)
def markL (r:Ah):Ah:=⟨r.s,r.A,r.c,r.O,true⟩
def syncS (s:Ae):Ae:=⟨s.F,s.m,s.C,s.a,s.u.map markL,s.L,s.A⟩
def keepL:Int->List Ah->List Ah
 | _,[]=>[]
 | n,r::l=>bif r.U then markL r::keepL n l else bif Dc (n<1) then keepL n l else markL r::keepL (n - 1) l
def crashT (key:List UInt8) (rows:List Ah) (t:Af):Af:=⟨t.q,t.J,t.G,(repS key (rep0 t) rows).1⟩
def crashS (s:Ae) (n:Int):Ae × Ar:=
 bif Dc (1000<=s.A) then (s,codeR 4)
 else ({F:=s.F,m:=s.m,C:=s.C,a:=s.a.map λt=>crashT (keyOfV s.m t.q) (ofLR t.q (keepL n s.u)) t,u:=keepL n s.u,L:=s.L,A:=s.A+1},codeR 0)
def valR (e:Aa) (key:List UInt8) (seq:Int):Ar:=bif (getR e key seq).2 then ⟨0,0,(getR e key seq).1,[]⟩ else codeR 5
def putS (s a:Ae) (i:Int) (ops:List Op):Ae:=
 ⟨a.F,a.m,a.C,a.a.set i.toNat ⟨(tenE a.a i).q,(tenE a.a i).J,(tenE a.a i).G,engB (tenE a.a i).g ops⟩,a.u++ [⟨(tenE a.a i).q,a.A,(tenE a.a i).g.c+1,sealB (keyOfV a.m (tenE a.a i).q) a.A ((tenE a.a i).g.c+1) ops,false⟩],s.L++ [⟨(tenE a.a i).q,a.A,(tenE a.a i).g.c+1,sealB (keyOfV a.m (tenE a.a i).q) a.A ((tenE a.a i).g.c+1) ops,false⟩],a.A⟩
def roomS (s:Ae) (i:Int):Ae:=bif Dc (6<=(ofLR (tenE s.a i).q s.u).length) then flushO s i else s
def writeS (s:Ae) (i:Int) (ops:List Op):Ae × Ar:=
 bif Dc (120<=s.L.length) then (s,codeR 4)
 else bif batchV ops then
  (bif Dc ((bytesN (applyK (mapR (tenE s.a i).g (tenE s.a i).g.c) ops):Int)>quoV (-1) s.C (tenE s.a i).q) then (s,codeR 3)
 else bif okB (tenE (roomS s i).a i).g ops&& !Dc (sealB (keyOfV s.m (tenE s.a i).q) s.A ((tenE s.a i).g.c+1) ops= []) then
    (putS s (roomS s i) i ops,⟨0,(tenE s.a i).g.c+1,[],[]⟩)
 else (s,codeR 4))
 else (s,codeR 1)
def withE (s:Ae) (i:Int) (l:List Int):Ae:=
 withT s i ⟨(tenE s.a i).q,(tenE s.a i).J,(tenE s.a i).G,⟨(tenE s.a i).g.x,(tenE s.a i).g.t,(tenE s.a i).g.c,l⟩⟩
def snapS (s:Ae) (i:Int):Ae × Ar:=
 bif Dc ((tenE s.a i).g.c∈(tenE s.a i).g.B) then (s,⟨0,(tenE s.a i).g.c,[],[]⟩)
 else bif Dc (2<=(tenE s.a i).g.B.length) then (s,codeR 4)
 else (withE s i ((tenE s.a i).g.B++ [(tenE s.a i).g.c]),⟨0,(tenE s.a i).g.c,[],[]⟩)
def heldS (s:Ae) (i:Int) (c:Ao):Ae × Ar:=
 bif Dc (c.N∈(tenE s.a i).g.B) then
  (bif Dc (c.E=10) then (s,valR (tenE s.a i).g c.j c.N) else (withE s i (dropS (tenE s.a i).g.B c.N),codeR 0))
 else (s,codeR 5)
def tenS (s:Ae) (i:Int) (c:Ao):Ae × Ar:=
 bif Dc (c.E=5) then writeS s i c.R
 else bif Dc (c.E=6) then (s,valR (tenE s.a i).g c.j (tenE s.a i).g.c)
 else bif Dc (c.E=7) then (s,⟨0,0,[],scanV (mapR (tenE s.a i).g (tenE s.a i).g.c) c.j c.W⟩)
 else bif Dc (c.E=8) then snapS s i
 else bif Dc (c.E=11) then (s,⟨0,(bytesN (mapR (tenE s.a i).g (tenE s.a i).g.c):Int),[],[]⟩)
 else heldS s i c
def callS (s:Ae) (c:Ao):Ae × Ar:=
 bif !(tokR s.F c.Q).2.2||(Dc (atE s.a (tokR s.F c.Q).1<0)|| !Dc ((tenE s.a (atE s.a (tokR s.F c.Q).1)).J=(tokR s.F c.Q).2.1)) then (s,codeR 2)
 else tenS s (atE s.a (tokR s.F c.Q).1) c
def doS (s:Ae) (c:Ao):Ae × Ar:=
 bif Dc (c.E=1) then createS s c
 else bif Dc (c.E=12) then (syncS s,codeR 0)
 else bif Dc (c.E=14) then crashS s c.N
 else bif Dc (2<=c.E/\c.E<=4)||decide (c.E=13) then ownS s c
 else bif Dc (5<=c.E/\c.E<=11) then callS s c
 else (s,codeR 1)
def zcY (l:List Af) (id:Int):(∃j,∃b:j<l.length,atE l id=(j:Int)/\l[j].q=id/\∀i (hi:i<j),¬(l[i]'(by omega)).q=id)\/(atE l id= -1/\∀x∈l,¬x.q=id):=by
 rcases zkx (λt:Af=>decide (t.q=id)) l with ⟨j,b,e,a,c⟩ | ⟨e,a⟩
 ·exact .inl ⟨j,b,e,of_decide_eq_true a,λi hi=>of_decide_eq_false (c i hi)⟩
 ·exact .inr ⟨e,λx d=>of_decide_eq_false (a x d)⟩
def zo (l:List Af) (j:Nat) (a:j<l.length):tenE l (j:Int)=l[j]:=by unfold tenE;simp_all
def ztT (id:Int) (l:List Ah):ofLR id (noLR id l)= []:=by unfold ofLR noLR;simp
theorem zo4 {id k:Int} (h: ¬k=id) (l:List Ah):ofLR k (noLR id l)=ofLR k l:=by unfold ofLR noLR;rw[List.filter_filter];grind
def zob (id:Int) (l k:List Ah):ofLR id (l++k)=ofLR id l++ofLR id k:=Et _ _
theorem zo3 {t x:α} (h:x∈l.set j t):x=t\/∃i,∃hi:i<l.length,¬i=j/\x=l[i]:=by obtain ⟨i,hi,e⟩:=Bt h;grind
theorem set_mapE {l:List Af} (a:j<l.length) (h:t.q=l[j].q):(l.set j t).map Af.q=l.map Af.q:=by rw[List.map_set];refine Ee (by simp) λi b c=>?_;grind
theorem storeP.lt (h:storeP s):s.a.Pairwise λa b=>a.q<b.q:=by have c:=((zbO _).1 h.keys).2.2.2.2;have d:(s.m.D.map A5.s).Pairwise (·< ·):=Ez.2 c;rw[<-h.slots]at d;grind
theorem storeP.ne (h:storeP s) {i:Nat} (hi:i<s.a.length) (b:j<s.a.length) (c: ¬i=j): ¬s.a[i].q=s.a[j].q:=by have:=Bp.1 h.lt;grind
theorem storeP.at (h:storeP s) (j:Nat) (d:j<s.a.length):atE s.a s.a[j].q=(j:Int):=by
 rcases zcY s.a s.a[j].q with ⟨i,hi,e,b,_⟩ | ⟨_,b⟩
 ·by_cases c:i=j
  ·omega
  ·exact absurd b (h.ne hi d c)
 ·grind
def storeP.lens (h:storeP s):s.a.length=s.m.D.length/\s.a.length=s.C.r.length/\s.a.length<=4:=by have b:=congrArg Ea h.slots;have c:=congrArg Ea h.ids;have d:=((zbO _).1 h.keys).2.1;simp_all
def storeP.slot (h:storeP s) (b:t∈s.a): ∃x∈s.m.D,x.s=t.q:=by have:t.q∈s.a.map Af.q:=Dd b;rw[h.slots]at this;simp_all
theorem zsZ (h:storeP s) (j:Nat) (c:j<s.a.length) (t:Af) (d:t.q=s.a[j].q) (g:tenP (keyOfV s.m t.q) (ofLR t.q s.u) t):storeP (withT s (j:Int) t):=by
 unfold withT;rw[Bm];refine ⟨h.secret,h.keys,h.shares,h.boot,h.hist,?_,?_,λx b=>?_,λr f=>?_⟩
 ·exact (set_mapE c d).trans h.slots
 ·exact (set_mapE c d).trans h.ids
 ·rcases Dj b with b | rfl
  ·exact h.tens x b
  ·trivial
 ·obtain ⟨x,b,e⟩:=h.rows r f;have:r.s∈(s.a.set j t).map Af.q:=by rw[set_mapE c d,<-e];grind
  grind
def ze3 (e:Aa):(flatE e).c=e.c/\(flatE e).B=e.B:=by obtain ⟨a,b,c⟩:=zln (flushS e).2;obtain ⟨d,f⟩:=zoF e;exact ⟨b.trans d,c.trans f⟩
theorem zwb (h:e.t.length<=1):(flatE e).x= []:=by
 obtain ⟨a,b,c⟩:=zln (flushS e).2;refine a.trans ?_;by_cases d:e.x.length=0\/6<=e.t.length
 ·rw[zeo d];grind
 ·rw[zgQ d]
def zpT (h:engV e=true):engV (flatE e)=true:=zvs (zic h)
def zva (e:Aa):(flatE e).t.length<=1:=by
 unfold flatE mergeS;cases c:Dc ((flushS e).2.t.length=0) with
 | true=>simp_all
 | false=>exact (zsR _).1
def zwc {rows:List Ah} (h:tenP key rows t):tenP key [] (flushT t):=by
 obtain ⟨a,b⟩:=ze3 t.g;have d:=zwb h.tabs;have e:=zpT h.eng;have i:=(z9 h.eng).1;have f:=zgP e (l:=[]) (by simp) rfl;refine ⟨h.ep,?_,?_,zva t.g,e,by simp,?_,rfl,?_,rfl,?_⟩
 ·show 0<=(flatE t.g).c/\(flatE t.g).c<=1000000;omega
 ·show (flatE t.g).B.length<=2;rw[b];exact h.snaps
 ·show (flatE t.g).c+((([]:List Ah).length:Nat):Int)=(flatE t.g).c;simp
 ·rw[d]at f;trivial
 ·exact d.symm
theorem zmd (h:storeP s) (j:Nat) (b:j<s.a.length):storeP (flushO s (j:Int)):=by
 unfold flushO;rw[zo _ j b,Bm];have c:(s.a.set j (flushT s.a[j])).map Af.q=s.a.map Af.q:=set_mapE b rfl;refine ⟨h.secret,h.keys,h.shares,h.boot,h.hist,c.trans h.slots,c.trans h.ids,λx d=>?_,λr f=>?_⟩
 ·rcases zo3 d with rfl | ⟨i,hi,g,rfl⟩
  ·have:=zwc (h.tens _ (Bf b));show tenP (keyOfV s.m s.a[j].q) (ofLR s.a[j].q (noLR s.a[j].q s.u)) _;rw[ztT];trivial
  ·have:=h.tens _ (Bf hi);show tenP (keyOfV s.m s.a[i].q) (ofLR s.a[i].q (noLR s.a[j].q s.u)) _;rw[zo4 (h.ne hi b g)];trivial
 ·obtain ⟨x,d,e⟩:=h.rows r (Cv.1 f).1;have:r.s∈(s.a.set j (flushT s.a[j])).map Af.q:=by grind
  grind
def zsU {α β:Type} (f:α->β) (p:β->Bool): ∀l:List α,(l.takeWhile λx=>p (f x)).length=((l.map f).takeWhile p).length
 | []=>rfl
 | a::l=>by
   rw[Di,Dg,Di];cases p (f a) with
   | true=>simp only[if_true,Dq,zsU f p l]
   | false=>rfl
def zwE (p:α->Bool) {A B:List α} (h: ∀a∈A,p a=true) (D: ∀b∈B,p b=false):((A++B).takeWhile p).length=A.length:=by
 induction A with
 | nil=>
   cases B with
   | nil=>rfl
   | cons b B=>simp_all
 | cons a A ih=>simp_all
def insI (l:List Int) (id:Int):List Int:=l.take (l.takeWhile λx=>decide (x<id)).length++(id::l.drop (l.takeWhile λx=>decide (x<id)).length)
def zqP (l:List Af) (t:Af):(insTE l t).map Af.q=insI (l.map Af.q) t.q:=by unfold insTE insI placeE;rw[zsU Af.q (λx=>decide (x<t.q)) l,Db,Dg,Eb,Ec]
def zuS (d:At) (id:Int) (key:List UInt8):(addKS d id key).D.map A5.s=insI (d.D.map A5.s) id:=by unfold addKS insI placeK;simp only;rw[zsU A5.s (λx=>decide (x<id)) d.D,Db,Dg,Eb,Ec]
theorem zui {L R:List As} {id q:Int} (h: ∀y∈L,y.s<id) (D: ∀y∈R,id<y.s):insI ((L++R).map As.s) id=(L++(⟨id,q⟩::R)).map As.s:=by
 unfold insI;rw[Db,zwE (λx=>decide (x<id)) (A:=L.map As.s) (B:=R.map As.s) (λa b=>by grind) (λa b=>by grind),
  List.take_left,List.drop_left,Db,Dg]
theorem zvg {l:List Af} {x:Af} (h:x∈insTE l t):x=t\/x∈l:=by unfold insTE at h;grind
theorem zuT {id:Int} {x:A5} (h:x∈d.D):x∈(addKS d id key).D:=by unfold addKS;simp only[De,Eo];rw[<-Ds (placeK d.D id) d.D,De]at h;grind
def zwU (key:List UInt8) (id:Int):tenP key [] (newTE id):=
 ⟨by simp[newTE],by simp[newTE],by simp[newTE],by simp[newTE],rfl,by simp,by simp[newTE],rfl,rfl,rfl,rfl⟩
theorem zoA (h:storeP s) (c:Ao):storeP (createS s c).1:=by
 unfold createS;cases i:(!Dc (1<=c.s/\c.s<=99)||(!Dc (0<=c.N/\c.N<=40)||(!Dc (c.j.length=32)||decide (atE s.a c.s>=0)))) with
 | true=>exact h
 | false=>
   cases p:Dc (4<=s.a.length) with
   | true=>exact h
   | false=>
     cases u:(setR s.C c.s c.N).2 with
     | false=>exact h
     | true=>
       simp only[cond_true,cond_false];obtain ⟨L,M,R,f,v,w,d,z,A,J⟩:=zq8 s.C c.s c.N h.shares u;simp only[Em]at i;have K: ¬atE s.a c.s>=0:=of_decide_eq_false i.2.2.2;have B:1<=c.s/\c.s<=99:=by simp_all
       have E:c.j.length=32:=by simp_all
       have O:=of_decide_eq_false p;have P: ∀x∈s.a,¬x.q=c.s:=by
        rcases zcY s.a c.s with ⟨j,_,e,_,_⟩ | ⟨_,g⟩
        ·omega
        ·exact g
       have W:M= []:=by
        rcases d with d | ⟨y,d,Q⟩
        ·trivial
        ·exfalso;have F:y.s∈s.a.map Af.q:=by rw[h.ids,f,d];simp
         grind
       subst W;rw[Da]at f;obtain ⟨S,T,U⟩:=h.lens;have G: ∀x∈s.m.D,¬x.s=c.s:=by
        intro x b e;have F:x.s∈s.a.map Af.q:=by rw[h.slots];grind
        grind
       have k:=znM (key:=c.j) h.keys B E (by omega) G;refine ⟨h.secret,k,z,h.boot,h.hist,?_,?_,λx b=>?_,λr H=>?_⟩
       ·exact (zqP _ _).trans ((congrArg (λl=>insI l c.s) h.slots).trans (zuS _ _ _).symm)
       ·refine (zqP _ _).trans ?_;show insI (s.a.map Af.q) c.s=_;rw[h.ids,f,A];exact zui v w
       ·rcases zvg b with rfl | b
        ·have:rowsV s c.s= []:=by unfold rowsV;rw[List.filter_eq_nil_iff];intro r I e;obtain ⟨t,n,V⟩:=h.rows r I;simp_all
         show tenP _ (rowsV s c.s) _;rw[this];exact zwU _ _
        ·obtain ⟨y,o,e⟩:=h.slot b;have:=h.tens x b;rw[<-e,zj5 h.keys o,<-zj5 k (zuT o),e]at this;trivial
       ·obtain ⟨t,n,e⟩:=h.rows r H;have:r.s∈(insTE s.a (newTE c.s)).map Af.q:=by rw[<-e];refine Dd ?_;unfold insTE;rw[<-Ds (placeE s.a (newTE c.s).q) s.a,De]at n;grind
        simp_all
theorem zvx (h:storeP s) (c:Ao) (d: ∃x∈s.a,x.q=c.s):storeP (quotaS s c).1:=by
 unfold quotaS;cases Dc (0<=c.N/\c.N<=40) with
 | false=>exact h
 | true=>
   cases e:(setR s.C c.s c.N).2 with
   | false=>exact h
   | true=>
     simp only[cond_true];obtain ⟨L,M,R,b,l,m,f,g,i,n⟩:=zq8 s.C c.s c.N h.shares e;refine ⟨h.secret,h.keys,g,h.boot,h.hist,h.slots,?_,h.tens,h.rows⟩;show s.a.map Af.q=_;rw[h.ids,i,b];rcases f with rfl | ⟨y,rfl,o⟩
     ·exfalso;obtain ⟨x,j,p⟩:=d;have k:x.q∈s.a.map Af.q:=Dd j;rw[h.ids,b,Da]at k;grind
     ·simp_all
theorem zuC (h:storeP s) (id:Int):storeP (removeS s id).1:=by
 unfold removeS;cases i:(Dc (1000<=s.A)||decide (1000000<=s.m.H)) with
 | true=>exact h
 | false=>
   simp only[Em,decide_eq_false_iff_not]at i;simp only[cond_false];rw[zud id h.shares];have o:=h.boot;have c:=zvT id h.keys (by omega);refine ⟨h.secret,c,zsB id h.shares,by grind,h.hist,?_,?_,λx j=>?_,λr k=>?_⟩
   ·show (noTE id s.a).map Af.q=(wipeKS s.m id).D.map A5.s;unfold noTE wipeKS;simp only;rw[zdr Af.q (λx=>!Dc (x.q=id)) (λx=>!Dc (x=id)) (λ_=>rfl),zdr A5.s (λx=>!Dc (x.s=id)) (λx=>!Dc (x=id)) (λ_=>rfl),h.slots]
   ·show (noTE id s.a).map Af.q=(dropT s.C.r id).map As.s;rw[zu8];unfold noTE;rw[zdr Af.q (λx=>!Dc (x.q=id)) (λx=>!Dc (x=id)) (λ_=>rfl),h.ids]
   ·obtain ⟨d,p⟩:=Cv.1 j;have f: ¬x.q=id:=by simp_all
    have b:=h.tens x d;obtain ⟨y,g,e⟩:=h.slot d;have l:y∈(wipeKS s.m id).D:=Cv.2 ⟨g,by simp_all⟩;show tenP (keyOfV (wipeKS s.m id) x.q) (ofLR x.q (noLR id s.u)) x;rw[zo4 f];rw[<-e,zj5 h.keys g,<-zj5 c l,e]at b;trivial
   ·obtain ⟨n,v⟩:=Cv.1 k;have f: ¬r.s=id:=by simp_all
    obtain ⟨t,b,e⟩:=h.rows r n;exact ⟨t,Cv.2 ⟨b,by simp_all⟩,e⟩
theorem zuG (h:storeP s) (j:Nat) (d:j<s.a.length):storeP (rotateS s (j:Int)).1:=by
 unfold rotateS;rw[zo _ j d];have b:=h.tens _ (Bf d);have e:=b.ep;by_cases c:s.a[j].J>=1000000
 ·simp_all
 ·rw[decide_eq_false c];exact zsZ h j d _ rfl ⟨by grind,b.base,b.snaps,b.tabs,b.eng,b.few,b.seq,b.seqs,b.start,b.runs,b.mem⟩
def zmE (id:Int) (l:List Ah):ofLR id (l.map markL)=(ofLR id l).map markL:=by unfold ofLR;rw[List.filter_map];rfl
def zj9 (key:List UInt8): ∀(l:List Ah) (e:Aa),repS key e (l.map markL)=repS key e l
 | [],e=>rfl
 | r::l,e=>by
   simp only[Dg,repS,markL];cases (openB key r.A r.c r.O).2&&(putR e (openB key r.A r.c r.O).1).2 with
   | false=>rfl
   | true=>exact zj9 key l _
def tenP.mark {rows:List Ah} (h:tenP key rows t):tenP key (rows.map markL) t:=by refine ⟨h.ep,h.base,h.snaps,h.tabs,h.eng,by rw[Dk];exact h.few,by rw[Dk];exact h.seq,?_,h.start,by rw[zj9];exact h.runs,by rw[zj9];exact h.mem⟩;rw[zgJ];intro i hi;rw[Eg];exact (zgJ _ _).1 h.seqs i (by simp_all)
def zsQ (h:storeP s):storeP (syncS s):=by
 refine ⟨h.secret,h.keys,h.shares,h.boot,h.hist,h.slots,h.ids,λx a=>?_,λr b=>?_⟩
 ·show tenP _ (ofLR x.q (s.u.map markL)) x;rw[zmE];exact (h.tens x a).mark
 ·obtain ⟨q,c,rfl⟩:=Eh.1 b;exact h.rows q c
def syncP (l:List Ah):Prop:=l.Pairwise λa b=>b.U=true->a.U=true
def zoV: ∀(l:List Ah) (n:Int),n<1->(∀r∈l,r.U=false)->keepL n l= []
 | [],_,_,_=>rfl
 | r::l,n,a,h=>by simp only[keepL];rw[h r (by simp),decide_eq_true a];exact zoV l n a λx b=>h x (by simp_all)
def ziY: ∀(l:List Ah) (n:Int),syncP l->∃k,keepL n l=(l.take k).map markL
 | [],n,_=>⟨0,rfl⟩
 | r::l,n,h=>by
   obtain ⟨e,b⟩:=Ev.1 h;simp only[keepL];cases hs:r.U with
   | true=>obtain ⟨k,c⟩:=ziY l n b;exact ⟨k+1,by simp_all⟩
   | false=>
     have d: ∀x∈l,x.U=false:=by simp_all
     by_cases a:n<1
     ·rw[decide_eq_true a];simp only[cond_true,cond_false];exact ⟨0,zoV l n a d⟩
     ·rw[decide_eq_false a];obtain ⟨k,c⟩:=ziY l (n - 1) b;exact ⟨k+1,by simp_all⟩
theorem zmv: ∀(l:List Ah) (n:Int) (r:Ah),r∈keepL n l->∃q∈l,r=markL q
 | [],n,r,h=>by cases h
 | q::l,n,r,h=>by
   simp only[keepL]at h;have go: ∀m,r∈keepL m l->∃x∈q::l,r=markL x:=λm h=>by obtain ⟨x,a,e⟩:=zmv l m r h;grind
   grind
def zj3: ∀(l:List Ah) (n:Int),∃q:List Ah,q.Sublist l/\keepL n l=q.map markL
 | [],n=>⟨[],.slnil,rfl⟩
 | r::l,n=>by
   simp only[keepL];obtain ⟨a,b,e⟩:=zj3 l n;obtain ⟨c,d,f⟩:=zj3 l (n - 1);cases r.U with
   | true=>exact ⟨r::a,b.cons_cons r,by simp_all⟩
   | false=>
     cases Dc (n<1) with
     | true=>exact ⟨a,b.cons r,by trivial⟩
     | false=>exact ⟨r::c,d.cons_cons r,by simp_all⟩
def tenP.part {rows qs:List Ah} (h:tenP key rows t) (hs:qs.Sublist rows):(repS key (rep0 t) (qs.map markL)).2=true:=by rw[zj9];exact zwr key hs (rep0 t) (rep0 t) h.runs h.start rfl (Fc _) (Cy _)
theorem zv0 {rows:List Ah} (h:tenP key rows t) (k:Nat):tenP key ((rows.take k).map markL) (crashT key ((rows.take k).map markL) t):=by
 have d:=h.part (List.take_sublist k rows);have e:=zjf key _ _ h.start d;obtain ⟨a,b,c⟩:=zls key _ _ d;have f:=h.few;have g:((rows.take k).map markL).length<=rows.length:=by grind
 refine ⟨h.ep,h.base,?_,?_,e,by omega,c.symm,?_,?_,?_,?_⟩
 ·show (repS key (rep0 t) _).1.B.length<=2;rw[b];simp[rep0]
 ·show (repS key (rep0 t) _).1.t.length<=1;rw[a];exact h.tabs
 ·rw[zgJ];intro i hi;simp only[Dk,Dp]at hi;rw[Eg,List.getElem_take];exact (zgJ _ _).1 h.seqs i (by omega)
 ·have:rep0 (crashT key ((rows.take k).map markL) t)=rep0 t:=by unfold rep0 crashT;rw[a];rfl
  rw[this];exact h.start
 ·have:rep0 (crashT key ((rows.take k).map markL) t)=rep0 t:=by unfold rep0 crashT;rw[a];rfl
  simp_all
 ·have:rep0 (crashT key ((rows.take k).map markL) t)=rep0 t:=by unfold rep0 crashT;rw[a];rfl
  rw[this];rfl
theorem zu0 (h:storeP s) (hs:syncP s.u) (n:Int):storeP (crashS s n).1:=by
 unfold crashS;by_cases d:1000<=s.A
 ·simp_all
 ·rw[decide_eq_false d];obtain ⟨k,f⟩:=ziY s.u n hs;have p:=h.boot;have c:(s.a.map λt=>crashT (keyOfV s.m t.q) (ofLR t.q (keepL n s.u)) t).map Af.q=s.a.map Af.q:=by rw[List.map_map];rfl
  refine ⟨h.secret,h.keys,h.shares,by grind,h.hist,c.trans h.slots,c.trans h.ids,λx g=>?_,λr i=>?_⟩
  ·obtain ⟨t,b,rfl⟩:=Eh.1 g;have j:=h.tens t b;show tenP (keyOfV s.m t.q) (ofLR t.q (keepL n s.u)) _;rw[f,zmE];have l:ofLR t.q (s.u.take k) <+: ofLR t.q s.u:=(List.take_prefix k s.u).filter _;rw[List.prefix_iff_eq_take.1 l];exact zv0 j _
  ·obtain ⟨q,o,rfl⟩:=zmv _ _ _ i;obtain ⟨t,b,e⟩:=h.rows q o;exact ⟨_,Dd b,e⟩
def zwt (h:storeP s) (j:Nat) (b:j<s.a.length):storeP (roomS s (j:Int)):=by
 unfold roomS;cases Dc (6<=(ofLR (tenE s.a (j:Int)).q s.u).length) with
 | true=>exact zmd h j b
 | false=>exact h
theorem zws (s:Ae) (j:Nat) (b:j<s.a.length):(roomS s (j:Int)).a.length=s.a.length/\(roomS s (j:Int)).m=s.m/\(roomS s (j:Int)).A=s.A/\(roomS s (j:Int)).F=s.F/\(roomS s (j:Int)).C=s.C/\(roomS s (j:Int)).L=s.L/\
 (tenE (roomS s (j:Int)).a (j:Int)).q=s.a[j].q/\(tenE (roomS s (j:Int)).a (j:Int)).J=s.a[j].J/\(tenE (roomS s (j:Int)).a (j:Int)).g.c=s.a[j].g.c/\(ofLR s.a[j].q (roomS s (j:Int)).u).length<=5:=by
 unfold roomS;rw[zo _ j b];cases c:Dc (6<=(ofLR s.a[j].q s.u).length) with
 | true=>simp only[cond_true];unfold flushO;simp only[zo _ j b,Bm];rw[zo _ j (by simp_all),Cu,ztT];exact ⟨by simp,by simp,by simp,by simp,by simp,by simp,by rfl,by rfl,by simp[flushT,(ze3 s.a[j].g).1],by simp⟩
 | false=>have:=of_decide_eq_false c;simp only[cond_false];rw[zo _ j b];grind
theorem zxl {rows:List Ah} (h:tenP key rows t) (ops:List Op) (boot:Int) (hl:rows.length<=5) (a:okB t.g ops=true) (b:batchV ops=true) (hs: ¬sealB key boot (t.g.c+1) ops= []) (tid:Int):
 tenP key (rows++ [⟨tid,boot,t.g.c+1,sealB key boot (t.g.c+1) ops,false⟩]) ⟨t.q,t.J,t.G,engB t.g ops⟩:=by
 obtain ⟨e,f,j,k⟩:=zuv hs;have d:=zm0 h.eng b;rw[a]at d;have B:engV ⟨t.g.x,t.g.t,t.g.c,[]⟩=true:=zgP h.eng (l:=[]) (by simp) rfl;have D:putR ⟨t.g.x,t.g.t,t.g.c,[]⟩ ops=(engB ⟨t.g.x,t.g.t,t.g.c,[]⟩ ops,true):=by unfold putR;rw[B,b,show okB ⟨t.g.x,t.g.t,t.g.c,[]⟩ ops=okB t.g ops from rfl,a];rfl
 have A:repS key (rep0 t) (rows++ [⟨tid,boot,t.g.c+1,sealB key boot (t.g.c+1) ops,false⟩])=(engB ⟨t.g.x,t.g.t,t.g.c,[]⟩ ops,true):=by rw[zh3,h.runs,cond_true,h.eng_is];simp only[repS];simp_all
 have m:=h.seq;refine ⟨h.ep,h.base,h.snaps,h.tabs,d,by simp_all,?_,?_,h.start,?_,?_⟩
 ·show t.G+_=t.g.c+1;grind
 ·rw[zgJ];intro i hi;simp only[Dl,Bh]at hi;by_cases c:i<rows.length
  ·rw[List.getElem_append_left c];exact (zgJ _ _).1 h.seqs i c
  ·grind
 ·show (repS key (rep0 t) _).2=true;rw[A]
 ·show (repS key (rep0 t) _).1.x=_;rw[A];rfl
theorem zwW {a:Ae} (h:storeP a) (j:Nat) (b:j<a.a.length) (ops:List Op) (v:s.L.length<120) (hl:(ofLR a.a[j].q a.u).length<=5) (l:okB a.a[j].g ops=true) (n:batchV ops=true) (hs: ¬sealB (keyOfV a.m a.a[j].q) a.A (a.a[j].g.c+1) ops= []):storeP (putS s a (j:Int) ops):=by
 unfold putS;rw[zo _ j b,Bm];have f: ∀t:Af,t.q=a.a[j].q->(a.a.set j t).map Af.q=a.a.map Af.q:=λt k=>set_mapE b k;refine ⟨h.secret,h.keys,h.shares,h.boot,by grind,(f ⟨a.a[j].q,a.a[j].J,a.a[j].G,engB a.a[j].g ops⟩ rfl).trans h.slots,(f ⟨a.a[j].q,a.a[j].J,a.a[j].G,engB a.a[j].g ops⟩ rfl).trans h.ids,λx o=>?_,λr d=>?_⟩
 ·rcases zo3 o with rfl | ⟨i,hi,p,rfl⟩
  ·have:=zxl (h.tens _ (Bf b)) ops a.A hl l n hs a.a[j].q;show tenP (keyOfV a.m a.a[j].q) (ofLR a.a[j].q (a.u++_)) _;rw[zob];have e:ofLR a.a[j].q [(⟨a.a[j].q,a.A,a.a[j].g.c+1,sealB (keyOfV a.m a.a[j].q) a.A (a.a[j].g.c+1) ops,false⟩:Ah)]= [⟨a.a[j].q,a.A,a.a[j].g.c+1,sealB (keyOfV a.m a.a[j].q) a.A (a.a[j].g.c+1) ops,false⟩]:=by unfold ofLR;simp
   rw[e];trivial
  ·have:=h.tens _ (Bf hi);have w:=h.ne hi b p;show tenP (keyOfV a.m a.a[i].q) (ofLR a.a[i].q (a.u++_)) _;rw[zob];have e:ofLR a.a[i].q [(⟨a.a[j].q,a.A,a.a[j].g.c+1,sealB (keyOfV a.m a.a[j].q) a.A (a.a[j].g.c+1) ops,false⟩:Ah)]= []:=by unfold ofLR;grind
   rw[e,Df];trivial
 ·have y:r.s∈a.a.map Af.q:=by
   rcases De.1 d with d | d
   ·obtain ⟨t,k,e⟩:=h.rows r d;grind
   ·grind
  grind
def zvU (h:storeP s) (j:Nat) (d:j<s.a.length) (ops:List Op):storeP (writeS s (j:Int) ops).1:=by
 unfold writeS;by_cases l:120<=s.L.length
 ·simp_all
 ·rw[decide_eq_false l];cases n:batchV ops with
  | false=>exact h
  | true=>
    cases Dc ((bytesN (applyK (mapR (tenE s.a (j:Int)).g (tenE s.a (j:Int)).g.c) ops):Int)>quoV (-1) s.C (tenE s.a (j:Int)).q) with
    | true=>exact h
    | false=>
      cases b:okB (tenE (roomS s (j:Int)).a (j:Int)).g ops&& !Dc (sealB (keyOfV s.m (tenE s.a (j:Int)).q) s.A ((tenE s.a (j:Int)).g.c+1) ops= []) with
      | false=>exact h
      | true=>
        simp only[cond_true,cond_false];obtain ⟨r1,r2,o,t,u,v,e,p,f,i⟩:=zws s j d;have k:j<(roomS s (j:Int)).a.length:=by omega
        rw[Bw,Bool.not_eq_true',decide_eq_false_iff_not]at b;rw[zo _ j k]at e p f b;rw[zo _ j d,<-e,<-f,<-r2,<-o]at b;rw[<-e]at i;exact zwW (zwt h j d) j k ops (by omega) i b.1 n b.2
def zsY (h:storeP s) (j:Nat) (d:j<s.a.length) (l:List Int) (hl:l.length<=2) (e:engV ⟨s.a[j].g.x,s.a[j].g.t,s.a[j].g.c,l⟩=true):storeP (withE s (j:Int) l):=by unfold withE;rw[zo _ j d];have b:=h.tens _ (Bf d);exact zsZ h j d _ rfl ⟨b.ep,b.base,hl,b.tabs,e,b.few,b.seq,b.seqs,b.start,b.runs,b.mem⟩
theorem zww (h:storeP s) (j:Nat) (b:j<s.a.length):storeP (snapS s (j:Int)).1:=by
 unfold snapS;rw[zo _ j b];have d:=h.tens _ (Bf b);by_cases e:s.a[j].g.c∈s.a[j].g.B
 ·simp_all
 ·by_cases f:2<=s.a[j].g.B.length
  ·simp_all
  ·rw[decide_eq_false e,decide_eq_false f];have:=zwv d.eng;unfold snapR at this;rw[if_pos d.eng,if_neg e,if_neg (by omega)]at this;exact zsY h j b _ (by grind) this
def zu6 (l:List Int) (x:Int):(dropS l x).length<=l.length:=Cj _ _
def zwe (h:storeP s) (j:Nat) (b:j<s.a.length) (c:Ao):storeP (heldS s (j:Int) c).1:=by
 unfold heldS;rw[zo _ j b];have d:=h.tens _ (Bf b);by_cases e:c.N∈s.a[j].g.B
 ·rw[decide_eq_true e];cases Dc (c.E=10) with
  | true=>exact h
  | false=>have:=zs6 d.eng c.N;unfold engDropR at this;rw[if_pos d.eng,if_pos e]at this;have hl:=zu6 s.a[j].g.B c.N;have hs:=d.snaps;exact zsY h j b _ (by omega) this
 ·simp_all
def zw6 (h:storeP s) (j:Nat) (b:j<s.a.length) (c:Ao):storeP (tenS s (j:Int) c).1:=by
 unfold tenS;cases Dc (c.E=5) with
 | true=>exact zvU h j b _
 | false=>
 cases Dc (c.E=6) with
 | true=>exact h
 | false=>
 cases Dc (c.E=7) with
 | true=>exact h
 | false=>
 cases Dc (c.E=8) with
 | true=>exact zww h j b
 | false=>
 cases Dc (c.E=11) with
 | true=>exact h
 | false=>exact zwe h j b c
def zrX (h:storeP s) (c:Ao):storeP (callS s c).1:=by
 unfold callS;rcases zcY s.a (tokR s.F c.Q).1 with ⟨j,b,e,_,_⟩ | ⟨e,_⟩
 ·rw[e];cases (!(tokR s.F c.Q).2.2||(Dc ((j:Int)<0)|| !Dc ((tenE s.a (j:Int)).J=(tokR s.F c.Q).2.1))) with
  | true=>exact h
  | false=>exact zw6 h j b c
 ·simp_all
def ztW (h:storeP s) (c:Ao):storeP (ownS s c).1:=by
 unfold ownS;rcases zcY s.a c.s with ⟨j,b,e,d,_⟩ | ⟨e,_⟩
 ·rw[e,decide_eq_false (by omega),cond_false];cases Dc (c.E=2) with
  | true=>exact zvx h c ⟨_,Bf b,d⟩
  | false=>
  cases Dc (c.E=3) with
  | true=>exact zuC h _
  | false=>
  cases Dc (c.E=4) with
  | true=>exact zuG h j b
  | false=>exact zmd h j b
 ·simp_all
def zu5 (h:storeP s) (hs:syncP s.u) (c:Ao):storeP (doS s c).1:=by
 unfold doS;cases Dc (c.E=1) with
 | true=>exact zoA h c
 | false=>
 cases Dc (c.E=12) with
 | true=>exact zsQ h
 | false=>
 cases Dc (c.E=14) with
 | true=>exact zu0 h hs _
 | false=>
 cases Dc (2<=c.E/\c.E<=4)||decide (c.E=13) with
 | true=>exact ztW h c
 | false=>
 cases Dc (5<=c.E/\c.E<=11) with
 | false=>exact h
 | true=>exact zrX h c
def zpD (l:List Ah):syncP (l.map markL):=Ez.2 (Bp.2 λi j hi a b _=>rfl)
def zrf {l:List Ah} (h:syncP l) (r:Ah) (c:r.U=false):syncP (l++ [r]):=by refine El.2 ⟨h,List.pairwise_singleton _ _,λa d b e f=>?_⟩;simp_all
def zot {l:List Ah} (h:syncP l) (id:Int):syncP (noLR id l):=List.Pairwise.filter _ h
def zuF (hs:syncP s.u) (i:Int):syncP (roomS s i).u:=by
 unfold roomS;cases Dc (6<=(ofLR (tenE s.a i).q s.u).length) with
 | true=>exact zot hs _
 | false=>exact hs
def ztr (hs:syncP s.u) (i:Int) (ops:List Op):syncP (writeS s i ops).1.u:=by
 unfold writeS;cases Dc (120<=s.L.length) with
 | true=>exact hs
 | false=>
 cases batchV ops with
 | false=>exact hs
 | true=>
 cases Dc ((bytesN (applyK (mapR (tenE s.a i).g (tenE s.a i).g.c) ops):Int)>quoV (-1) s.C (tenE s.a i).q) with
 | true=>exact hs
 | false=>
 cases okB (tenE (roomS s i).a i).g ops&& !Dc (sealB (keyOfV s.m (tenE s.a i).q) s.A ((tenE s.a i).g.c+1) ops= []) with
 | false=>exact hs
 | true=>exact zrf (zuF hs i) _ rfl
def zvL (hs:syncP s.u) (i:Int) (c:Ao):syncP (tenS s i c).1.u:=by
 unfold tenS;cases Dc (c.E=5) with
 | true=>exact ztr hs i _
 | false=>
 cases Dc (c.E=6) with
 | true=>exact hs
 | false=>
 cases Dc (c.E=7) with
 | true=>exact hs
 | false=>
 cases Dc (c.E=8) with
 | true=>simp only[cond_true,cond_false];unfold snapS;cases Dc ((tenE s.a i).g.c∈(tenE s.a i).g.B)<;>cases Dc (2<=(tenE s.a i).g.B.length)<;>exact hs
 | false=>
 cases Dc (c.E=11) with
 | true=>exact hs
 | false=>simp only[cond_false];unfold heldS;cases Dc (c.N∈(tenE s.a i).g.B)<;>cases Dc (c.E=10)<;>exact hs
theorem zv5 (hs:syncP s.u) (c:Ao):syncP (doS s c).1.u:=by
 unfold doS;cases Dc (c.E=1) with
 | true=>simp only[cond_true];unfold createS;grind
 | false=>
 cases Dc (c.E=12) with
 | true=>exact zpD _
 | false=>
 cases Dc (c.E=14) with
 | true=>
   simp only[cond_true,cond_false];unfold crashS;cases Dc (1000<=s.A) with
   | true=>exact hs
   | false=>obtain ⟨k,b⟩:=ziY s.u c.N hs;show syncP (keepL c.N s.u);rw[b];exact zpD _
 | false=>
 cases Dc (2<=c.E/\c.E<=4)||decide (c.E=13) with
 | true=>
   simp only[cond_true,cond_false];unfold ownS;cases Dc (atE s.a c.s<0) with
   | true=>exact hs
   | false=>
   cases Dc (c.E=2) with
   | true=>simp only[cond_true,cond_false];unfold quotaS;grind
   | false=>
   cases Dc (c.E=3) with
   | true=>
     simp only[cond_true,cond_false];unfold removeS;cases Dc (1000<=s.A)||decide (1000000<=s.m.H) with
     | true=>exact hs
     | false=>exact zot hs _
   | false=>
   cases Dc (c.E=4) with
   | true=>simp only[cond_true,cond_false];unfold rotateS;cases Dc ((tenE s.a (atE s.a c.s)).J>=1000000)<;>exact hs
   | false=>exact zot hs _
 | false=>
 cases Dc (5<=c.E/\c.E<=11) with
 | false=>exact hs
 | true=>
   simp only[cond_true,cond_false];unfold callS;cases !(tokR s.F c.Q).2.2||(Dc (atE s.a (tokR s.F c.Q).1<0)|| !Dc ((tenE s.a (atE s.a (tokR s.F c.Q).1)).J=(tokR s.F c.Q).2.1)) with
   | true=>exact hs
   | false=>exact zvL hs _ c
theorem zkk (d:At) (h:d.D.length<=1048576):zcM d=some d:=by unfold zcM zff;rw[zg (by grind) (by grind)];rfl
theorem zmz (d:At) (h:d.D.length<=1048576):zeL d=some d:=by unfold zeL;rw[zg (by grind) (by grind)];rfl
theorem znv (l:List Ah) (h:l.length<=1048576):zcz l=some l:=by unfold zcz;rw[zg (by grind) (by grind)];rfl
def zvG {id:Int} (a: ∀x∈d.D,¬x.s=id):fstV (λx:A5=>decide (x.s=id)) d.D= -1:=by
 rcases zkx (λx:A5=>decide (x.s=id)) d.D with ⟨j,b,_,e,_⟩ | ⟨e,_⟩
 ·simp_all
 ·exact e
theorem zpW {id:Int} (b:keysV d=true) (c: ∀x∈d.D,¬x.s=id) (e:keysV (addKS d id key)=true):zhY d id key=some (addKS d id key,true):=by
 have g:=((zbO d).1 b).2.1;have f:placeK d.D id<=d.D.length:=(zhW _ _).1;have a:zcw (addKS d id key)=some true:=by rw[zgN,zpJ,<-zqa,e]
 unfold zhY;rw[zgN,ze2 d (by omega),b,zhM d id (by omega),zkk d (by omega),zvG c];simp only[An,Bl,Ba,if_false];rw[if_neg (by decide),zpF (R:=At × Bool) (λx:A5=>decide (x.s<id)) d.D (by omega) (λk a=>?_) (by simp)]
 ·simp only[zd];unfold zeP ins;rw[if_pos ⟨by omega,by exact_mod_cast f,by grind,by grind⟩,Bm];simp only[An];show (zcw (addKS d id key)).bind _=_;rw[a];rfl
 ·simp only[zb d.D k a,An];simp_all
theorem zwq (q:α->Bool) (x:α) (by_:Nat) (o:by_<=100) (l:List α) (hl:l.length<=1048576) {body:Bool × Int × List α->Option (Ctl (Bool × Int × List α) (Ctl (Bool × List α) R))} {f:Bool × List α->Option R} (s:body=λ(G:Bool × Int × List α)=>if (Dc (G.2.1<(l.length:Int)))=true then ((if (!G.1)=true then ((idx l G.2.1).bind λJ=>
 some (q J))
 else (some false)).bind (λ(U:Bool)=>
 bindC (if U=true then ((app by_ G.2.2 ([x])).bind λM=>
 some (.go (true,M)))
 else (some (.go (G.1,G.2.2))))
 (λ(I:Bool × List α)=>(idx l G.2.1).bind λN=>
 (app by_ I.2 ([N])).bind λO=>
 some (.go (I.1,I6.wrap (G.2.1+(1:Int)),O)))))
 else (some (.done (.go (G.1,G.2.2))))) (t:(l.takeWhile λy=>!q y).length=l.length->f (false,l)=some z) (u:f (true,l.take (l.takeWhile λy=>!q y).length++(x::l.drop (l.takeWhile λy=>!q y).length))=some z):bindC (loopO body (false,(0:Int),([]:List α))) f=some z:=by
 obtain ⟨v,t2,w⟩:=zhW (λy=>!q y) l;generalize (l.takeWhile λy=>!q y).length=a at v t2 w t u;have V: ∀(F:List α) (y:α),F.length<=1048578->app by_ F [y]=some (F++ [y]):=λF y h=>zg (by have:(F.length+([y]:List α).length)*by_<=1048579*100:=Fi (by simp_all) o;omega) (by grind);refine zG (λk (S:Bool × Int × List α)=>S.2.1=(k:Int)/\((k<=a/\S.1=false/\S.2.2=l.take k)\/(a<k/\S.1=true/\S.2.2=l.take a++(x::(l.drop a).take (k - a))))) l.length
  (λr=>∃p F,r= .go (p,F)/\((p=false/\F=l/\a=l.length)\/(p=true/\F=l.take a++(x::l.drop a)))) ⟨rfl,.inl ⟨Bo _,rfl,by simp⟩⟩ ?_ ?_ ?_
 ·rintro k ⟨p,i,F⟩ d ⟨b,c⟩;simp only at b c;subst b;left;have e:I6.wrap ((k:Int)+(1:Int))=((k+1:Nat):Int):=by rw[za (by omega) (by omega)];omega
  have A:(Dc ((k:Int)<(l.length:Int)))=true:=by simp_all
  have E:(l.drop a).take (k+1 - a)=(l.drop a).take (k - a)++(if a<=k then [l[k]] else []):=by
   by_cases B:a<=k
   ·rw[if_pos B,show k+1 - a=(k - a)+1 by omega,zZ _ _ (by grind),Dh];simp_all
   ·grind
  rw[s];simp only[A,if_true];rcases c with ⟨g,rfl,rfl⟩ | ⟨g,rfl,rfl⟩
  ·have C:(l.take k).length<=1048576:=by grind
   simp only[Bz,if_true,zb l k d,An];by_cases D:k=a
   ·subst D;have j:q l[k]=true:=by simp_all
    refine ⟨(true,((k+1:Nat):Int),(l.take k++ [x])++ [l[k]]),?_,rfl,.inr ⟨by simp,rfl,?_⟩⟩
    ·rw[j];simp only[if_true,V _ _ (show (l.take k).length<=1048578 by omega),An,zd,e];grind
    ·simp_all
   ·have j:q l[k]=false:=by grind
    refine ⟨(false,((k+1:Nat):Int),l.take k++ [l[k]]),?_,rfl,.inl ⟨by omega,rfl,(zZ l k d).symm⟩⟩;rw[j];simp only[Ba,if_false,V _ _ (show (l.take k).length<=1048578 by omega),An,zd,e]
  ·have C:(l.take a++(x::(l.drop a).take (k - a))).length<=1048577:=by grind
   refine ⟨(true,((k+1:Nat):Int),(l.take a++(x::(l.drop a).take (k - a)))++ [l[k]]),?_,rfl,.inr ⟨by omega,rfl,?_⟩⟩
   ·simp only[Bl,Ba,if_false,An,zd,zb l k d,V _ _ (show (l.take a++(x::(l.drop a).take (k - a))).length<=1048578 by omega),e]
   ·grind
 ·rintro ⟨p,i,F⟩ ⟨b,c⟩;simp only at b c;subst b;refine ⟨.go (p,F),by simp_all,p,F,rfl,?_⟩;rcases c with ⟨g,m,n⟩ | ⟨g,m,n⟩
  ·grind
  ·exact .inr ⟨m,by rw[n,Cr (l:=l.drop a) (by simp)]⟩
 ·rintro _ ⟨p,F,rfl,⟨rfl,rfl,h⟩ | ⟨rfl,rfl⟩⟩
  ·simp_all
  ·trivial
theorem zqk {id:Int} (a:keysV d=true) (c:keysV (addKS d id key)=true):zh5 d id key=some (addKS d id key,true):=by
 have g:=((zbO d).1 a).2.1;have f:zbg (addKS d id key)=some true:=by rw[zpJ,<-zqa,c]
 have b:(d.D.takeWhile λy=>!Dc (y.s>=id)).length=placeK d.D id:=by unfold placeK;grind
 unfold zh5;rw[ze2 d (by omega),a,zmz d (by omega)];simp only[An,Bl,Ba,if_false];refine zwq (λy:A5=>decide (y.s>=id)) (⟨id,key⟩:A5) 24 (by omega) d.D (by omega) rfl (λh=>?_) ?_
 ·rw[b]at h;simp only[Bz,if_true];rw[zg (by grind) (by grind)];simp only[An,zd];have e:(⟨d.K,d.D++ [⟨id,key⟩],d.H⟩:At)=addKS d id key:=by unfold addKS;simp_all
  simp_all
 ·rw[b];simp only[Bl,Ba,if_false,zd];show (zbg (addKS d id key)).bind _=_;rw[f];rfl
theorem zxb (a:keysV d=true) {id:Int} (b:j<d.D.length) (h:d.D[j].s=id):(d.D.filter λx=>!Dc (x.s=id))=d.D.take j++d.D.drop (j+1):=by have c:=Bp.1 ((zbO d).1 a).2.2.2.2;refine ziM d.D _ j b (by simp[h]) λi hi e=>?_;grind
theorem zoI {id:Int} (a:keysV d=true) (g: ∃x∈d.D,x.s=id) (h:d.H<1000000):zgT d id=some (wipeKS d id,true):=by
 obtain ⟨_,i,k,_,_⟩:=(zbO d).1 a;unfold zgT;rw[zgN,ze2 d (by omega),a,zhM d id (by omega),zkk d (by omega)];rcases zkx (λx:A5=>decide (x.s=id)) d.D with ⟨j,c,e,b,_⟩ | ⟨_,b⟩
 ·rw[e];simp only[An,Bl,Ba,if_false];rw[if_neg (by simp)];simp only[An];rw[decide_eq_false (by omega),if_neg (by simp)];unfold zeO;have f:I6.wrap ((j:Int)+1)=((j+1:Nat):Int):=by rw[za (by omega) (by omega)];omega
  rw[f,zQ d.D j (j+1) _ _ rfl rfl (by omega) (by omega),zQ d.D 0 j 0 (j:Int) rfl rfl (by omega) (by omega),zQ d.D (j+1) d.D.length _ _ rfl rfl (by omega) (by omega),za (n:=d.H+1) (by omega) (by omega)];simp only[An];rw[if_neg (by grind)];simp only[An];unfold wipeKS;rw[zxb a c (of_decide_eq_true b)];have l:(d.D.drop (j+1)).take (d.D.length - (j+1))=d.D.drop (j+1):=Cr (by simp);simp_all
 ·grind
theorem zrc (p:α->Bool) (by_:Nat) (b:by_<=100) (l:List α) (hl:l.length<=1048576) (h: ∀k (a:k<l.length) (A:List α),app by_ A [l[k]]=some (A++ [l[k]])->body ((k:Int),A)=some (.go (I6.wrap ((k:Int)+1),if p l[k]=true then A++ [l[k]] else A))) (c: ∀A,body ((l.length:Int),A)=some (.done (.go A))) (d:f (l.filter p)=some z):bindC (loopO body ((0:Int),([]:List α))) f=some z:=by
 refine zG (λk (S:Int × List α)=>S=((k:Int),(l.take k).filter p)) l.length (λr=>r= .go (l.filter p)) rfl ?_ ?_ (λr e=>by simp_all)
 ·rintro k _ a rfl;left;have g:((l.take k).filter p).length<=k:=Dm (Cj _ _) (by grind);refine ⟨_,h k a _ (zg ?_ ?_),?_⟩
  ·have:(((l.take k).filter p).length+([l[k]]:List α).length)*by_<=1048579*100:=Fi (by grind) b;omega
  ·grind
  ·rw[za (n:=(k:Int)+1) (by omega) (by omega),zdu p l k a];grind
 ·simp_all
theorem zpm {id:Int} (a:keysV d=true) (c: ∃x∈d.D,x.s=id) (e:d.H<1000000):zho d id=some (wipeKS d id,true):=by
 obtain ⟨_,f,g,_,_⟩:=(zbO d).1 a;unfold zho;rw[ze2 d (by omega),a,zmz d (by omega)];simp only[An,Bl,Ba,if_false];refine zrc (λx:A5=>!Dc (x.s=id)) 24 (by omega) d.D (by omega) (λk b A h=>?_) (λA=>by simp) ?_
 ·simp only[zb d.D k b,An];rw[if_pos (by simp_all)];cases Dc (d.D[k].s=id) with
  | true=>rfl
  | false=>simp_all
 ·have i:(d.D.filter λx=>!Dc (x.s=id)).length<d.D.length:=by simp_all
  rw[if_neg (by grind)];simp only[An];rw[decide_eq_false (by omega),if_neg (by simp),za (n:=d.H+1) (by omega) (by omega)];rfl
def zkg (l:List Ah) (id:Int) (hl:l.length<=1048576):zfl l id=some (noLR id l):=by
 unfold zfl;refine zrc (λx:Ah=>!Dc (x.s=id)) 48 (by omega) l hl (λk a h b=>?_) (λh=>by simp) rfl;simp only[zb l k a,An];rw[if_pos (by simp_all)];cases Dc (l[k].s=id) with
 | true=>rfl
 | false=>simp_all
theorem zv3 (p:α->Bool) (l:List α) (hl:l.length<=1048576) (a:Nat) (u:a<l.length) (v:p l[a]=true) (F: ∀i (hi:i<a),p (l[i]'(by omega))=false) {g:α->Option Bool} (w: ∀x,g x=some (p x)) {body:Int × Int × List α->Option (Ctl (Int × Int × List α) (Ctl (Int × List α) R))} {f:Int × List α->Option R} (y:body=λ(I:Int × Int × List α)=>if (Dc (I.2.1<(I.2.2.length:Int)))=true then ((idx I.2.2 I.2.1).bind λJ=>
 (g J).bind λN=>
 bindC (if (!N)=true then ((idx I.2.2 I.1).bind λO=>
 some (.go (I6.wrap (I.1+(1:Int)),(I.2.2.set I.1.toNat J))))
 else (some (.go (I.1,I.2.2))))
 (λ(M:Int × List α)=>some (.go (M.1,I6.wrap (I.2.1+(1:Int)),M.2))))
 else (some (.done (.go (I.1,I.2.2))))) (G: ∀(i:Nat) ls,ls.length=l.length->i<=l.length->ls.take i=(l.filter λx=>!p x)->f ((i:Int),ls)=some z):bindC (loopO body ((a:Int),I6.wrap ((a:Int)+(1:Int)),l)) f=some z:=by
 refine zG (λk (S:Int × Int × List α)=>∃i:Nat,S.1=(i:Int)/\S.2.1=((a+1+k:Nat):Int)/\i<a+1+k/\(S.2.2.length=l.length/\∀q (e:q<l.length),a+1+k<=q->S.2.2[q]? =some l[q])/\S.2.2.take i=((l.take (a+1+k)).filter λx=>!p x)) (l.length - (a+1))
  (λr=>∃i ls,r= .go (((i:Nat):Int),ls)/\ls.length=l.length/\i<=l.length/\ls.take i=(l.filter λx=>!p x)) ?_ ?_ ?_ ?_
 ·refine ⟨a,rfl,by simp only;rw[za (by omega) (by omega)];omega,by omega,⟨rfl,λq e _=>by simp⟩,?_⟩;rw[Fj,zdu _ l a u,v];simp only[Bl,Ba,if_false,Df];rw[Cx.2];intro x A;obtain ⟨i,hi,rfl⟩:=Bt A;grind
 ·rintro k ⟨B,C,ls⟩ H ⟨i,b,c,o,⟨j,m⟩,d⟩;simp only at b c o j m d;subst b c;left;have s:a+1+k<l.length:=by omega
  have D:idx ls ((a+1+k:Nat):Int)=some l[a+1+k]:=by rw[zb ls _ (by omega)];simp_all
  rw[y];simp only[D,An,w];rw[if_pos (decide_eq_true (by omega)),za (n:=((a+1+k:Nat):Int)+1) (by omega) (by omega),show ((a+1+k:Nat):Int)+1=((a+1+(k+1):Nat):Int) by omega];have E:i<ls.length:=by omega
  cases t:p l[a+1+k] with
  | true=>simp only[Bl,Ba,if_false,zd];refine ⟨_,rfl,i,rfl,rfl,by omega,⟨j,λq e h=>m q e (by omega)⟩,?_⟩;simp only;rw[d,show a+1+(k+1)=(a+1+k)+1 by omega,zdu _ l (a+1+k) s,t];simp
  | false=>
    simp only[Bz,if_true,Bm,zb ls i E,An,zd];rw[za (n:=(i:Int)+1) (by omega) (by omega)];refine ⟨_,rfl,i+1,by simp,rfl,by omega,⟨by simp_all,λq e h=>?_⟩,?_⟩
    ·rw[Ek (by omega)];grind
    ·simp only;rw[zZ _ i (by simp_all),Cu,Dx (Cy _),d,show a+1+(k+1)=(a+1+k)+1 by omega,zdu _ l (a+1+k) s,t];rfl
 ·rintro ⟨B,C,ls⟩ ⟨i,b,c,o,⟨j,m⟩,d⟩;simp only at b c o j m d;subst b c;have U:a+1+(l.length - (a+1))=l.length:=by omega
  grind
 ·simp_all
theorem zuc (l:List Ah) (id:Int) (hl:l.length<=1048576):zH l id=some (noLR id l):=by
 have hi:zI l id=some (fstV (λt=>decide (t.s=id)) l):=by unfold zI fstV;rw[zgq (λt:Ah=>decide (t.s=id)) l (by omega) (λj=>j) rfl (λk b=>?_) (by simp)];simp only[zb l k b,An,zb1];rw[if_pos (by simp_all),za (by omega) (by omega)];grind
 unfold zH;rw[hi,An];rcases zkx (λt:Ah=>decide (t.s=id)) l with ⟨j,c,e,a,d⟩ | ⟨e,a⟩
 ·rw[e,decide_eq_false (by omega),if_neg (by simp)];refine zv3 (λt:Ah=>decide (t.s=id)) l hl j c a d (g:=λx=>zb1 x id) (λx=>rfl) rfl λi ls h m f=>?_;rw[zQ ls i ls.length _ _ rfl rfl (by omega) (by omega),zQ ls 0 i 0 (i:Int) rfl rfl (by omega) (by omega)];simp only[An,Fh,Fk];rw[f];rfl
 ·rw[e];simp only[decide_true,if_true];unfold noLR;rw[Cx.2 λx n=>by simp_all]
def zjj (s:Ae) (id:Int) (hl:s.u.length<=1048576):zbQ s id=some ⟨s.F,s.m,s.C,s.a,noLR id s.u,s.L,s.A⟩:=by unfold zbQ;rw[zuc s.u id hl];rfl
theorem zu7 (l:List Af) (id:Int) (hl:l.length<=1048576):zL l id=some (noTE id l):=by
 have hi:zO l id=some (fstV (λt=>decide (t.q=id)) l):=by unfold zO fstV;rw[zgq (λt:Af=>decide (t.q=id)) l (by omega) (λj=>j) rfl (λk b=>?_) (by simp)];simp only[zb l k b,An,zcp];rw[if_pos (by simp_all),za (by omega) (by omega)];grind
 unfold zL;rw[hi,An];rcases zkx (λt:Af=>decide (t.q=id)) l with ⟨j,c,e,a,d⟩ | ⟨e,a⟩
 ·rw[e,decide_eq_false (by omega),if_neg (by simp)];exact zv4 (λt:Af=>decide (t.q=id)) l (by omega) j c a d (g:=λx=>zcp x id) (λx=>rfl) rfl λi ls f h m=>zwL l _ i ls f h m
 ·rw[e];simp only[decide_true,if_true];unfold noTE;rw[Cx.2 λx n=>by simp_all]
theorem zq3 (key:List UInt8): ∀(B:List Ah) (e:Aa),(repS key e B).2=true->∀r∈B,r.O.length<=300
 | [],_,_,r,a=>by trivial
 | q::B,e,h,r,a=>by
   simp only[repS]at h;cases b:(openB key q.A q.c q.O).2&&(putR e (openB key q.A q.c q.O).1).2 with
   | false=>rw[b]at h;cases h
   | true=>
     rw[b]at h;rcases Eo.1 a with rfl | a
     ·have d:=(Bw _ _ ▸ b:_/\_).1;unfold openB at d;grind
     ·exact zq3 key B _ h r a
theorem ztQ: ∀(ids:List Int) (l:List Ah),(∀r∈l,r.s∈ids)->(∀id∈ids,(ofLR id l).length<=6)->l.length<=6*ids.length
 | [],l,h,_=>by
   cases l with
   | nil=>simp
   | cons r l=>have:=h r (by simp);cases this
 | id::ids,l,h,c=>by
   have d:=c id (by simp);have g:l.length=(ofLR id l).length+(noLR id l).length:=by
    unfold ofLR noLR;clear h c d;induction l with
    | nil=>rfl
    | cons r l ih=>grind
   have i:=ztQ ids (noLR id l) (λr f=>by
    obtain ⟨a,b⟩:=Cv.1 f;rcases Eo.1 (h r a) with e | e
    ·simp_all
    ·exact e) λk j=>Dm (by
     have:(ofLR k (noLR id l)).Sublist (ofLR k l):=List.filter_sublist.filter _;grind) (c k (by simp_all))
   grind
theorem storeP.rlen (h:storeP s):s.u.length<=24:=by
 have f:=ztQ (s.a.map Af.q) s.u (λr c=>by obtain ⟨t,b,e⟩:=h.rows r c;rw[<-e];exact Dd b) λid d=>by obtain ⟨t,b,rfl⟩:=Eh.1 d;exact (h.tens t b).few
 have:=h.lens;grind
def tenP.small {rows:List Ah} (h:tenP key rows t):smallT t:=by obtain ⟨a,b,c,d,_⟩:=zbN h.eng;exact ⟨a,b,c,d⟩
def storeP.small {s:Ae} (h:storeP s):smallS s:=by obtain ⟨c,d,f⟩:=h.lens;have g:=h.rlen;have i:=h.hist;refine ⟨λt a=>(h.tens t a).small,by omega,λr b=>?_,by omega,by omega,by omega,by omega⟩;obtain ⟨t,a,e⟩:=h.rows r b;have:=zq3 _ _ _ (h.tens t a).runs r (Cv.2 ⟨b,decide_eq_true e.symm⟩);omega
theorem zl9 (l:List Af) (hl:l.length<=1048576) (h:Af->Af) {body:Int × List Af->Option (Ctl (Int × List Af) (Ctl (List Af) R))} {f:List Af->Option R} (b: ∀k (a:k<l.length) A,body ((k:Int),A)=(app 104 A [h l[k]]).bind λE=>some (.go (I6.wrap ((k:Int)+(1:Int)),E))) (c: ∀A,body ((l.length:Int),A)=some (.done (.go A))) (d:f (l.map h)=some z):
 bindC (loopO body ((0:Int),([]:List Af))) f=some z:=by
 obtain ⟨r,e,rfl⟩:=zX (body:=body) (s0:=((0:Int),([]:List Af))) (λk (S:Int × List Af)=>S=((k:Int),(l.take k).map h)) l.length (λr=>r= .go (l.map h)) rfl (by
  rintro k _ a rfl;left;refine ⟨_,?_,rfl⟩;have g:((l.take k).map h).length<=1048576:=by grind
  rw[b k a,zg (by grind) (by grind),za (n:=(k:Int)+1) (by omega) (by omega),zZ l k a,Db];rfl) (by
  simp_all)
 simp_all
def znl (h:storeP s):zfw s=some s:=by have hs:=h.small;unfold zfw;simp only[zkk _ hs.slots,zf4 _ hs.shares,znv _ hs.rows,znv _ hs.hist,An];refine zl9 s.a hs.tens id (λk f A=>?_) (λA=>by simp) (by simp);obtain ⟨a,b,c,d,e⟩:=zbN (h.tens _ (Bf f)).eng;simp only[zb s.a k f,An,zg2 _ a b e d];simp_all
structure boundS (s:Ae):Prop where
 slots:s.m.D.length<=5
 shares:s.C.r.length<=5
 tens:s.a.length<=5
 each: ∀t∈s.a,engV t.g=true
 rows:s.u.length<=25
 hist:s.L.length<=121
def storeP.bound (h:storeP s):boundS s:=by obtain ⟨b,c,d⟩:=h.lens;have e:=h.rlen;have f:=h.hist;exact ⟨by omega,by omega,by omega,λt a=>(h.tens t a).eng,by omega,by omega⟩
theorem zk0 (h:boundS s):zcC s=some s:=by have g:=h.slots;have i:=h.shares;have j:=h.tens;have l:=h.rows;have m:=h.hist;unfold zcC;rw[zmz _ (by omega),ze0 _ (by omega),zg (by grind) (by grind),zg (by simp only[Ff];omega) (by simp only[Ff];omega)];simp only[An];refine zl9 s.a (by omega) id (λk f A=>?_) (λA=>by simp) (by simp);obtain ⟨a,b,c,d,e⟩:=zbN (h.each _ (Bf f));simp only[zb s.a k f,An,zce _ a b e d];simp_all
def zhz (h:storeP s):zcC s=some s:=zk0 h.bound
theorem zvb (l:List Af) (j:Nat) (e:j<l.length) (h:l[j].g.t.length<=1048576): ∃b,zcj l (j:Int)=some (b,l.set j ⟨l[j].q,l[j].J,l[j].G,(flushS l[j].g).2⟩):=by
 have a:=zlI l[j].g h;unfold zfq at a;unfold zcj;rw[zb l j e];simp only[An,Bm];cases c:(if (Dc (((l[j].g.x.length:Nat):Int)=(0:Int)))=true then (some true) else (some (Dc (((l[j].g.t.length:Nat):Int)>=(6:Int))))) with
 | none=>rw[c]at a;cases a
 | some T=>
   rw[c]at a;simp only[An]at a |-
   cases T with
   | true=>
     simp only[if_true,Cq]at a |-
     refine ⟨false,?_⟩;rw[<-a];show (false,l)=(false,l.set j l[j]);simp
   | false=>
     simp only[Ba,if_false]at a |-
     cases d:zbv l[j].g.t (0:Int) ([l[j].g.x]) with
     | none=>rw[d]at a;cases a
     | some R=>
       rw[d]at a;simp only[An,Cq]at a |-
       exact ⟨true,by grind⟩
theorem zvc (e:Af) (h:e.g.t.length<=1048576): ∃b,zck e=some (b,⟨e.q,e.J,e.G,(flushS e.g).2⟩):=by
 have a:=zlI e.g h;unfold zfq at a;unfold zck;cases c:(if (Dc ((e.g.x.length:Int)=(0:Int)))=true then (some true) else (some (Dc ((e.g.t.length:Int)>=(6:Int))))) with
 | none=>rw[c]at a;cases a
 | some T=>
   rw[c]at a;simp only[An]at a |-
   cases T with
   | true=>
     simp only[if_true,Cq]at a |-
     refine ⟨false,?_⟩;rw[<-a]
   | false=>
     simp only[Ba,if_false]at a |-
     cases d:zbv e.g.t (0:Int) ([e.g.x]) with
     | none=>rw[d]at a;cases a
     | some R=>
       rw[d]at a;simp only[An,Cq]at a |-
       exact ⟨true,by grind⟩
theorem zvt (l:List Af) (j:Nat) (i:j<l.length) (h:engV l[j].g=true): ∃b,zcl l (j:Int)=some (b,l.set j ⟨l[j].q,l[j].J,l[j].G,(mergeS l[j].g).2⟩):=by
 have a:=ziC h;unfold zfr at a;unfold zcl;rw[zb l j i];simp only[An,Bm];cases c:Dc (((l[j].g.t.length:Nat):Int)=(0:Int)) with
 | true=>
   rw[c]at a;simp only[if_true,Cq]at a |-
   refine ⟨false,?_⟩;rw[<-a];show (false,l)=(false,l.set j l[j]);simp
 | false=>
   rw[c]at a;simp only[Ba,if_false]at a |-
   cases d:zb4 l[j].g.t with
   | none=>rw[d]at a;cases a
   | some R=>
     rw[d]at a;simp only[An]at a |-
     cases e:zb2 R l[j].g.B true with
     | none=>rw[e]at a;cases a
     | some C=>
       rw[e]at a;simp only[An]at a |-
       cases f:Dc ((C.length:Int)>(0:Int)) with
       | true=>
         rw[f]at a;simp only[if_true,zd,Cq]at a |-
         exact ⟨true,by grind⟩
       | false=>
         rw[f]at a;simp only[Ba,if_false,zd,Cq]at a |-
         exact ⟨true,by grind⟩
theorem zvu (e:Af) (h:engV e.g=true): ∃b,zcm e=some (b,⟨e.q,e.J,e.G,(mergeS e.g).2⟩):=by
 have a:=ziC h;unfold zfr at a;unfold zcm;cases c:Dc ((e.g.t.length:Int)=(0:Int)) with
 | true=>
   rw[c]at a;simp only[if_true,Cq]at a |-
   exact ⟨false,by rw[<-a]⟩
 | false=>
   rw[c]at a;simp only[Ba,if_false]at a |-
   cases d:zb4 e.g.t with
   | none=>rw[d]at a;cases a
   | some R=>
     rw[d]at a;simp only[An]at a |-
     cases f:zb2 R e.g.B true with
     | none=>rw[f]at a;cases a
     | some C=>
       rw[f]at a;simp only[An]at a |-
       cases i:Dc ((C.length:Int)>(0:Int)) with
       | true=>
         rw[i]at a;simp only[if_true,zd,Cq]at a |-
         exact ⟨true,by grind⟩
       | false=>
         rw[i]at a;simp only[Ba,if_false,zd,Cq]at a |-
         exact ⟨true,by grind⟩
theorem zoB (e:Af) (l:List Op) (b:engV e.g=true) (i:batchV l=true):zb9 e l=some (okB e.g l,⟨e.q,e.J,e.G,engB e.g l⟩):=by
 obtain ⟨u,v,w,y,z,_⟩:=z9 b;obtain ⟨d,f,A⟩:=zhI b i;have m:I6.wrap (e.g.c+(1:Int))=e.g.c+1:=za (by omega) (by omega);obtain ⟨B,C,D,E⟩:=zgD l (e.g.c+1) e.g.x d f (by omega) l.length (Cy _);unfold zb9;simp only[m];rw[zk (λk=>(true,(k:Int),memB l (e.g.c+1) e.g.x k)) l.length (r:=Ctl.go (true,memB l (e.g.c+1) e.g.x l.length)) ?h0]
 case h0=>rfl
 ·simp only[zd,if_true,zg8 e.g.t (by omega) (by omega),An];rw[za (by omega) (by omega)];unfold okB engB;have F:Dc ((((memB l (e.g.c+1) e.g.x l.length).length:Nat):Int)<=60)=Dc ((memB l (e.g.c+1) e.g.x l.length).length<=60):=decide_eq_decide.2 (by omega);have H:Dc ((totalV e.g.t:Int)+(((memB l (e.g.c+1) e.g.x l.length).length:Nat):Int)<=400)=Dc (totalV e.g.t+(memB l (e.g.c+1) e.g.x l.length).length<=400):=decide_eq_decide.2 (by omega);grind
 ·intro k a;have o:piece l (I6.wrap ((k:Int)+(1:Int))) (l.length:Int)=some (l.drop (k+1)):=by rw[za (by omega) (by omega),zQ l (k+1) l.length _ _ (by omega) rfl (by omega) (Cy _),Cr (by simp)]
  simp only[zb l k a,An,o,zlF _ l[k] (by simp;omega:(l.drop (k+1)).length<=1048576)];rw[if_pos (by simpa using a),za (n:=(k:Int)+1) (by omega) (by omega)];have p:((l.drop (k+1)).any λx=>decide (x.j=l[k].j))=laterV l k l[k].j:=rfl;rw[p];cases h:laterV l k l[k].j with
  | true=>rw[zhe l _ _ k a h];rfl
  | false=>have s:=(zmC l (e.g.c+1) e.g.x d f (by omega) k a h).1;unfold entO at s;simp_all
 ·simp
def ztt (l:List Af) (j:Nat) (a:j<l.length) (h:engV l[j].g=true):zb0 l (j:Int)=some (allR l[j].g):=by have b:=zoH h;unfold zjo at b;unfold zb0;rw[zb l j a];trivial
def zmB (l:List Af) (j:Nat) (d:j<l.length) (h:engV l[j].g=true):zbR l (j:Int)=some (mapR l[j].g l[j].g.c):=by obtain ⟨a,b⟩:=zel h;unfold zbR mapR;rw[zb l j d,ztt l j d h,h];simp only[An,zoT _ l[j].g.c a (by omega),cond_true]
def zvQ (l:List Af) (j:Nat) (c:j<l.length) (h:engV l[j].g=true) (key:List UInt8) (seq:Int):zcn l (j:Int) key seq=some (getR l[j].g key seq):=by obtain ⟨a,b⟩:=zel h;unfold zcn getR;rw[zb l j c,ztt l j c h,h];simp only[An,ztb _ key seq (by omega:(allR l[j].g).length<=1048576),cond_true];exact zt4 _
theorem zrl (l:List Af) (j:Nat) (a:j<l.length) (h:engV l[j].g=true) (key:List UInt8) (seq:Int):zby l (j:Int) key seq=some (valR l[j].g key seq):=by unfold zby valR;rw[zb l j a,zvQ l j a h];simp only[An,no_R];grind
theorem zk2 (h:engV e=true) (key:List UInt8) (seq:Int):zf2 e key seq=some (valR e key seq):=by obtain ⟨a,b,c,d,_⟩:=zbN h;unfold zf2 valR;rw[zqi e key seq a b c d];simp only[An,zfd];grind
def zim (h:storeP s) (id:Int):zbp s id=some (atE s.a id):=zjq s id h.small.tens
def zqb (h:storeP s) (id:Int):zcX s.a id=some (atE s.a id):=zlO s.a id h.small.tens
def zlY (h:storeP s) (j:Nat) (b:j<s.a.length) (id:Int) (e:s.a[j].q=id) (f:atE s.a id=(j:Int)):zeq s id=some (codeR 0,flushO s (j:Int)):=by
 subst e;have A:=h.tens _ (Bf b);have m:=h.small.rows;obtain ⟨n,i⟩:=zvb s.a j b (by have:=A.tabs;omega);unfold zeq;rw[zim h,f,An,zb _ j b,An,i];simp only[An];have c:j<(s.a.set j ⟨s.a[j].q,s.a[j].J,s.a[j].G,(flushS s.a[j].g).2⟩).length:=by simp_all
 have d:(s.a.set j ⟨s.a[j].q,s.a[j].J,s.a[j].G,(flushS s.a[j].g).2⟩)[j]=⟨s.a[j].q,s.a[j].J,s.a[j].G,(flushS s.a[j].g).2⟩:=Cu _;obtain ⟨o,k⟩:=zvt _ j c (by rw[d];exact zic A.eng);rw[zb _ j c,An,k,d,Ey];simp only[An];have l:j<(s.a.set j ⟨s.a[j].q,s.a[j].J,s.a[j].G,(mergeS (flushS s.a[j].g).2).2⟩).length:=by simp_all
 rw[zb _ j l,Cu];simp only[An];rw[zjj]
 ·simp only[An,Bm,Ey];unfold flushO;rw[zo _ j b,Bm];rfl
 ·trivial
def zjF (h:storeP s) (j:Nat) (e:j<s.a.length):zeG s (j:Int)=some (flushO s (j:Int)):=by
 have A:=h.tens _ (Bf e);obtain ⟨a,b,c,d,_⟩:=zbN A.eng;obtain ⟨f,i,k,l,_⟩:=zbN (zic A.eng);have m:(flushR s.a[j].g).1=(flushS s.a[j].g).2:=by unfold flushR;rw[A.eng];rfl
 have n:(mergeER (flushS s.a[j].g).2).1=flatE s.a[j].g:=by unfold mergeER;rw[zic A.eng];rfl
 unfold zeG;rw[zb _ j e,An,zoi _ a b c d,An,m,zoj _ f i k l,An,n,zkg _ _ h.small.rows];unfold flushO;rw[zo _ j e];rfl
theorem zuz (h:storeP s) (j:Nat) (b:j<s.a.length) (d:Int):quoV d s.C s.a[j].q=quoV (-1) s.C s.a[j].q:=by unfold quoV;have c:s.a[j].q∈s.a.map Af.q:=Dd (Bf b);rw[h.ids]at c;grind
def zwP (e:Aa):(⟨(flushS e).2.x,(flatE e).t,(flatE e).c,e.B⟩:Aa)=flatE e:=by obtain ⟨a,b,c⟩:=zln (flushS e).2;have d:=(ze3 e).2;have f:(flatE e).x=(flushS e).2.x:=a;rw[<-f,<-d]
def zwd (e:Aa):(⟨(flushS e).2.x,(flushS e).2.t,(flushS e).2.c,e.B⟩:Aa)=(flushS e).2:=by have:=(zoF e).2;rw[<-this]
theorem zpH (m:List KV) (ops:List Op) (b:srtK m) (c: ∀x∈m,kvV x=true) (d:m.length<=100000) (e:ops.length<=1048576):zcK m ops=some (bif batchV ops then (applyK m ops,true) else (m,false)):=by
 by_cases f:ops.length<=1000
 ·exact zrn _ _ b c d f
 ·have a:batchV ops=false:=by
   cases a:batchV ops with
   | false=>rfl
   | true=>have:=(zb8 a).1;omega
  unfold zcK;rw[zk8 m b c (by omega)];simp only[An,Bl,Ba,if_false];rw[zg (by grind) (by grind),zdE ops e,a];rfl
theorem zp2 (h:storeP s) (j:Nat) (b:j<s.a.length) (c:Ao) (f:c.R.length<=1048576):zbJ s (j:Int) c=some ((writeS s (j:Int) c.R).2,(writeS s (j:Int) c.R).1):=by
 have hT:=h.tens _ (Bf b);have hs:=h.small;have Q:=h.rlen;have S:=h.hist;obtain ⟨l,n,T,o,p⟩:=zbN hT.eng;unfold zbJ writeS;rw[zb _ j b,zo _ j b];simp only[An,no_R];have v:Dc ((s.L.length:Int)>=120)=Dc (120<=s.L.length):=decide_eq_decide.2 (by omega);rw[v];by_cases w:120<=s.L.length
 ·simp_all
 rw[decide_eq_false w];simp only[Ba,if_false,zeT c.R f,An,cond_false];cases d:batchV c.R with
 | false=>rfl
 | true=>
 have U:=(zb8 d).1;have V:=zlm s.a[j].g s.a[j].g.c;have W:=ziK c.R (mapR s.a[j].g s.a[j].g.c);have y:srtK (mapR s.a[j].g s.a[j].g.c):=zn6 hT.eng _;have z:=zm3 hT.eng s.a[j].g.c;simp only[Bl,Ba,if_false,cond_true,zmB _ j b hT.eng,An,zoN (mapR s.a[j].g s.a[j].g.c) c.R y (by omega) (by omega),zjX _ (zqD z d) (by omega),zoQ s.C _ hs.shares,zuz h j b 0];cases Dc ((bytesN (applyK (mapR s.a[j].g s.a[j].g.c) c.R):Int)>quoV (-1) s.C s.a[j].q) with
 | true=>rfl
 | false=>
 have er:rowsV s s.a[j].q=ofLR s.a[j].q s.u:=rfl;have D:Dc ((((ofLR s.a[j].q s.u).length:Nat):Int)>=6)=Dc (6<=(ofLR s.a[j].q s.u).length):=decide_eq_decide.2 (by omega);simp only[Ba,if_false,cond_false,zg2 _ l n p o,zes s _ hs.rows,An,er,D];unfold roomS;rw[zo _ j b];cases X:Dc (6<=(ofLR s.a[j].q s.u).length) with
 | false=>
   have i:=zoB ⟨s.a[j].q,s.a[j].J,s.a[j].G,⟨s.a[j].g.x,s.a[j].g.t,s.a[j].g.c,s.a[j].g.B⟩⟩ c.R hT.eng d;have e:(engB s.a[j].g c.R).c=s.a[j].g.c+1:=rfl;simp only[Ba,if_false,cond_false,zd,i,An,zio s.m _ hs.slots,ziE _ _ _ c.R f,e];rw[zo _ j b];cases E:okB s.a[j].g c.R with
   | false=>rfl
   | true=>
     simp only[Bl,Ba,if_false,An,Ct];cases F:Dc (sealB (keyOfV s.m s.a[j].q) s.A (s.a[j].g.c+1) c.R= []) with
     | true=>rfl
     | false=>simp only[Ba,if_false,Bz,cond_true];rw[zg (by grind) (by grind),zg (by simp only[Bh];omega) (by simp only[Bh];omega)];simp only[An,Bm];unfold putS;rw[zo _ j b];rfl
 | true=>
   obtain ⟨Y,H⟩:=zvc ⟨s.a[j].q,s.a[j].J,s.a[j].G,s.a[j].g⟩ (by trivial);obtain ⟨Z,I⟩:=zvu ⟨s.a[j].q,s.a[j].J,s.a[j].G,(flushS s.a[j].g).2⟩ (zic hT.eng);have K:=zpT hT.eng;have i:=zoB ⟨s.a[j].q,s.a[j].J,(flatE s.a[j].g).c,flatE s.a[j].g⟩ c.R K d;have e:(engB (flatE s.a[j].g) c.R).c=s.a[j].g.c+1:=by show (flatE s.a[j].g).c+1=_;rw[(ze3 _).1]
   have M:(mergeS (flushS s.a[j].g).2).2=flatE s.a[j].g:=rfl;have k:tenE (flushO s (j:Int)).a (j:Int)=flushT s.a[j]:=by unfold flushO;simp only[Bm];rw[zo _ j (by simp_all),Cu,zo _ j b]
   simp only[if_true,cond_true,H,An,zwd,I,zd,M,zwP,i,zio s.m _ hs.slots,ziE _ _ _ c.R f,e,k];have N:(flushT s.a[j]).g=flatE s.a[j].g:=rfl;rw[N];cases E:okB (flatE s.a[j].g) c.R with
   | false=>rfl
   | true=>
     simp only[Bl,Ba,if_false,An,Ct];cases F:Dc (sealB (keyOfV s.m s.a[j].q) s.A (s.a[j].g.c+1) c.R= []) with
     | true=>rfl
     | false=>
       have a0:(noLR s.a[j].q s.u).length<=s.u.length:=Cj _ _;simp only[Ba,if_false,if_true,Bz,cond_true,zjj s _ hs.rows,An,zd];rw[zg (by grind) (by grind),zg (by simp only[Bh];omega) (by simp only[Bh];omega)];simp only[An,Bm];have e3:(flatE s.a[j].g).c=s.a[j].g.c:=(ze3 _).1;have O:(engB (flatE s.a[j].g) c.R).t=(flatE s.a[j].g).t:=rfl;have P:(engB (flatE s.a[j].g) c.R).B=s.a[j].g.B:=(ze3 _).2;unfold putS;rw[k];unfold flushO;rw[zo _ j b];simp only[Bm,Ey];unfold flushT;rw[<-O,<-P];have e6:(⟨(engB (flatE s.a[j].g) c.R).x,(engB (flatE s.a[j].g) c.R).t,s.a[j].g.c+1,(engB (flatE s.a[j].g) c.R).B⟩:Aa)=engB (flatE s.a[j].g) c.R:=by rw[<-e]
       simp_all
theorem zos (h:storeP s) (j:Nat) (b:j<s.a.length) (ops:List Op) (e:ops.length<=1048576):zgk s (j:Int) ops=some (writeS s (j:Int) ops):=by
 have hT:=h.tens _ (Bf b);have hs:=h.small;have Q:=h.rlen;have R:=h.hist;have B:=hT.seq;have S:=hT.base;have T:=(z9 hT.eng).1;obtain ⟨p,t,v,w,U⟩:=zbN hT.eng;unfold zgk writeS;rw[zb _ j b,zo _ j b];simp only[An,zfd];have D:Dc ((s.L.length:Int)>=120)=Dc (120<=s.L.length):=decide_eq_decide.2 (by omega);rw[D];by_cases x:120<=s.L.length
 ·rw[decide_eq_true x];rfl
 rw[decide_eq_false x];have V:=zlm s.a[j].g s.a[j].g.c;have W:=ziK ops (mapR s.a[j].g s.a[j].g.c);have y:srtK (mapR s.a[j].g s.a[j].g.c):=zn6 hT.eng _;have z:=zm3 hT.eng s.a[j].g.c;simp only[Ba,if_false,zhQ _ _ p t v w,An,cond_false];rw[zpH _ ops y z (by omega) e];cases d:batchV ops with
 | false=>rfl
 | true=>
 have X:=(zb8 d).1;simp only[cond_true,An,Bl,Ba,if_false,zlM (applyK (mapR s.a[j].g s.a[j].g.c) ops) (zla ops y) (zqD z d) (by omega),zoo s.C _ hs.shares];cases Dc ((bytesN (applyK (mapR s.a[j].g s.a[j].g.c) ops):Int)>quoV (-1) s.C s.a[j].q) with
 | true=>rfl
 | false=>
 have er:rowsV s s.a[j].q=ofLR s.a[j].q s.u:=rfl;rw[er]at B;have E:Dc (I6.wrap (s.a[j].g.c - s.a[j].G)>=6)=Dc (6<=(ofLR s.a[j].q s.u).length):=by rw[za (by omega) (by omega)];exact decide_eq_decide.2 (by omega)
 simp only[Ba,if_false,cond_false,E];unfold roomS;rw[zo _ j b];cases Y:Dc (6<=(ofLR s.a[j].q s.u).length) with
 | false=>
   simp only[Ba,if_false,cond_false,zfC _ ops p t v w e,An,zgc s.m _ hs.slots,ziI _ _ _ ops e];rw[zo _ j b];cases f:okB s.a[j].g ops with
   | false=>
     have:putR s.a[j].g ops=(s.a[j].g,false):=by unfold putR;rw[hT.eng,d,f];rfl
     rw[this];rfl
   | true=>
     have:putR s.a[j].g ops=(engB s.a[j].g ops,true):=by unfold putR;rw[hT.eng,d,f];rfl
     have k:(engB s.a[j].g ops).c=s.a[j].g.c+1:=rfl;rw[this];simp only[Bl,Ba,if_false,An,Ct,k];cases F:Dc (sealB (keyOfV s.m s.a[j].q) s.A (s.a[j].g.c+1) ops= []) with
     | true=>rfl
     | false=>simp only[Ba,if_false,Bz,cond_true];rw[zg (by grind) (by grind),zg (by simp only[Bh];omega) (by simp only[Bh];omega)];unfold putS;rw[zo _ j b];rfl
 | true=>
   have Z:=zmd h j b;have i:j<(flushO s (j:Int)).a.length:=by unfold flushO;simpa using b
   have l:(flushO s (j:Int)).a[j]=flushT s.a[j]:=by rw[<-zo _ j i];unfold flushO;simp only[Bm];rw[zo _ j (by simpa using b),Cu,zo _ j b]
   have n:=zpT hT.eng;obtain ⟨H,I,J,K,y5⟩:=zbN n;have o:(flushT s.a[j]).g=flatE s.a[j].g:=rfl;have M:(flushO s (j:Int)).m=s.m:=rfl;have N:(flushO s (j:Int)).A=s.A:=rfl;simp only[if_true,cond_true,zhz h,An,zjF h j b,zb _ j i,l,o,zfC _ ops H I J K e,M,N,zgc s.m _ hs.slots,ziI _ _ _ ops e];rw[zo _ j i,l,o];cases f:okB (flatE s.a[j].g) ops with
   | false=>
     have:putR (flatE s.a[j].g) ops=(flatE s.a[j].g,false):=by unfold putR;rw[n,d,f];rfl
     rw[this];rfl
   | true=>
     have:putR (flatE s.a[j].g) ops=(engB (flatE s.a[j].g) ops,true):=by unfold putR;rw[n,d,f];rfl
     have k:(engB (flatE s.a[j].g) ops).c=s.a[j].g.c+1:=by show (flatE s.a[j].g).c+1=_;rw[(ze3 _).1]
     rw[this];simp only[Bl,Ba,if_false,An,Ct,k];cases F:Dc (sealB (keyOfV s.m s.a[j].q) s.A (s.a[j].g.c+1) ops= []) with
     | true=>rfl
     | false=>
       have a0:(flushO s (j:Int)).u.length<=s.u.length:=by unfold flushO;exact Cj _ _
       have O:(flushO s (j:Int)).L=s.L:=rfl;have P:(flatE s.a[j].g).c=s.a[j].g.c:=(ze3 _).1;simp only[Ba,if_false,Bz,cond_true,O];rw[zg (by simp only[Bh];omega) (by simp only[Bh];omega),zg (by simp only[Bh];omega) (by simp only[Bh];omega)];unfold putS;rw[zo _ j i,l];simp only[An,o,P];rfl
theorem zqt (l:List Af) (t:Af) (hl:l.length<=1000000) (E: ∀x∈l,¬x.q=t.q):zia l t=some (insTE l t):=by
 obtain ⟨y,t2,z⟩:=zhW (λx:Af=>decide (x.q<t.q)) l;have V:(⟨t.q,t.J,t.G,⟨t.g.x,t.g.t,t.g.c,t.g.B⟩⟩:Af)=t:=rfl;unfold zia insTE placeE;generalize (l.takeWhile λx:Af=>decide (x.q<t.q)).length=a at y t2 z;have U: ∀(M:List Af) (x:Af),M.length<=1000001->app 104 M [x]=some (M++ [x]):=λM x h=>zg (by grind) (by grind);refine zG (λk (S:Bool × Int × List (Option Af) × Option (List Ac) × Option (List (List Ac)) × Option (List Int) × List Af)=>S.2.1=(k:Int)/\wholeO l k S.2.2.1/\
  ((k<=a/\S.1=false/\S.2.2.2.1=some t.g.x/\S.2.2.2.2.1=some t.g.t/\S.2.2.2.2.2.1=some t.g.B/\S.2.2.2.2.2.2=l.take k)\/(a<k/\S.1=true/\S.2.2.2.2.2.2=l.take a++(t::(l.drop a).take (k - a))))) l.length
  (λr=>∃p N O ts M,r= .go (p,N,O,ts,M)/\((p=false/\N=some t.g.x/\O=some t.g.t/\ts=some t.g.B/\M=l/\a=l.length)\/(p=true/\M=l.take a++(t::l.drop a)))) ⟨rfl,zuP l,.inl ⟨Bo _,rfl,rfl,rfl,rfl,by simp⟩⟩ ?_ ?_ ?_
 ·rintro k ⟨p,i,ls,N,O,ts,M⟩ m ⟨d,b,e⟩;simp only at d b e;subst d;left;have n:=zpG b m;have o:I6.wrap ((k:Int)+(1:Int))=((k+1:Nat):Int):=by rw[za (by omega) (by omega)];omega
  have s:wholeO l (k+1) (ls.set ((k:Nat):Int).toNat none):=zlC (zks b) (by simp);have u:(Dc ((k:Int)<(ls.length:Int)))=true:=by rw[b.1];simp_all
  have F:(l.drop a).take (k+1 - a)=(l.drop a).take (k - a)++(if a<=k then [l[k]] else []):=by
   by_cases A:a<=k
   ·rw[if_pos A,show k+1 - a=(k - a)+1 by omega,zZ _ _ (by grind),Dh];simp_all
   ·grind
  rcases e with ⟨f,rfl,rfl,rfl,rfl,rfl⟩ | ⟨f,rfl,rfl⟩
  ·have C:(l.take k).length<=1000000:=by grind
   by_cases D:k=a
   ·subst D;have j:Dc (l[k].q>t.q)=true:=by grind
    refine ⟨(true,((k+1:Nat):Int),ls.set ((k:Nat):Int).toNat none,none,none,none,(l.take k++ [t])++ [l[k]]),?_,rfl,s,.inr ⟨by simp,rfl,?_⟩⟩
    ·simp only[u,if_true,Bz,n,An,j,V,U _ _ (show (l.take k).length<=1000001 by omega),zd,o];simp_all
    ·simp_all
   ·have j:Dc (l[k].q>t.q)=false:=by grind
    refine ⟨(false,((k+1:Nat):Int),ls.set ((k:Nat):Int).toNat none,some t.g.x,some t.g.t,some t.g.B,l.take k++ [l[k]]),?_,rfl,s,.inl ⟨by omega,rfl,rfl,rfl,rfl,(zZ l k m).symm⟩⟩;simp only[u,if_true,Bz,n,An,j,Ba,if_false,U _ _ (show (l.take k).length<=1000001 by omega),zd,o]
  ·have C:(l.take a++(t::(l.drop a).take (k - a))).length<=1000001:=by grind
   simp_all;omega
 ·rintro ⟨p,i,ls,N,O,ts,M⟩ ⟨d,b,e⟩;simp only at d b e;subst d;refine ⟨_,if_neg (by rw[b.1];simp),p,N,O,ts,M,rfl,?_⟩;rcases e with ⟨f,v,w,H,I,K⟩ | ⟨f,v,w⟩
  ·grind
  ·exact .inr ⟨v,by rw[w,Cr (l:=l.drop a) (by simp)]⟩
 ·rintro _ ⟨p,N,O,ts,M,rfl,⟨rfl,rfl,rfl,rfl,rfl,rfl⟩ | ⟨rfl,rfl⟩⟩
  ·simp only[zd,Bz,if_true,An,V];rw[U _ _ (by omega)];simp
  ·rfl
theorem ztS (h:storeP s) {id:Int} (b: ∀x∈s.a,¬x.q=id): ∀x∈s.m.D,¬x.s=id:=by
 intro x c e;have d:x.s∈s.a.map Af.q:=by rw[h.slots];grind
 grind
theorem zoJ (h:storeP s) (c:Ao):zdT s c=some ((createS s c).2,(createS s c).1):=by
 have hs:=h.small;obtain ⟨n,o,p⟩:=h.lens;unfold zdT createS;simp only[zuj,zqQ,zim h,no_R,zjU s.C _ _ hs.shares,zdS,len32,An];cases f:Dc (1<=c.s/\c.s<=99) with
 | false=>rfl
 | true=>
 cases Dc (0<=c.N/\c.N<=40) with
 | false=>rfl
 | true=>
 cases g:Dc (c.j.length=32) with
 | false=>rfl
 | true=>
 rcases zcY s.a c.s with ⟨j,t,e,_,_⟩ | ⟨e,i⟩
 ·simp_all
 ·rw[e];simp only[Bl,Ba,if_false,An,Ep,show Dc ((-1:Int)>=0)=false from rfl,cond_false];by_cases l:4<=s.a.length
  ·grind
  ·rw[decide_eq_false (by omega),decide_eq_false l];have d:=ztS h i;have b:=zpW h.keys d (znM (key:=c.j) h.keys (of_decide_eq_true f) (of_decide_eq_true g) (by omega) d);simp only[Ba,if_false,cond_false,b,An];cases (setR s.C c.s c.N).2 with
   | false=>rfl
   | true=>
     simp only[Bl,Ba,if_false,cond_true];have m:placeE s.a c.s<=s.a.length:=(zhW _ _).1;rw[zpF (R:=Ar × Ae) (λx:Af=>decide (x.q<c.s)) s.a hs.tens (λk b=>?_) (by simp)]
     ·simp only[zd];unfold zeQ ins;rw[if_pos ⟨by omega,by exact_mod_cast m,by grind,by grind⟩,Bm];rfl
     ·simp only[zb s.a k b,An];grind
theorem zpo (h:storeP s) (c:Ao):zfH s c=some (createS s c):=by
 have hs:=h.small;obtain ⟨m,n,o⟩:=h.lens;unfold zfH createS;simp only[zba,zqb h,zfd,zhr s.C _ _ hs.shares,zdX,len32,An];cases f:Dc (1<=c.s/\c.s<=99) with
 | false=>rfl
 | true=>
 cases Dc (0<=c.N/\c.N<=40) with
 | false=>rfl
 | true=>
 cases g:Dc (c.j.length=32) with
 | false=>rfl
 | true=>
 rcases zcY s.a c.s with ⟨j,p,e,_,_⟩ | ⟨e,b⟩
 ·simp_all
 ·rw[e];simp only[Bl,Ba,if_false,An,Ep,show Dc ((-1:Int)>=0)=false from rfl,cond_false];by_cases i:4<=s.a.length
  ·grind
  ·rw[decide_eq_false (by omega),decide_eq_false i];have k:=ztS h b;have l:=zqk h.keys (znM (key:=c.j) h.keys (of_decide_eq_true f) (of_decide_eq_true g) (by omega) k);have d:=zqt s.a (newTE c.s) (by omega) b;unfold newTE at d;simp only[Ba,if_false,cond_false,l,d,An];cases (setR s.C c.s c.N).2<;>rfl
def zp0 (h:storeP s) (c:Ao):zer s c=some ((quotaS s c).2,(quotaS s c).1):=by
 unfold zer quotaS;simp only[zqQ,no_R,zjU s.C _ _ h.small.shares,An];cases Dc (0<=c.N/\c.N<=40) with
 | false=>rfl
 | true=>cases (setR s.C c.s c.N).2<;>rfl
def zst (a b:Bool):((if a=true then (some true) else (some b)):Option Bool)=some (a||b):=by cases a<;>rfl
def zoK (h:storeP s) (j:Nat) (b:j<s.a.length) (id:Int) (c:s.a[j].q=id):zdU s id=some ((removeS s id).2,(removeS s id).1):=by
 have hs:=h.small;have i:=h.boot;obtain ⟨y,d,e⟩:=h.slot (Bf b);unfold zdU removeS;simp only[zst,An,no_R,ge_iff_le];by_cases f:1000<=s.A
 ·simp_all
 ·by_cases g:1000000<=s.m.H
  ·simp_all
  ·rw[decide_eq_false f,decide_eq_false g];simp only[Ei,Ba,if_false,cond_false,zoI h.keys ⟨y,d,e.trans c⟩ (by omega),zng s.C id hs.shares,zu7 s.a id hs.tens,An];rw[zjj]
   ·simp only[An];rw[za (n:=s.A+1) (by omega) (by omega)];rfl
   ·exact hs.rows
def zoL (h:storeP s) (j:Nat) (b:j<s.a.length) (id:Int) (c:s.a[j].q=id) (d:atE s.a id=(j:Int)):zdV s id=some ((rotateS s (j:Int)).2,(rotateS s (j:Int)).1):=by
 subst c;have f:=(h.tens _ (Bf b)).ep;unfold zdV rotateS;rw[zo _ j b];simp only[zim h,d,zb s.a j b,no_R,zdS,An,Bm];by_cases e:s.a[j].J>=1000000
 ·simp_all
 ·rw[decide_eq_false e,za (n:=s.a[j].J+1) (by omega) (by omega)];rfl
def zsc (h:storeP s) (c:Ao):zdw s c=some ((ownS s c).2,(ownS s c).1):=by
 unfold zdw ownS;simp only[zim h,no_R,An];rcases zcY s.a c.s with ⟨j,b,e,d,_⟩ | ⟨e,_⟩
 ·rw[e,decide_eq_false (by omega)];simp only[Ba,if_false,cond_false];cases Dc (c.E=2) with
  | true=>
    simp only[if_true,zp0 h c,An,cond_true];unfold quotaS;cases Dc (0<=c.N/\c.N<=40) with
    | false=>rfl
    | true=>cases (setR s.C c.s c.N).2<;>rfl
  | false=>
    cases Dc (c.E=3) with
    | true=>simp only[Ba,if_false,if_true,zoK h j b c.s d,An,cond_true,cond_false];unfold removeS;cases Dc (1000<=s.A)||decide (1000000<=s.m.H)<;>rfl
    | false=>
      cases Dc (c.E=4) with
      | true=>simp only[Ba,if_false,if_true,zoL h j b c.s d e,An,cond_true,cond_false];unfold rotateS;cases Dc ((tenE s.a (j:Int)).J>=1000000)<;>rfl
      | false=>simp only[Ba,if_false,zlY h j b c.s d e,An,cond_false];rfl
 ·simp_all
def zrx (h:storeP s):zeV s=some (codeR 0,syncS s):=by
 have b:=h.rlen;unfold zeV syncS;refine set_loop markL s.u (by omega) (λk us c a=>?_) (λus a=>?_) rfl
 ·simp only;rw[if_pos (by simp_all)];rfl
 ·simp
theorem zns (h:storeP s) (j:Nat) (b:j<s.a.length) (o: ¬1000<=s.A) (p: ¬1000000<=s.m.H):zfI s (j:Int)=some (removeS s s.a[j].q).1:=by
 have hs:=h.small;have t:=h.boot;obtain ⟨u,v,w⟩:=h.lens;obtain ⟨y,c,d⟩:=h.slot (Bf b);have x:noTE s.a[j].q s.a=s.a.take j++s.a.drop (j+1):=by unfold noTE;refine ziM s.a _ j b (by simp) λi hi e=>?_;have:=h.ne hi b e;simp_all
 obtain ⟨B,f⟩:=zs5 s.a j b;have g:(Cg j (none:Option Af)++(s.a.drop j).map some).length=s.a.length:=by grind
 have k: ∃ps,piece (Cg j (none:Option Af)++(s.a.drop j).map some) ((j:Int)+1) (s.a.length:Int)=some ps:=⟨_,zQ _ (j+1) s.a.length _ _ (by omega) rfl (by omega) (by omega)⟩;obtain ⟨ps,l⟩:=k;unfold zfI;rw[zb _ j b,An,znq s.C _ hs.shares,An,zpm h.keys ⟨y,c,d⟩ (by omega),An,zQ s.a 0 j 0 (j:Int) rfl rfl (by omega) (by omega),An,zt9 s.a j (by omega),An];rw[zg (by grind) (by grind)];simp only[An,Da];rw[za (n:=(j:Int)+1) (by omega) (by omega),g,l,An,f,An,zg (by grind) (by grind),An,zkg _ _ hs.rows,An,za (n:=s.A+1) (by omega) (by omega)];unfold removeS;grind
def keepJ:Int->List Ah->List Ah
 | _,[]=>[]
 | n,r::l=>bif r.U then markL r::keepJ n l else bif Dc (n - 1>=0) then markL r::keepJ (n - 1) l else keepJ (n - 1) l
def zli: ∀(l:List Ah) (n k:Int),(k=n/\0<=n)\/(n<1/\k<1)->keepJ k l=keepL n l
 | [],_,_,_=>rfl
 | r::l,n,k,h=>by
   unfold keepJ keepL;cases r.U with
   | true=>simp only[cond_true];rw[zli l n k h]
   | false=>
     simp only[cond_false];by_cases a:n<1
     ·have b:k<1:=by omega
      rw[decide_eq_true a,decide_eq_false (by omega)];simp only[cond_true,cond_false];exact zli l n (k - 1) (.inr ⟨a,by omega⟩)
     ·have b:k=n:=by omega
      subst b;rw[decide_eq_false a,decide_eq_true (by omega)];simp only[cond_true,cond_false];rw[zli l (k - 1) (k - 1) (.inl ⟨rfl,by omega⟩)]
theorem zmu (l:List Ah) (n:Int):(keepL n l).length<=l.length:=by obtain ⟨q,h,e⟩:=zj3 l n;grind
theorem zug (l:List Ah) (n:Int) (hl:l.length<=1000000) (u: -9223372036854775808<=n/\n<=9223372036854775807) {body:Int × Int × List Ah->Option (Ctl (Int × Int × List Ah) (Ctl (List Ah) R))} {f:List Ah->Option R} (m:body=λ(D:Int × Int × List Ah)=>if (Dc (D.2.1<(l.length:Int)))=true then ((idx l D.2.1).bind λB=>
 bindC (if (!B.U)=true then (some (.go (I6.wrap (D.1 - (1:Int)))))
 else (some (.go D.1)))
 (λ(F:Int)=>(if B.U=true then (some true)
 else (some (Dc (F>=(0:Int))))).bind (λ(I:Bool)=>
 bindC (if I=true then ((app 48 D.2.2 ([(⟨B.s,B.A,B.c,B.O,true⟩:Ah)])).bind λG=>
 some (.go G))
 else (some (.go D.2.2)))
 (λ(J:List Ah)=>some (.go (F,I6.wrap (D.2.1+(1:Int)),J))))))
 else (some (.done (.go D.2.2)))) (o:f (keepL n l)=some z):bindC (loopO body (goMax n 0,(0:Int),([]:List Ah))) f=some z:=by
 have v:keepJ (max n 0) l=keepL n l:=zli l n (max n 0) (by omega);have p:goMax n 0=max n 0:=by unfold goMax;omega
 rw[p];refine zG (λk (S:Int × Int × List Ah)=>(-(k:Int)<=S.1/\S.1<=9223372036854775807)/\S.2.1=(k:Int)/\S.2.2.length<=k/\S.2.2++keepJ S.1 (l.drop k)=keepL n l) l.length
  (λr=>r= .go (keepL n l)) ⟨by omega,rfl,by simp,by trivial⟩ ?_ ?_ (λr q=>by rw[q];exact o)
 ·rintro k ⟨c,i,E⟩ d ⟨e,b,g,a⟩;simp only at e b g a;subst b;left;have t:I6.wrap ((k:Int)+(1:Int))=((k+1:Nat):Int):=by rw[za (by omega) (by omega)];omega
  have h: ∀x:Ah,app 48 E [x]=some (E++ [x]):=λx=>zg (by grind) (by grind);rw[By d,keepJ]at a;rw[m];simp only[zb l k d,An];rw[if_pos (by simp_all),t];cases hs:l[k].U with
  | true=>rw[hs]at a;simp only[Bl,Ba,if_false,zd,if_true,An,h];exact ⟨_,rfl,by omega,rfl,by simp_all,by simpa[markL] using a⟩
  | false=>
    rw[hs]at a;rw[za (n:=c - 1) (by omega) (by omega)];simp only[Bz,if_true,zd,Ba,if_false,An];simp only[cond_false]at a;cases j:Dc (c - 1>=0) with
    | true=>rw[j]at a;simp only[if_true,h,An,zd];exact ⟨_,rfl,by omega,rfl,by simp_all,by simpa[markL] using a⟩
    | false=>rw[j]at a;simp_all;omega
 ·rintro ⟨c,i,E⟩ ⟨e,b,g,a⟩;simp only at b a;subst b;rw[Du,keepJ,Df]at a;simp_all
theorem zuK (l:List Ah) (n:Int) (hl:l.length<=1000000) (m: -9223372036854775808<=n/\n<=9223372036854775807) {body:Int × Int × List Ah->Option (Ctl (Int × Int × List Ah) (Ctl (List Ah) R))} {f:List Ah->Option R} (o:body=λ(D:Int × Int × List Ah)=>if (Dc (D.2.1<(l.length:Int)))=true then (bindC ((idx l D.2.1).bind λB=>
 bindC (if (!B.U)=true then (if (Dc (D.1<(1:Int)))=true then (some (.done (.go (D.1,D.2.2))))
 else (some (.go (I6.wrap (D.1 - (1:Int))))))
 else (some (.go D.1)))
 (λ(G:Int)=>(app 48 D.2.2 ([(⟨B.s,B.A,B.c,B.O,true⟩:Ah)])).bind λF=>
 some (.go (G,F))))
 (λ(I:Int × List Ah)=>some (.go (I.1,I6.wrap (D.2.1+(1:Int)),I.2))))
 else (some (.done (.go D.2.2)))) (q:f (keepL n l)=some z):bindC (loopO body (n,(0:Int),([]:List Ah))) f=some z:=by
 refine zG (λk (S:Int × Int × List Ah)=>(-9223372036854775808<=S.1/\S.1<=9223372036854775807)/\S.2.1=(k:Int)/\S.2.2.length<=k/\S.2.2++keepL S.1 (l.drop k)=keepL n l) l.length
  (λr=>r= .go (keepL n l)) ⟨m,rfl,by simp,by simp⟩ ?_ ?_ (λr t=>by simp_all)
 ·rintro k ⟨c,i,E⟩ e ⟨d,b,g,a⟩;simp only at d b g a;subst b;left;have p:I6.wrap ((k:Int)+(1:Int))=((k+1:Nat):Int):=by rw[za (by omega) (by omega)];omega
  have h: ∀x:Ah,app 48 E [x]=some (E++ [x]):=λx=>zg (by grind) (by grind);rw[By e,keepL]at a;rw[o];simp only[zb l k e,An];rw[if_pos (by simp_all),p];cases hs:l[k].U with
  | true=>rw[hs]at a;simp only[Bl,Ba,if_false,zd,An,h];exact ⟨_,rfl,d,rfl,by simp_all,by simpa[markL] using a⟩
  | false=>
    rw[hs]at a;simp only[cond_false]at a;cases j:Dc (c<1) with
    | true=>simp_all;omega
    | false=>rw[j]at a;have u:=of_decide_eq_false j;rw[za (n:=c - 1) (by omega) (by omega)];simp only[Bz,if_true,Ba,if_false,zd,An,h];exact ⟨_,rfl,by omega,rfl,by simp_all,by simpa[markL] using a⟩
 ·rintro ⟨c,i,E⟩ ⟨d,b,g,a⟩;simp only at b a;subst b;rw[Du,keepL,Df]at a;simp_all
def zoy (h:storeP s) (n:Int) (b:t∈s.a):(repS (keyOfV s.m t.q) (rep0 t) (ofLR t.q (keepL n s.u))).2=true:=by obtain ⟨q,c,e⟩:=zj3 s.u n;rw[e,zmE];have hs:(ofLR t.q q).Sublist (rowsV s t.q):=c.filter _;exact (h.tens t b).part hs
def zoz (h:storeP s) (n:Int): ∀r∈keepL n s.u,r.O.length<=1048576:=by intro r a;obtain ⟨q,b,rfl⟩:=zmv _ _ _ a;exact h.small.text q b
theorem set_loopP (g:α->α) (l:List α) (hl:l.length<=1000000) (b: ∀k (us:List α) (a:k<l.length),us.length=l.length->idx us (k:Int)=some l[k]->body ((k:Int),us)=some (.go (I6.wrap ((k:Int)+(1:Int)),us.set ((k:Nat):Int).toNat (g l[k])))) (e: ∀us:List α,us.length=l.length->body ((l.length:Int),us)=some (.done (.go us))) (h:f (l.map g)=some z):bindC (loopO body ((0:Int),l)) f=some z:=by
 refine zG (λk (S:Int × List α)=>S=((k:Int),(l.take k).map g++l.drop k)) l.length (λr=>r= .go (l.map g)) rfl ?_ ?_ (λr i=>by simp_all)
 ·rintro k _ a rfl;left;refine ⟨_,?_,rfl⟩;have c:((l.take k).map g++l.drop k).length=l.length:=by grind
  have d:((l.take k).map g++l.drop k)[k]'(by omega)=l[k]:=by rw[List.getElem_append_right (by grind),Dh];congr 1;grind
  rw[b k _ a c (by rw[zb _ k (by omega),d]),Bm,za (n:=(k:Int)+1) (by omega) (by omega)];congr 3;rw[zZ l k a,Db,Ej _ _ (by grind),Dk,Dp,show k - min k l.length=0 by omega,By a,Dy];simp
 ·simp_all
theorem zpZ (h:storeP s) (n:Int) (b: -9223372036854775808<=n/\n<=9223372036854775807):zep s n=some ((crashS s n).2,(crashS s n).1):=by
 have hs:=h.small;have i:=h.boot;have j:=h.rlen;have l:=zmu s.u n;obtain ⟨o,p,v⟩:=h.lens;unfold zep crashS;simp only[no_R,ge_iff_le];by_cases c:1000<=s.A
 ·simp_all
 ·rw[decide_eq_false c];simp only[Ba,if_false,cond_false];refine zug s.u n (by omega) b rfl ?_;refine set_loopP (λt=>crashT (keyOfV s.m t.q) (ofLR t.q (keepL n s.u)) t) s.a (by omega) (λk us d e hi=>?_) (λus e=>?_) ?_
  ·have B:=h.tens _ (Bf d);simp only[hi,An];have f:=zfX ⟨s.F,s.m,s.C,us,keepL n s.u,s.L,s.A⟩ s.a[k] (ofLR s.a[k].q (keepL n s.u)) (Dm (Cj _ _) (by omega)) (λr g=>zoz h n r (Cv.1 g).1) hs.slots B.eng B.start;have D:rowsV ⟨s.F,s.m,s.C,us,keepL n s.u,s.L,s.A⟩ s.a[k].q=ofLR s.a[k].q (keepL n s.u):=rfl;rw[if_pos (by grind),zes _ _ (by grind),An,D,f];rfl
  ·simp
  ·rw[za (n:=s.A+1) (by omega) (by omega)];rfl
theorem ztl (T:List Ah) (id:Int) (keys:At) (g:Aa) (Z:T.length<=1000000) (q: ∀r∈T,r.O.length<=1048576) (u:keys.D.length<=1048576) (v:engV g=true) (m:(repS (keyOfV keys id) g (ofLR id T)).2=true) {body:Int × Int × List Ac × List Int × List (List Ac)->Option (Ctl (Int × Int × List Ac × List Int × List (List Ac)) (Ctl (Int × List Ac × List Int × List (List Ac)) R))} {f:Int × List Ac × List Int × List (List Ac)->Option R} (w:body=λ(J:Int × Int × List Ac × List Int × List (List Ac))=>if (Dc (J.2.1<(T.length:Int)))=true then (bindC ((idx T J.2.1).bind λM=>
 if (!(Dc (M.s=id)))=true then (some (.go (J.1,J.2.2.1,J.2.2.2.1,J.2.2.2.2)))
 else ((zdF keys id).bind λV=>
 (zct V M.A M.c M.O).bind λW=>
 (zb6 (⟨J.2.2.1,J.2.2.2.2,J.1,J.2.2.2.1⟩:Aa) W.1).bind λN=>
 some (.go (N.1.c,N.1.x,N.1.B,N.1.t))))
 (λ(U:Int × List Ac × List Int × List (List Ac))=>some (.go (U.1,I6.wrap (J.2.1+(1:Int)),U.2.1,U.2.2.1,U.2.2.2))))
 else (some (.done (.go (J.1,J.2.2.1,J.2.2.2.1,J.2.2.2.2))))) (I:f ((repS (keyOfV keys id) g (ofLR id T)).1.c,(repS (keyOfV keys id) g (ofLR id T)).1.x,(repS (keyOfV keys id) g (ofLR id T)).1.B,(repS (keyOfV keys id) g (ofLR id T)).1.t)=some z):
  bindC (loopO body (g.c,(0:Int),g.x,g.B,g.t)) f=some z:=by
 have i: ∀k,(repS (keyOfV keys id) g (ofLR id (T.take k))).2=true:=by
  intro k;have y:ofLR id T=ofLR id (T.take k)++ofLR id (T.drop k):=by rw[<-zob,Ds]
  rw[y,zh3]at m;grind
 refine zG (λk (S:Int × Int × List Ac × List Int × List (List Ac))=>S=((repS (keyOfV keys id) g (ofLR id (T.take k))).1.c,(k:Int),(repS (keyOfV keys id) g (ofLR id (T.take k))).1.x,(repS (keyOfV keys id) g (ofLR id (T.take k))).1.B,(repS (keyOfV keys id) g (ofLR id (T.take k))).1.t)) T.length
  (λr=>r= .go ((repS (keyOfV keys id) g (ofLR id T)).1.c,(repS (keyOfV keys id) g (ofLR id T)).1.x,(repS (keyOfV keys id) g (ofLR id T)).1.B,(repS (keyOfV keys id) g (ofLR id T)).1.t)) rfl ?_ ?_ (λr m=>by simp_all)
 ·rintro k _ j rfl;left;refine ⟨_,?_,rfl⟩;have o:=zjf (keyOfV keys id) _ _ v (i k);obtain ⟨a,b,c,d,_⟩:=zbN o;have l:ofLR id (T.take (k+1))=ofLR id (T.take k)++(if Dc (T[k].s=id)=true then [T[k]] else []):=zdu _ T k j;have h:=i (k+1);rw[w];simp only[zb T k j,An];rw[if_pos (by simp_all),za (n:=(k:Int)+1) (by omega) (by omega),show (k:Int)+1=((k+1:Nat):Int) by omega];cases C:Dc (T[k].s=id) with
  | false=>simp_all
  | true=>
    rw[C]at l;simp only[if_true]at l;rw[l,zh3,i k]at h |-
    simp only[cond_true,repS]at h |-
    simp only[Bl,Ba,if_false,zgc keys id u,ziH _ _ _ _ (q _ (Bf j)),An];have E:(openB (keyOfV keys id) T[k].A T[k].c T[k].O).1.length<=1048576:=by
     rcases zoc (keyOfV keys id) T[k].A T[k].c T[k].O with ⟨_,p⟩ | p
     ·have:=(zb8 p).1;omega
     ·simp_all
    generalize (repS (keyOfV keys id) g (ofLR id (T.take k))).1=e at o a b c d h |-
    have F:=zfC e _ a b c d E;have G:zb6 ⟨e.x,e.t,e.c,e.B⟩ (openB (keyOfV keys id) T[k].A T[k].c T[k].O).1=some (putR e (openB (keyOfV keys id) T[k].A T[k].c T[k].O).1):=F;rw[G];cases H:(openB (keyOfV keys id) T[k].A T[k].c T[k].O).2&&(putR e (openB (keyOfV keys id) T[k].A T[k].c T[k].O).1).2 with
    | false=>rw[H]at h;cases h
    | true=>rfl
 ·simp_all
theorem zqn (h:storeP s) (n:Int) (i: -9223372036854775808<=n/\n<=9223372036854775807) (j: ¬1000<=s.A):zgi s n=some (crashS s n).1:=by
 have hs:=h.small;have v:=h.boot;have w:=h.rlen;have x:=zmu s.u n;obtain ⟨y,z,B⟩:=h.lens;unfold zgi crashS;rw[decide_eq_false j];simp only[cond_false];refine zuK s.u n (by omega) i rfl ?_;refine set_loopP (λt=>crashT (keyOfV s.m t.q) (ofLR t.q (keepL n s.u)) t) s.a (by omega) (λk us f l hi=>?_) (λus l=>?_) ?_
 ·have E:=h.tens _ (Bf f);have g:=zoy h n (Bf f);obtain ⟨a,b,c,d,e⟩:=zbN (zjf _ _ _ E.start g);simp only[hi,An];rw[if_pos (by grind)];refine ztl (keepL n s.u) s.a[k].q s.m (rep0 s.a[k]) (by omega) (zoz h n) hs.slots E.start g rfl ?_;have p:=zce (repS (keyOfV s.m s.a[k].q) (rep0 s.a[k]) (ofLR s.a[k].q (keepL n s.u))).1 a b e d;exact (congrArg (λo:Option Aa=>o.bind λD=>some (Ctl.go (I6.wrap ((k:Int)+(1:Int)),us.set ((k:Nat):Int).toNat (⟨s.a[k].q,s.a[k].J,s.a[k].G,D⟩:Af)))) p)
 ·simp_all
 ·rw[za (n:=s.A+1) (by omega) (by omega)]
def zqo (h:storeP s) (c:Ao) (i: -9223372036854775808<=c.N/\c.N<=9223372036854775807):zgj s c=some
    (bif Dc (c.E=1) then createS s c else bif Dc (c.E=12) then (syncS s,codeR 0) else bif Dc (c.E=14) then crashS s c.N else ownS s c):=by
 have hs:=h.small;have p:=h.rlen;unfold zgj;cases Dc (c.E=1) with
 | true=>simp only[if_true,zpo h c,An,cond_true]
 | false=>
 cases Dc (c.E=12) with
 | true=>
   simp only[Ba,if_false,if_true,cond_true,cond_false];unfold syncS;refine set_loop markL s.u (by omega) (λk us q l=>?_) (λus l=>?_) rfl
   ·simp only;rw[if_pos (by simp_all)];rfl
   ·simp_all
 | false=>
 cases Dc (c.E=14) with
 | true=>
   simp only[Ba,if_false,if_true,cond_true,cond_false,ge_iff_le,zfd];by_cases b:1000<=s.A
   ·unfold crashS;simp_all
   ·rw[zqn h c.N i b];unfold crashS;rw[decide_eq_false b];rfl
 | false=>
 simp only[Ba,if_false,cond_false,zqb h,zfd,An];unfold ownS;rcases zcY s.a c.s with ⟨j,d,e,f,_⟩ | ⟨e,_⟩
 ·rw[e,decide_eq_false (by omega)];simp only[Ba,if_false,cond_false];cases Dc (c.E=2) with
  | true=>
    simp only[if_true,zba,zhr s.C _ _ hs.shares,An,cond_true];unfold quotaS;cases Dc (0<=c.N/\c.N<=40) with
    | false=>rfl
    | true=>cases (setR s.C c.s c.N).2<;>rfl
  | false=>
    cases Dc (c.E=3) with
    | true=>
      simp only[Ba,if_false,if_true,zst,An,cond_true,cond_false,ge_iff_le];by_cases b:1000<=s.A
      ·unfold removeS;simp_all
      ·by_cases g:1000000<=s.m.H
       ·unfold removeS;simp_all
       ·rw[zns h j d b g,f];unfold removeS;rw[decide_eq_false b,decide_eq_false g];rfl
    | false=>
      cases Dc (c.E=4) with
      | true=>
        have t:=(h.tens _ (Bf d)).ep;simp only[Ba,if_false,if_true,zb s.a j d,An,cond_true,cond_false,zdX];unfold rotateS;rw[zo _ j d,f];by_cases o:s.a[j].J>=1000000
        ·simp_all
        ·rw[decide_eq_false o,za (n:=s.a[j].J+1) (by omega) (by omega)];rfl
      | false=>simp only[Ba,if_false,zjF h j d,An,cond_false];rfl
 ·simp_all
def znL (s:Ae) (i:Int) (ops:List Op):(writeS s i ops).1.m=s.m/\(writeS s i ops).1.C=s.C:=by
 unfold writeS;cases Dc (120<=s.L.length) with
 | true=>exact ⟨rfl,rfl⟩
 | false=>
 cases batchV ops with
 | false=>exact ⟨rfl,rfl⟩
 | true=>
 cases Dc ((bytesN (applyK (mapR (tenE s.a i).g (tenE s.a i).g.c) ops):Int)>quoV (-1) s.C (tenE s.a i).q) with
 | true=>exact ⟨rfl,rfl⟩
 | false=>
 have b:(roomS s i).m=s.m/\(roomS s i).C=s.C:=by unfold roomS;cases Dc (6<=(ofLR (tenE s.a i).q s.u).length)<;>exact ⟨rfl,rfl⟩
 cases okB (tenE (roomS s i).a i).g ops&& !Dc (sealB (keyOfV s.m (tenE s.a i).q) s.A ((tenE s.a i).g.c+1) ops= []) with
 | false=>exact ⟨rfl,rfl⟩
 | true=>exact b
theorem zrw (h:storeP s) (j:Nat) (b:j<s.a.length):zco s.a (j:Int)=some ((snapS s (j:Int)).2,(snapS s (j:Int)).1.a):=by
 have A:=h.tens _ (Bf b);have e:=A.snaps;unfold zco snapS;rw[zo _ j b,zb s.a j b];simp only[An,zs4 s.a[j].g.B s.a[j].g.c (by omega),no_R];cases Dc (s.a[j].g.c∈s.a[j].g.B) with
 | true=>rfl
 | false=>
   simp only[Ba,if_false,cond_false];by_cases d:2<=s.a[j].g.B.length
   ·grind
   ·rw[decide_eq_false (by omega),decide_eq_false d];simp only[Ba,if_false,cond_false];rw[zg (by grind) (by grind)];unfold withE withT;rw[zo _ j b];rfl
def zpg (s:Ae) (i:Int):(snapS s i).1=⟨s.F,s.m,s.C,(snapS s i).1.a,s.u,s.L,s.A⟩:=by
 unfold snapS;cases Dc ((tenE s.a i).g.c∈(tenE s.a i).g.B) with
 | true=>rfl
 | false=>cases Dc (2<=(tenE s.a i).g.B.length)<;>rfl
def zqG (s:Ae) (c:Ao) (j:Nat) (b:j<s.a.length) (d:atE s.a (tokR s.F c.Q).1=(j:Int)):
    callS s c=(bif !(tokR s.F c.Q).2.2|| !Dc (s.a[j].J=(tokR s.F c.Q).2.1) then (s,codeR 2) else tenS s (j:Int) c):=by unfold callS;rw[d,zo _ j b,decide_eq_false (by omega),Ep]
def zox (s:Ae) (c:Ao) (b:atE s.a (tokR s.F c.Q).1= -1):callS s c=(s,codeR 2):=by unfold callS;simp_all
theorem zrv (h:storeP s) (c:Ao) (p:c.Q.length<=1048576) (l:c.R.length<=1048576):zdi s c=some ((callS s c).2,(callS s c).1):=by
 unfold zdi;rw[ziD s.F c.Q (by omega)];simp only[An,zim h,no_R];rcases zcY s.a (tokR s.F c.Q).1 with ⟨j,b,e,_,_⟩ | ⟨e,_⟩
 ·rw[zqG s c j b e,e,decide_eq_false (by omega)];simp only[zb s.a j b,An];cases (tokR s.F c.Q).2.2 with
  | false=>rfl
  | true=>
    cases Dc (s.a[j].J=(tokR s.F c.Q).2.1) with
    | false=>rfl
    | true=>
      simp only[Bl,Ba,if_false,An,Ei,cond_false];have A:=h.tens _ (Bf b);have q:=A.snaps;have t:=zlm s.a[j].g s.a[j].g.c;have m:=zm3 A.eng s.a[j].g.c;unfold tenS;rw[zo _ j b];cases Dc (c.E=5) with
      | true=>simp only[if_true,zp2 h j b c l,An,cond_true];obtain ⟨n,o⟩:=znL s (j:Int) c.R;rw[<-n,<-o]
      | false=>
        cases Dc (c.E=6) with
        | true=>simp only[Ba,if_false,if_true,zrl s.a j b A.eng,An,cond_true,cond_false]
        | false=>
          cases Dc (c.E=7) with
          | true=>simp only[Ba,if_false,if_true,zmB s.a j b A.eng,zoO _ _ _ (show (mapR s.a[j].g s.a[j].g.c).length<=1048576 by omega),An,cond_true,cond_false]
          | false=>
            cases Dc (c.E=8) with
            | true=>simp only[Ba,if_false,if_true,zrw h j b,An,cond_true,cond_false];rw[<-zpg s (j:Int)]
            | false=>
              cases Dc (c.E=11) with
              | true=>simp only[Ba,if_false,if_true,zmB s.a j b A.eng,zjX _ m (show (mapR s.a[j].g s.a[j].g.c).length<=1048576 by omega),An,cond_true,cond_false]
              | false=>
                simp only[Ba,if_false,cond_false];unfold heldS;rw[zo _ j b];rcases ztc s.a[j].g.B c.N (by omega) with ⟨k,d,i,f⟩ | ⟨i,f⟩
                ·rw[i];simp only[An];rw[decide_eq_false (by omega),decide_eq_true (f ▸ Bf d:c.N∈s.a[j].g.B)];simp only[Ba,if_false,cond_true];cases Dc (c.E=10) with
                 | true=>simp only[if_true,zrl s.a j b A.eng,An,cond_true]
                 | false=>simp only[Ba,if_false,cond_false];rw[zua s.a[j].g.B k d (by omega),<-znP (ziL A.eng).2 k d,f];unfold withE withT;rw[zo _ j b];rfl
                ·grind
 ·rw[zox s c e,e];simp
theorem zpp (h:storeP s) (c:Ao) (t:c.R.length<=1048576) (j:Nat) (b:j<s.a.length):zfJ s (j:Int) c=some (tenS s (j:Int) c):=by
 have M:=h.tens _ (Bf b);have F:=M.snaps;have H:=zlm s.a[j].g s.a[j].g.c;have u:=zm3 M.eng s.a[j].g.c;have v:srtK (mapR s.a[j].g s.a[j].g.c):=zn6 M.eng _;obtain ⟨d,e,f,i,I⟩:=zbN M.eng;unfold zfJ tenS;rw[zo _ j b,zb s.a j b];simp only[An];cases Dc (c.E=5) with
 | true=>simp only[if_true,zos h j b c.R t,An,cond_true]
 | false=>
 cases Dc (c.E=6) with
 | true=>simp only[Ba,if_false,if_true,zk2 M.eng,An,cond_true,cond_false]
 | false=>
 cases Dc (c.E=7) with
 | true=>simp only[Ba,if_false,if_true,zhQ _ _ d e f i,zpv _ _ _ (show (mapR s.a[j].g s.a[j].g.c).length<=1048576 by omega),An,cond_true,cond_false]
 | false=>
 by_cases m:c.E=8
 ·have w: ¬c.E=11:=by omega
  rw[decide_eq_true m,decide_eq_false w];simp only[Ba,if_false,if_true,cond_true,cond_false];have y:((if (Dc (((s.a[j].g.B.length:Nat):Int)>=(2:Int)))=true then ((idx s.a[j].g.B (I6.wrap (((s.a[j].g.B.length:Nat):Int) - (1:Int)))).bind λO=>some (!(Dc (O=s.a[j].g.c)))) else (some false)):Option Bool)=some (Dc (2<=s.a[j].g.B.length)&& !Dc (s.a[j].g.c∈s.a[j].g.B)):=by
   by_cases A:2<=s.a[j].g.B.length
   ·rw[if_pos (decide_eq_true (by omega)),za (by omega) (by omega),show ((s.a[j].g.B.length:Nat):Int) - 1=((s.a[j].g.B.length - 1:Nat):Int) by omega,zb _ _ (by omega),decide_eq_true A];simp only[An,Ct];rw[decide_eq_decide.2 (zph (ziL M.eng).2 (by omega))]
   ·grind
  rw[y];unfold snapS;rw[zo _ j b];simp only[An,zfd,zpl _ d e f i];unfold snapR;by_cases l:s.a[j].g.c∈s.a[j].g.B
  ·rw[decide_eq_true l,if_pos M.eng,if_pos l];simp only[Bl,Bool.and_false,Ba,if_false,cond_true,Bm];have:s.a.set j ⟨s.a[j].q,s.a[j].J,s.a[j].G,s.a[j].g⟩=s.a:=List.set_getElem_self _;simp_all
  ·by_cases C:2<=s.a[j].g.B.length
   ·simp_all
   ·rw[decide_eq_false l,decide_eq_false C,if_pos M.eng,if_neg l,if_neg (show ¬s.a[j].g.B.length=4 by omega)];simp only[Bool.false_and,Ba,if_false,cond_false];unfold withE withT;rw[zo _ j b]
 ·rw[decide_eq_false m];cases Dc (c.E=11) with
  | true=>simp only[Ba,if_false,if_true,zhQ _ _ d e f i,zlM _ v u (show (mapR s.a[j].g s.a[j].g.c).length<=1000000 by omega),An,cond_true,cond_false]
  | false=>
    simp only[Ba,if_false,cond_false];rw[zgq (λx:Int=>decide (x=c.N)) s.a[j].g.B (by omega) (λ_=>bif Dc (c.E=10) then (s,valR s.a[j].g c.j c.N) else (withE s (j:Int) (dropS s.a[j].g.B c.N),codeR 0)) (z:=(s,codeR 5)) rfl (λk o=>?_) (by simp)]
    ·unfold heldS;rw[zo _ j b];grind
    ·simp only[zb s.a[j].g.B k o,An];rw[if_pos (by simp_all),za (n:=(k:Int)+1) (by omega) (by omega)];by_cases p:s.a[j].g.B[k]=c.N
     ·have D:c.N∈s.a[j].g.B:=p ▸ Bf o;rw[decide_eq_true p];simp only[Bl,Ba,if_false,if_true,zk2 M.eng,zpi _ _ d e f i,An];unfold engDropR withE withT;rw[if_pos M.eng,if_pos D,zo _ j b];cases Dc (c.E=10)<;>rfl
     ·simp_all
theorem zn1 (h:storeP s) (c:Ao) (b:smC c):zdx s c=some ((doS s c).2,(doS s c).1):=by
 unfold zdx doS;simp only[zP,no_R,An];cases i:Dc (c.E=1) with
 | true=>
   simp only[if_true,zoJ h c,An,cond_true];unfold createS;cases !Dc (1<=c.s/\c.s<=99)||(!Dc (0<=c.N/\c.N<=40)||(!Dc (c.j.length=32)||decide (atE s.a c.s>=0))) with
   | true=>rfl
   | false=>
     cases Dc (4<=s.a.length) with
     | true=>rfl
     | false=>cases (setR s.C c.s c.N).2<;>rfl
 | false=>
   simp only[Ba,if_false,cond_false];have l:=of_decide_eq_false i;by_cases d:c.E=12
   ·rw[decide_eq_true d,decide_eq_false (by omega),decide_eq_false (by omega: ¬c.E=13),decide_eq_false (by omega)];simp only[Ba,if_false,if_true,An,zrx h,cond_true];rfl
   ·by_cases e:c.E=14
    ·rw[decide_eq_false d,decide_eq_true e,decide_eq_false (by omega),decide_eq_false (by omega: ¬c.E=13),decide_eq_false (by omega)];simp only[Ba,if_false,if_true,An,zpZ h c.N b.num,cond_true,cond_false];unfold crashS;cases Dc (1000<=s.A)<;>rfl
    ·rw[decide_eq_false d,decide_eq_false e];simp only[zst,An,cond_false];cases Dc (2<=c.E/\c.E<=4)||decide (c.E=13) with
     | true=>
       simp only[if_true,zsc h c,An,cond_true];have k:(ownS s c).1.L=s.L:=by
        unfold ownS;cases Dc (atE s.a c.s<0) with
        | true=>rfl
        | false=>
        cases Dc (c.E=2) with
        | true=>simp only[cond_true,cond_false];unfold quotaS;grind
        | false=>
        cases Dc (c.E=3) with
        | true=>simp only[cond_true,cond_false];unfold removeS;grind
        | false=>
        cases Dc (c.E=4) with
        | true=>simp only[cond_true,cond_false];unfold rotateS;cases Dc ((tenE s.a (atE s.a c.s)).J>=1000000)<;>rfl
        | false=>rfl
       rw[<-k]
     | false=>
       simp only[Ba,if_false,cond_false];cases Dc (5<=c.E/\c.E<=11) with
       | true=>
         have f:(callS s c).1.m=s.m/\(callS s c).1.C=s.C:=by
          unfold callS;cases (!(tokR s.F c.Q).2.2||(Dc (atE s.a (tokR s.F c.Q).1<0)|| !Dc ((tenE s.a (atE s.a (tokR s.F c.Q).1)).J=(tokR s.F c.Q).2.1))) with
          | true=>exact ⟨rfl,rfl⟩
          | false=>
            unfold tenS;cases Dc (c.E=5) with
            | true=>exact znL _ _ _
            | false=>
            cases Dc (c.E=6) with
            | true=>exact ⟨rfl,rfl⟩
            | false=>
            cases Dc (c.E=7) with
            | true=>exact ⟨rfl,rfl⟩
            | false=>
            cases Dc (c.E=8) with
            | true=>simp only[cond_true,cond_false];rw[zpg];exact ⟨rfl,rfl⟩
            | false=>
            cases Dc (c.E=11) with
            | true=>exact ⟨rfl,rfl⟩
            | false=>simp only[cond_false];unfold heldS;cases Dc (c.N∈(tenE s.a (atE s.a (tokR s.F c.Q).1)).g.B)<;>cases Dc (c.E=10)<;>exact ⟨rfl,rfl⟩
         simp only[if_true,zrv h c b.tok b.ops,An,cond_true];rw[<-f.1,<-f.2]
       | false=>rfl
theorem zlP (h:storeP s) (c:Ao) (b:smC c):zhA s c=some (doS s c):=by
 unfold zhA doS;have g:(((zt c.E (1:Int) (4:Int)).bind λB=>if B=true then (some true) else ((zt c.E (12:Int) (14:Int)).bind λA=>some A)):Option Bool)=some (Dc (1<=c.E/\c.E<=4)||decide (12<=c.E/\c.E<=14)):=by simp only[zba,An];grind
 rw[g];simp only[zba,An,zfd];by_cases i:(1<=c.E/\c.E<=4)\/(12<=c.E/\c.E<=14)
 ·have d:(Dc (1<=c.E/\c.E<=4)||decide (12<=c.E/\c.E<=14))=true:=by simp_all
  rw[d];simp only[if_true,zqo h c b.num,An];grind
 ·have d:(Dc (1<=c.E/\c.E<=4)||decide (12<=c.E/\c.E<=14))=false:=by simp_all
  rw[d,decide_eq_false (by omega: ¬c.E=1),decide_eq_false (by omega: ¬c.E=12),decide_eq_false (by omega: ¬c.E=14),decide_eq_false (by omega: ¬(2<=c.E/\c.E<=4)),decide_eq_false (by omega: ¬c.E=13)];simp only[Ba,if_false,Ei,cond_false];cases Dc (5<=c.E/\c.E<=11) with
  | false=>rfl
  | true=>
    rw[znp s.F c.Q (by have:=b.tok;omega)];simp only[Bl,Ba,if_false,An,zqb h,cond_true];rcases zcY s.a (tokR s.F c.Q).1 with ⟨j,f,e,_,_⟩ | ⟨e,_⟩
    ·rw[zqG s c j f e,e,decide_eq_false (by omega: ¬(j:Int)<0)];simp only[zb s.a j f,An];cases (tokR s.F c.Q).2.2 with
     | false=>rfl
     | true=>
       cases Dc (s.a[j].J=(tokR s.F c.Q).2.1) with
       | false=>rfl
       | true=>simp only[Bl,Ba,if_false,An,zpp h c b.ops j f,Ei,cond_false]
    ·rw[zox s c e,e];cases (tokR s.F c.Q).2.2<;>rfl
theorem zr1 (h:storeP s) (n:Int):boundS (crashS s n).1:=by
 unfold crashS;cases Dc (1000<=s.A) with
 | true=>exact h.bound
 | false=>have a:=h.bound;have d:=zmu s.u n;have e:=a.rows;refine ⟨a.slots,a.shares,by simpa using a.tens,λt c=>?_,by grind,a.hist⟩;obtain ⟨u,b,rfl⟩:=Eh.1 c;exact zjf _ _ _ (h.tens u b).start (zoy h n b)
def zu4 (h:storeP s) (c:Ao):boundS (doS s c).1:=by
 unfold doS;cases Dc (c.E=1) with
 | true=>exact (zoA h c).bound
 | false=>
 cases Dc (c.E=12) with
 | true=>exact (zsQ h).bound
 | false=>
 cases Dc (c.E=14) with
 | true=>exact zr1 h _
 | false=>
 cases Dc (2<=c.E/\c.E<=4)||decide (c.E=13) with
 | true=>exact (ztW h c).bound
 | false=>
 cases Dc (5<=c.E/\c.E<=11) with
 | false=>exact h.bound
 | true=>exact (zrX h c).bound
def noStore:Ae:=⟨[],⟨[],[],0⟩,⟨0,[]⟩,[],[],[],0⟩
def oneS (s:Ae) (c:Ao):Ae × Ar:=bif storeV s then doS s c else (noStore,codeR 1)
def zjW (s:Ae) (hs:smallS s) (c:Ao) (a:smC c):ze6 s c=some (oneS s c):=by
 unfold ze6 oneS;rw[zoM s hs,An];cases b:storeV s with
 | false=>rfl
 | true=>have h:=(zi9 s).1 b;simp only[Bl,Ba,if_false,cond_true,znl h,zn1 h c a,An]
def zpq (s:Ae) (hs:smallS s) (c:Ao) (a:smC c):zhs s c=some (oneS s c):=by
 unfold zhs oneS;rw[zht s hs,An];cases b:storeV s with
 | false=>rfl
 | true=>have h:=(zi9 s).1 b;simp only[Bl,Ba,if_false,cond_true,zhz h,zlP h c a,zk0 (zu4 h c),An]
def zo2 {ρ:Type} {body:Int->Option (Ctl Int (Ctl Unit ρ))} (n:Nat) (h: ∀j:Nat,j<n->body (j:Int)=some (.go ((j+1:Nat):Int))) (a:body (n:Int)=some (.done (.go ()))): ∃t,loopO body (0:Int)=some (.go t)/\True:=by obtain ⟨r,c,e⟩:=zX (body:=body) (s0:=(0:Int)) (λj s=>s=(j:Int)) n (λr=>r= .go ()) rfl (λj s b hs=>.inl ⟨_,hs ▸ h j b,rfl⟩) (λs hs=>⟨_,hs ▸ a,rfl⟩);simp_all
def zvA (s:Ae) (i:Int):(roomS s i).F=s.F/\(roomS s i).m=s.m/\(roomS s i).C=s.C/\(roomS s i).A=s.A/\(roomS s i).L=s.L:=by unfold roomS;cases Dc (6<=(ofLR (tenE s.a i).q s.u).length)<;>exact ⟨rfl,rfl,rfl,rfl,rfl⟩
def storeP.pos (h:storeP s) {x:Af} (b:x∈s.a):1<=x.q:=by obtain ⟨y,c,e⟩:=h.slot b;have:=(((zbO _).1 h.keys).2.2.2.1 y c).1.1;omega
theorem bifP {P:α->Prop} {b:Bool} {p q:α} (a:P p) (c:P q):P (bif b then p else q):=by grind
def restP (s:Ae) (p:Ae × Ar):Prop:=p.1.F=s.F/\p.1.L.length<=s.L.length+1
def zwM (s:Ae) (c:Ao):restP s (doS s c):=by
 have z: ∀(a:Ae) (r:Ar),a.F=s.F->a.L=s.L->restP s (a,r):=λa r b e=>⟨b,by simp_all⟩;have d: ∀i,restP s (writeS s i c.R):=by intro i;unfold writeS;refine bifP (z s _ rfl rfl) (bifP (bifP (z s _ rfl rfl) (bifP ⟨(zvA s i).1,?_⟩ (z s _ rfl rfl))) (z s _ rfl rfl));show (s.L++ [_]).length<=_;simp
 unfold doS createS crashS ownS quotaS removeS rotateS callS tenS snapS heldS;repeat' (first | exact z _ _ rfl rfl | exact d _ | refine bifP ?_ ?_)
def runS:Ae->List Ao->List Ar
 | _,[]=>[]
 | s,c::l=>(doS s c).2::runS (doS s c).1 l
def endS:Ae->List Ao->Ae
 | s,[]=>s
 | s,c::l=>endS (doS s c).1 l
structure goodS (s:Ae) (n:Nat):Prop where
 p:storeP s
 y:syncP s.u
 h:s.L.length<=n
def goodS.next {n:Nat} (h:goodS s n) (c:Ao):goodS (doS s c).1 (n+1):=
 ⟨zu5 h.p h.y c,zv5 h.y c,by have:=(zwM s c).2;have:=h.h;omega⟩
def goodS.mono {n:Nat} (h:goodS s n) (a:n<=k):goodS s k:=⟨h.p,h.y,Dm h.h a⟩
def newS (secret h:List UInt8) (size:Int):Ae:=⟨secret,⟨h,[],0⟩,⟨size,[]⟩,[],[],[],0⟩
def newSOk (secret h:List UInt8) (size:Int):Bool:=Dc (secret.length=32)&&(Dc (h.length=32)&&Dc (0<=size/\size<=1000))
def playS (secret h:List UInt8) (size:Int) (l:List Ao):Ae × List Ar:=bif newSOk secret h size&&Dc (l.length<=120) then (endS (newS secret h size) l,runS (newS secret h size) l) else (noStore,[])
def ztR {A:List UInt8} {size:Int} (h:newSOk secret A size=true):goodS (newS secret A size) 0:=by unfold newSOk at h;rw[Bw,Bw]at h;have a:=of_decide_eq_true h.1;have b:=of_decide_eq_true h.2.1;have c:=of_decide_eq_true h.2.2;refine ⟨⟨a,(zbO _).2 ⟨b,Bo _,⟨Fc _,by show (0:Int)<=1000000;omega⟩,λx d=>(by trivial),List.Pairwise.nil⟩,?_,⟨Fc _,by show (0:Int)<=1000;omega⟩,Bo _,rfl,rfl,λt f=>(by trivial),λr e=>(by cases e)⟩,List.Pairwise.nil,Cy _⟩;rw[zf0];exact ⟨c,by simp[newS],λx d=>(by trivial),List.Pairwise.nil,by simp[allNeed,newS];omega⟩
def zw0 (l:List Ao) (s:Ae) (k:Nat) (a:k<l.length):runS s (l.drop k)=(doS s l[k]).2::runS (doS s l[k]).1 (l.drop (k+1)):=by rw[By a,runS]
def zwN (l:List Ao) (s:Ae) (k:Nat) (a:k<l.length):endS s (l.drop k)=endS (doS s l[k]).1 (l.drop (k+1)):=by rw[By a,endS]
def refP (s:Ae) (p:Ae × Ar):Prop:=p.2.T=0\/p.1=s
def bifQ {P:α->Prop} {b:Bool} {p q:α} (a:P p) (c:P q):P (bif b then p else q):=by cases b;exact c;exact a
def zxf (s:Ae) (c:Ao):refP s (doS s c):=by unfold doS createS ownS callS quotaS removeS rotateS tenS writeS snapS heldS crashS;repeat' (first | exact .inr rfl | exact .inl rfl | apply bifQ)
def zwD {tok:List UInt8} (h:(tokR secret tok).2.2=true):(tokR secret (tok++ [120])).2.2=false:=by
 have a:=zvO h;cases c:mintOk secret (tokR secret tok).1 (tokR secret tok).2.1 with
 | true=>
   have b:=a;unfold mintV at b;rw[c]at b;simp only[cond_true]at b;have d:tok++ [120]=varV (tokR secret tok).1++varV (tokR secret tok).2.1++((chaV secret (tokR secret tok).2.1 (nonceV 2 (tokR secret tok).1)).take 8++ [120]):=by rw[<-List.append_assoc,b]
   rw[d,zw8 c,<-d,a,decide_eq_false (by intro e;have:=congrArg Ea e;simp at this)];rfl
 | false=>unfold mintV at a;rw[c]at a;simp only[cond_false]at a;rw[<-a]at h;exact absurd h (by simp[tokR,readN])
def zvX {c:Ao} (a:5<=c.E/\c.E<=11) (b:(tokR s.F c.Q).2.2=false):(doS s c).2.T=2:=by unfold doS callS;rw[decide_eq_false (by omega: ¬c.E=1),decide_eq_false (by omega: ¬c.E=12),decide_eq_false (by omega: ¬c.E=14),decide_eq_false (by omega: ¬(2<=c.E/\c.E<=4)),decide_eq_false (by omega: ¬c.E=13),decide_eq_true a,b];rfl
def zvS {c:Ao} (h: ¬whoseV secret c=0):(5<=c.E/\c.E<=11)/\(tokR secret c.Q).2.2=true:=by
 unfold whoseV at h;by_cases a:5<=c.E/\c.E<=11
 ·rw[decide_eq_true a]at h;refine ⟨a,?_⟩;cases b:(tokR secret c.Q).2.2 with
  | true=>rfl
  | false=>exact absurd (zuO b) h
 ·rw[decide_eq_false a]at h;exact absurd rfl h
def zvI (secret h:List UInt8) (size:Int):zgd secret h size=some (bif newSOk secret h size then (newS secret h size,true) else (noStore,false)):=by
 unfold zgd newSOk;simp only[zba,len32,An];cases Dc (secret.length=32) with
 | false=>rfl
 | true=>
   cases Dc (h.length=32) with
   | false=>rfl
   | true=>cases Dc (0<=size/\size<=1000)<;>rfl
def znr (secret B:List UInt8) (size:Int) (l:List Ao) (hl:l.length<=1048576) (i: ∀c∈l,smC c):zfF secret B size l=some (playS secret B size l):=by
 unfold zfF playS;rw[zvI,An];cases j:newSOk secret B size with
 | false=>rfl
 | true=>
   simp only[cond_true,Bl,Ba,if_false,An,Ct];by_cases g:l.length<=120
   ·rw[decide_eq_false (by omega: ¬(l.length:Int)>120),decide_eq_true g];simp only[Ba,if_false,cond_true];refine zG (λk (S:List UInt8 × List UInt8 × Int × Int × Int × Int × List Ar × List A5 × List As × List Af × List Ah × List Ah)=>∃s E,S=(s.F,s.m.K,s.m.H,s.C.I,s.A,(k:Int),E,s.m.D,s.C.r,s.a,s.u,s.L)/\goodS s k/\E.length=k/\E++runS s (l.drop k)=runS (newS secret B size) l/\endS s (l.drop k)=endS (newS secret B size) l) l.length
     (λr=>∃s:Ae,storeP s/\s=endS (newS secret B size) l/\r= .go (s.F,s.m.K,s.m.H,s.C.I,s.A,runS (newS secret B size) l,s.m.D,s.C.r,s.a,s.u,s.L)) ⟨newS secret B size,[],rfl,ztR j,rfl,by simp,by simp⟩ ?_ ?_ ?_
    ·rintro k _ b ⟨s,E,rfl,hs,h,d,e⟩;left;rw[zw0 l s k b]at d;rw[zwN l s k b]at e;have f:=zlP hs.p l[k] (i _ (Bf b));have G:(⟨s.F,⟨s.m.K,s.m.D,s.m.H⟩,⟨s.C.I,s.C.r⟩,s.a,s.u,s.L,s.A⟩:Ae)=s:=rfl;refine ⟨_,?_,(doS s l[k]).1,E++ [(doS s l[k]).2],rfl,hs.next _,by simp[h],by simpa using d,e⟩;simp only[zb l k b,An,G,f];rw[if_pos (by simpa using b),zg (by simp only[Bh];omega) (by simp only[Bh];omega),za (n:=(k:Int)+1) (by omega) (by omega)];rfl
    ·rintro _ ⟨s,E,rfl,hs,h,d,e⟩;rw[Du,runS,Df]at d;rw[Du,endS]at e;refine ⟨.go (s.F,s.m.K,s.m.H,s.C.I,s.A,E,s.m.D,s.C.r,s.a,s.u,s.L),?_,s,hs.p,e,by rw[d]⟩;simp
    ·rintro _ ⟨s,f,hs,rfl⟩;rw[<-hs];have G:(⟨s.F,⟨s.m.K,s.m.D,s.m.H⟩,⟨s.C.I,s.C.r⟩,s.a,s.u,s.L,s.A⟩:Ae)=s:=rfl;simp only[zd,G,zhz f,An]
   ·rw[decide_eq_true (by omega:(l.length:Int)>120),decide_eq_false g];rfl
def zqJ: ∀(l:List Ao) (s:Ae) (n:Nat),goodS s n->goodS (endS s l) (n+l.length)
 | [],s,n,h=>h
 | c::l,s,n,h=>by have:=zqJ l _ _ (h.next c);rw[endS,Dq];exact this.mono (by omega)
def zuw (secret A:List UInt8) (size:Int) (l:List Ao):(playS secret A size l).1=noStore\/(storeP (playS secret A size l).1/\syncP (playS secret A size l).1.u):=by
 unfold playS;cases a:newSOk secret A size with
 | false=>exact .inl rfl
 | true=>
   cases Dc (l.length<=120) with
   | false=>exact .inl rfl
   | true=>have h:=zqJ l _ 0 (ztR a);exact .inr ⟨h.p,h.y⟩
def zrF (a:At) (h:a.D.length<=1048576):zf7 a a=some true:=by
 unfold zf7;simp only[decide_true,Bl,Ba,if_false,An];refine zbK (P:=λo=>o=some true) (λ_=>True) (zo2 a.D.length (λj b=>?_) ?_) λ_ _=>rfl
 ·simp only[zb a.D j b,An];rw[if_pos (by simpa using b),za (n:=(j:Int)+1) (by omega) (by omega)];simp
 ·simp
def zmK (a:Ae) (c:a.m.D.length<=1048576) (d:a.u.length<=1048576) (f:a.a.length<=1048576) (h:a.a.length<=a.C.r.length) (e: ∀t∈a.a,smallE t.g):zd7 a a=some true:=by
 unfold zd7;simp only[zrF a.m c,zti a.u a.u d,decide_true,Bl,Ba,if_false,An];refine zbK (P:=λo=>o=some true) (λ_=>True) (zo2 a.a.length (λj b=>?_) ?_) λ_ _=>rfl
 ·simp only[zb a.a j b,zb a.C.r j (by omega),zuH _ _ (e _ (Bf b)),decide_true,Bl,Ba,if_false,An,Bool.and_true];rw[if_pos (by simpa using b),za (n:=(j:Int)+1) (by omega) (by omega)];rfl
 ·simp
def zq6 (h:storeP s):zd7 s s=some true:=by obtain ⟨b,c,d⟩:=h.lens;have:=h.rlen;exact zmK s (by omega) (by omega) (by omega) (by omega) λt a=>zkd (h.tens t a).eng
structure drawT (tens:List Af) (rows:List Ah):Prop where
 tl:tens.length<=11
 ts: ∀t∈tens,smallT t
 rl:rows.length<=101
 rt: ∀r∈rows,r.O.length<=1048576
 sy:syncP rows
def zxk (secret A:List UInt8) (size:Int) (l:List Ao):(playS secret A size l).1.a.length<=10/\(playS secret A size l).1.u.length<=100/\drawT (playS secret A size l).1.a (playS secret A size l).1.u/\(playS secret A size l).1.m.D.length<=100/\(playS secret A size l).1.C.r.length<=100/\(playS secret A size l).1.L.length<=1000:=by
 rcases zuw secret A size l with h | ⟨h,c⟩
 ·rw[h];exact ⟨Bo _,Bo _,⟨Bo _,λt b=>(by cases b),Bo _,λt b=>(by cases b),List.Pairwise.nil⟩,Bo _,Bo _,Bo _⟩
 ·generalize (playS secret A size l).1=s at h c |-
  obtain ⟨e,f,g⟩:=h.lens;have i:=h.rlen;have d:=h.small;have j:=h.hist;exact ⟨by omega,by omega,⟨by omega,d.each,by omega,d.text,c⟩,by omega,by omega,by omega⟩
def ztq {x:Ah} {l:List Ah} (h:syncP l) (a:0<l.length) (c:x.U=l[0].U):syncP (l.set 0 x):=by
 cases l with
 | nil=>cases a
 | cons r l=>unfold syncP at*;rw[Dy];rw[Ev]at*;exact ⟨λb d=>by rw[c];exact h.1 b d,h.2⟩
def ztH {c:Bool} {x y:Option (Ctl T R)} (a:c=true->goO Q x) (b:c=false->goO Q y):goO Q (if c=true then x else y):=by
 cases c
 ·exact b rfl
 ·exact a rfl
def zum (b:List UInt8) (i h most:Int) (x:most<=1000) (hi:inB b i) (g:b.length<=1048576): ∃s i' k,zhC ⟨b,i,h⟩ most=some (s,⟨b,i',k⟩)/\smallS s/\syncP s.u/\inB b i':=by
 unfold zhC;obtain ⟨q,y,z,A,Z,B⟩:=zdc b i h [100,100,20] (by simp) hi g;obtain ⟨l,E,F,G,g2,H,I⟩:=zte b y z (Cg 32 115) most x B g;obtain ⟨x3,J,K,M,v⟩:=zcx b E F 10 I g;simp only[zj7,A,G,znr _ _ _ l (by omega) (λc j=>(H c j).sm),M,An];obtain ⟨N,Q,d,R,S,T⟩:=zxk (Cg 32 115) (Cg 32 109) q l;generalize (playS (Cg 32 115) (Cg 32 109) q l).1=s at N Q d R S T |-
 refine zbK (P:=λo=>∃(s:Ae) (i' k:Int),o=some (s,(⟨b,i',k⟩:Am))/\smallS s/\syncP s.u/\inB b i') (λt:List UInt8 × Int × Int × Int × List Af × List Ah=>inB b t.2.2.1/\drawT t.2.2.2.2.1 t.2.2.2.2.2) (zbc ?_ (zl ⟨v,d⟩)) λt e=>⟨_,_,_,rfl,⟨e.2.ts,by have:=e.2.rl;show t.2.2.2.2.2.length<=_;omega,e.2.rt,by have:=e.2.tl;show t.2.2.2.2.1.length<=_;omega,by show s.m.D.length<=_;omega,by show s.C.r.length<=_;omega,by show s.L.length<=_;omega⟩,e.2.sy,e.1⟩;obtain ⟨x4,U,V,W,_,w⟩:=zR b J K 6 v g;simp only[W,An];obtain ⟨x5,i5,h5,X,_,Y⟩:=zdc b U V [-1,1000,1001] (by simp) w g;simp only[X,An];refine zbK (P:=goO λt:List UInt8 × Int × Int × Int × List Af × List Ah=>inB b t.2.2.1/\drawT t.2.2.2.2.1 t.2.2.2.2.2) (λt:List UInt8 × Int × Int × Int × List Af × List Ah=>inB b t.2.2.1/\drawT t.2.2.2.2.1 t.2.2.2.2.2) (zbc (zl ⟨Y,d⟩) ?_) λt e=>zl e;have a0:drawT s.a (bif Dc ((s.u.length:Int)>0) then s.u else s.u):=by cases Dc ((s.u.length:Int)>0)<;>exact d
 refine zbK (P:=goO λt:List UInt8 × Int × Int × Int × List Af × List Ah=>inB b t.2.2.1/\drawT t.2.2.2.2.1 t.2.2.2.2.2) (λt:List UInt8 × List Af × List Ah=>drawT t.2.1 t.2.2) (zbc ?_ ?_) λt e=>zl ⟨w,e⟩
 ·refine zbK (P:=goO λt:List UInt8 × List Af × List Ah=>drawT t.2.1 t.2.2) (λr:List Ah=>drawT s.a r) (ztH (λj=>?_) λ_=>zl d) λt e=>zl e;have f:0<s.u.length:=by simpa using j
  have n:idx s.u 0=some s.u[0]:=zb s.u 0 f;simp only[n,An];refine zl ⟨d.tl,d.ts,by simpa using d.rl,λr p=>?_,?_⟩
  ·rcases Dj p with h | rfl
   ·exact d.rt r h
   ·show s.u[0].O.length<=_;exact d.rt _ (Bf f)
  ·exact ztq d.sy f rfl
 ·refine zbK (P:=goO λt:List UInt8 × List Af × List Ah=>drawT t.2.1 t.2.2) (λt:List UInt8 × List Af × List Ah=>drawT t.2.1 t.2.2) (zbc ?_ ?_) λt e=>zl e
  ·refine zbK (P:=goO λt:List UInt8 × List Af × List Ah=>drawT t.2.1 t.2.2) (λr:List Af=>drawT r s.u) (ztH (λj=>?_) λ_=>zl d) λt e=>zl e;have f:0<s.a.length:=by simpa using j
   have n:idx s.a 0=some s.a[0]:=zb s.a 0 f;simp only[n,An];refine zl ⟨by simpa using d.tl,λt e=>?_,d.rl,d.rt,d.sy⟩;rcases Dj e with h | rfl
   ·exact d.ts t h
   ·have:=d.ts _ (Bf f);exact ⟨this.mem,this.tables,this.total,this.snaps⟩
  ·refine zbK (P:=goO λt:List UInt8 × List Af × List Ah=>drawT t.2.1 t.2.2) (λt:List UInt8 × List Af × List Ah=>drawT t.2.1 t.2.2) (zbc ?_ ?_) λt e=>zl e
   ·rw[zg (by simp only[Bh];omega) (by simp only[Bh];omega)];refine zl ⟨by simp only[Dl,Bh];omega,λt e=>?_,d.rl,d.rt,d.sy⟩;rcases De.1 e with h | h
    ·exact d.ts t h
    ·rw[Ew]at h;subst h;exact ⟨Bo _,Bo _,by simp[totalV],Bo _⟩
   ·refine zbK (P:=goO λt:List UInt8 × List Af × List Ah=>drawT t.2.1 t.2.2) (λt:List UInt8 × List Ah=>drawT s.a t.2) (zbc ?_ (zl d)) λt e=>zl e;rw[zg (by simp only[Bh];omega) (by simp only[Bh];omega)];refine zl ⟨d.tl,d.ts,by simp only[Dl,Bh];omega,λr p=>?_,zrf d.sy _ rfl⟩;rcases De.1 p with h | h
    ·exact d.rt r h
    ·rw[Ew]at h;subst h;exact Bo _
def zpI (code:List UInt8) (a:code.length<=1048576): ∃s c,zew code=some (s,c)/\smallS s/\syncP s.u/\litC c:=by unfold zew;obtain ⟨q,b⟩:=zwf code a;obtain ⟨n,d,m,o⟩:=zvn code 24 a (by omega);obtain ⟨s,e,f,g,h,i,j⟩:=zum code 0 q n (by omega) (by unfold inB;omega) a;obtain ⟨c,p,t,k,l,v⟩:=zoX code e f (Cg 32 115) j a;simp only[b,d,g,zj7,k,An];exact ⟨s,c,rfl,h,i,l⟩
def zs1 (code:List UInt8):zfZ code=some true:=by
 unfold zfZ;rw[zxe,An];by_cases i:(code.length:Int)>1048576
 ·rw[decide_eq_true i];rfl
 ·rw[decide_eq_false i];obtain ⟨s,c,e,hs,l,a⟩:=zpI code (by omega);have v:=a.1;have m:smC ⟨c.E,c.Q++ [120],c.s,c.N,c.j,c.W,c.R⟩:=⟨by simp only[Dl,Bh];omega,a.sm.ops,a.sm.num⟩;simp only[Ba,if_false,e,An,zjW s hs c a.sm,zpq s hs c a.sm,zht s hs,zbx (s:=c.Q) (u:=[120]) (by simp only[Bh];omega),zjW s hs _ m,zry s.F c (by omega),decide_true,Bl];cases d:storeV s with
  | false=>
    have b:oneS s c=(noStore,codeR 1):=by unfold oneS;rw[d];rfl
    rw[b,zmK noStore (Bo _) (Bo _) (Bo _) (Cy _) λt n=>by cases n];rfl
  | true=>
    have h:=(zi9 s).1 d;have b: ∀c,oneS s c=doS s c:=λc=>by unfold oneS;rw[d];rfl
    have f:=zu5 h l c;have o:(if Dc (whoseV s.F c=0)=true then some true else some (Dc ((doS s ⟨c.E,c.Q++ [120],c.s,c.N,c.j,c.W,c.R⟩).2.T=2)))=some true:=by
     by_cases k:whoseV s.F c=0
     ·rw[decide_eq_true k];rfl
     ·obtain ⟨p,q⟩:=zvS k;rw[zvX (s:=s) (c:=⟨c.E,c.Q++ [120],c.s,c.N,c.j,c.W,c.R⟩) p (zwD q)];simp
    rw[b,b,zq6 f,zht _ f.small,(zi9 _).2 f];simp only[An,Bl,Ba,if_false,o];rcases zxf s c with g | g
    ·rw[g];rfl
    ·rw[g,zq6 h];cases Dc ((doS s c).2.T=0)<;>rfl
theorem FnStep_proved:Rows.FnStepSaid:=zs0 λcode _=>zs1 code
def goodS.step (h:goodS s k) (c:Ao) {p:Ae × Ar} (a:doS s c=p):goodS p.1 (k+1):=by subst a;exact h.next c
end Go.Proofs.YtmenicbkddagmaaGreat
