/-
  The plain laws: what the pure functions come to, and the statements. Conditions: none.
-/
import Derived.Test.YtdpainahgcdflaaGreatQzb
set_option linter.unusedVariables false
set_option linter.unusedSimpArgs false
set_option linter.defProp false
open Decidable renaming decide->Dc
open Option renaming bind_some->An,getD_some->Fh,map_some->Fj
open Bool renaming false_eq_true->Ba,not_true->Bl,true_and->Cg,and_eq_true->Cj,not_false->Cq,and_self->Ed,or_self->El,or_eq_false_iff->Et,false_or->Ev
open List renaming getElem_mem->Bf,drop_eq_getElem_cons->Bo,getElem_of_mem->Bt,length_filter_le->Bw,length_singleton->By,pairwise_iff_getElem->Bz,mem_filter->Ct,take_of_length_le->Cu,nil_append->Cv,getElem_set_self->Cx,findIdx?_eq_some_iff_getElem->Cy,append_nil->Da,filter_eq_self->Db,map_append->Dd,range->De,getElem?_eq_getElem->Dg,mem_map_of_mem->Dh,length_append->Di,map_cons->Dj,take_append_drop->Dk,length->Dl,getElem_drop->Dm,length_drop->Dn,takeWhile_cons->Do,mem_append->Dp,replicate->Dq,length_cons->Ds,drop_length->Du,filter_cons->Dx,length_map->Dy,take_set_of_le->Ea,drop_zero->Eb,append_assoc->Ec,map_take->Ee,map_drop->Eg,cons_append->Eh,length_take->Ei,all_eq_true->Ej,ext_getElem->Ek,range_succ_eq_map->Em,singleton_append->En,set_append_right->Eo,getElem?_set_ne->Ep,mem_cons->Eu,filter_append->Ew,set_cons_zero->Ey,getElem_of_eq->Ez,mem_map->Fc,set_set->Ff,getElem_map->Fi,length_nil->Fk,all_cons->Fq,all_map->Fs
open Int renaming toNat_natCast->Bh
open Nat renaming zero_le->Bm,le_refl->Bp,le_trans->Df,add_zero->Fa,mul_le_mul->Fl,sub_zero->Ft
open Option.some renaming injEq->Cr
open List.cons renaming inj->Fm
noncomputable section
open Go.IntKind renaming i64->I6
namespace Go.Proofs.YtdpainahgcdflaaGreat
open Go Sl
variable {s:Af} {α R:Type} {key:List UInt8} {z:R} {d:Ar} {t:Ae} {j:Nat} {e:Aa} {l:List α} {m:List KV} {ls:List (Option α)} {body:Int × List α->Option (Ctl (Int × List α) (Ctl (List α) R))} {f:List α->Option R}
theorem zk6 {l:List Op} (h:batchV l=true):zcB (showB l)=some (l,true):=by
 obtain ⟨⟨N,O⟩,C⟩:=zcd h;have P:=zlt h;have hs:(showB l).length<=1048576:=by omega
 have u:(showB l).drop 0=varV (l.length:Int)++(l.flatMap opB++ []):=by rw[Eb,Da];rfl
 have Q:=zc8 u;have D:l6V (showB l) 1 0=([(l.length:Int)],((0+(varV (l.length:Int)).length:Nat):Int)):=by have:=zwg (showB l) [(l.length:Int)] 0 (l.flatMap opB++ []) (λx a=>by rw[List.mem_singleton]at a;rw[a];omega) (Bm _) (by simpa using u);simp_all
 unfold zcB;rw[show zbN (showB l) (0:Int) (1:Int)=some (l6V (showB l) 1 0) from zgn (showB l) 0 1 (by omega) (by decide) (by decide),D];have E:idx [(l.length:Int)] (0:Int)=some (l.length:Int):=rfl;simp only[An];simp only[E];rw[decide_eq_false (by omega)];simp only[Ba,if_false,An];rw[decide_eq_false (by omega: ¬(l.length:Int)>6)];simp only[Ba,if_false];let p (k:Nat):Nat:=0+(varV (l.length:Int)).length+((l.take k).flatMap opB).length;have W: ∀k (c:k<l.length),(showB l).drop (p k)=opB l[k]++((l.drop (k+1)).flatMap opB++ []):=by
  intro k c;have:(l.flatMap opB++ []:List UInt8)=(l.take k).flatMap opB++(opB l[k]++((l.drop (k+1)).flatMap opB++ [])):=by
   conv=>lhs;rw[<-Dk k l,Bo c,List.flatMap_append,List.flatMap_cons]
   simp only[Ec,Da]
  grind
 refine zW (λk (S:Int × Int × List Op)=>S=(((p k:Nat):Int),(k:Int),l.take k)) l.length (λr=>r= .go l) (by simp[p]) ?_ ?_ ?_
 ·rintro k _ c rfl;left;have G:=C _ (Bf c);obtain ⟨⟨R,T⟩,U,H⟩:=zkp G;have i:=W k c;have v:l.take (k+1)=l.take k++ [l[k]]:=by rw[List.take_add_one,Dg c];rfl
  have w:p (k+1)=p k+(opB l[k]).length:=by grind
  have I:=congrArg Dl i;rw[Dn,Di]at I;have V:1<=(opB l[k]).length:=by unfold opB;cases l[k].M<;>simp<;>omega
  have y:p k<(showB l).length:=by omega
  simp only[decide_eq_true (by omega:(k:Int)<(l.length:Int)),if_true];rw[decide_eq_false (by omega: ¬((p k:Nat):Int)>=(((showB l).length:Nat):Int))];simp only[Ba,if_false,zdg (showB l) (p k) y,An];rw[za (n:=((p k:Nat):Int)+1) (by omega) (by omega),show ((p k:Nat):Int)+1=((p k+1:Nat):Int) by omega,zgm (showB l) (p k+1) (by omega) hs];simp only[An];refine ⟨(((p (k+1):Nat):Int),((k+1:Nat):Int),l.take (k+1)),?_,rfl⟩;have z:I6.wrap ((k:Int)+1)=((k+1:Nat):Int):=by rw[za (by omega) (by omega)];omega
  have A: ∀o:Op,app 40 (l.take k) [o]=some (l.take k++ [o]):=λo=>zg (by simp;omega) (by simp;omega);have B: ∀(x:UInt8) (r:List UInt8),(showB l).drop (p k)=x::r->(showB l)[p k]=x:=by intro x r a;rw[Bo y]at a;exact (Fm a).1
  cases e:l[k].M with
  | true=>
    have J:=H e;have f:opB l[k]= [1]++(pieceV l[k].g++ []):=by unfold opB;rw[e];simp
    have b:=i;rw[f]at b;simp only[Ec,En,Da,Eh,Cv]at b;have a:=B _ _ b;have d:(showB l).drop (p k+1)=pieceV l[k].g++(l.drop (k+1)).flatMap opB:=by have:(showB l).drop (p k)= [(1:UInt8)]++(pieceV l[k].g++(l.drop (k+1)).flatMap opB):=b;exact zc8 this
    have j:=congrArg Dl d;rw[Dn,Di]at j;have m:=zoq d (by omega) (by omega);have q:(opB l[k]).length=1+(pieceV l[k].g).length:=by rw[f];simp;omega
    rw[m,a];have s:((((1:UInt8)).toNat:Nat):Int)=1:=rfl;simp only[s,decide_true,Bl,Ba,if_false,zd];rw[decide_eq_false (by omega: ¬((p k+1+(pieceV l[k].g).length:Nat):Int)<0)];simp only[Ba,if_false,A,An,z];rw[v,w,q];have t:(⟨l[k].g,true,[]⟩:Op)=l[k]:=by rw[<-e,<-J]
    rw[t,Nat.add_assoc]
  | false=>
    have f:opB l[k]= [0]++(pieceV l[k].g++pieceV l[k].F):=by unfold opB;rw[e];simp
    have b:=i;rw[f]at b;simp only[Ec,En,Da,Eh,Cv]at b;have a:=B _ _ b;have d:(showB l).drop (p k+1)=pieceV l[k].g++(pieceV l[k].F++(l.drop (k+1)).flatMap opB):=by have:(showB l).drop (p k)= [(0:UInt8)]++(pieceV l[k].g++(pieceV l[k].F++(l.drop (k+1)).flatMap opB)):=b;exact zc8 this
    have j:=congrArg Dl d;rw[Dn,Di,Di]at j;have K:=zc8 d;have m:=zoq d (by omega) (by omega);have L:=zoq K (by omega) (by omega);have q:(opB l[k]).length=1+((pieceV l[k].g).length+(pieceV l[k].F).length):=by rw[f];simp;omega
    rw[m,a];have s:((((0:UInt8)).toNat:Nat):Int)=0:=rfl;simp only[s,decide_eq_false (by decide: ¬(0:Int)=1),Cq,if_true];rw[zgm (showB l) (p k+1+(pieceV l[k].g).length) (by omega) hs,L];simp only[An,zd];rw[decide_eq_false (by omega)];simp only[Ba,if_false,A,An,z];rw[v,w,q];have t:(⟨l[k].g,false,l[k].F⟩:Op)=l[k]:=by rw[<-e]
    rw[t];congr 3;omega
 ·rintro _ rfl;exact ⟨.go l,by simp,rfl⟩
 ·rintro r rfl;simp only[zd];rw[decide_eq_false (by omega: ¬(l.length:Int)=0),zgy l (by omega)];have:shownB l=showB l:=by unfold shownB;simp_all
  simp[this]
def zrG (s:List UInt8) (hs:s.length<=1048576):zcB s=some (readB s):=by
 obtain ⟨r,a,h | h⟩:=zmZ s hs
 ·obtain ⟨c,d,e⟩:=h;rw[a,<-e,zq9 d,<-c]
 ·rw[a,h];cases b:(readB s).2 with
  | false=>rw[zpi b]
  | true=>obtain ⟨f,g⟩:=zpj b;have:=zk6 f;simp_all
def fstV (p:α->Bool) (l:List α):Int:=match l.findIdx? p with
 | some j=>(j:Int)
 | none=>-1
theorem zhb (p:α->Bool) (l:List α) (hl:l.length<=1048576) {body:Int->Option (Ctl Int (Ctl Unit R))} (g:Int->R) {f:Unit->Option R} (m:f ()=some z) (h: ∀k (a:k<l.length),body (k:Int)=some (if p l[k]=true then .done (.done (g (k:Int))) else .go ((k:Int)+1))) (b:body (l.length:Int)=some (.done (.go ()))):
 bindC (loopO body 0) f=some (match l.findIdx? p with | some j=>g (j:Int) | none=>z):=by
 have key: ∀(n k:Nat),k+n=l.length->(∀i (hi:i<l.length),i<k->p l[i]=false)->bindC (loopO body (k:Int)) f=some (match l.findIdx? p with | some j=>g (j:Int) | none=>z):=by
  intro n;induction n with
  | zero=>
    intro k a c;have:k=l.length:=by omega
    subst this;rw[zz,b];have:l.findIdx? p=none:=by rw[List.findIdx?_eq_none_iff];intro x d;obtain ⟨i,hi,rfl⟩:=Bt d;simp_all
    rw[this];trivial
  | succ n ih=>
    intro k a c;have e:k<l.length:=by omega
    rw[zz,h k e];cases o:p l[k] with
    | true=>
      have:l.findIdx? p=some k:=by rw[Cy];simp_all
      simp_all
    | false=>simp only[Ba,if_false];have:=ih (k+1) (by omega) (λi hi q=>by grind);trivial
 exact key l.length 0 (by omega) (λi _ h=>by omega)
theorem znj (l:List Ae) (id:Int) (h:l.length<=1048576):zcY l id=some (fstV (λt=>decide (t.p=id)) l):=by unfold zcY fstV;refine zhb (λt:Ae=>decide (t.p=id)) l h (λj=>j) rfl (λk a=>?_) (by simp);simp only[zb l k a,An];rw[if_pos (by simp_all),za (by omega) (by omega)];grind
theorem zkz (s:Af) (id:Int) (h:s.a.length<=1048576):zbw s id=some (fstV (λt=>decide (t.p=id)) s.a):=by
 unfold zbw zbu fstV;rw[zhb (λt:Ae=>decide (t.p=id)) s.a h (λj=>j) rfl (λk b=>?_) (by simp)]
 ·rfl
 ·simp only[zb s.a k b,An,zhL];rw[if_pos (by simp_all),za (by omega) (by omega)];grind
theorem ziI (d:Ar) (t:Int) (h:d.x.length<=1048576):ze0 d t=some (fstV (λx=>decide (x.r=t)) d.x):=by
 unfold ze0 zbx fstV;rw[zhb (λx:Ao=>decide (x.r=t)) d.x h (λj=>j) rfl (λk a=>?_) (by simp)]
 ·rfl
 ·simp only[zb d.x k a,An,zjy];rw[if_pos (by simp_all),za (by omega) (by omega)];grind
def zpd (n:Int):zbp n=some (Dc (0<=n/\n<=1000000)):=by unfold zbp;rw[z6];rfl
def zhz (d:Ar):zcD d=zbo d:=by unfold zcD zbo;simp only[zpd,zpe,zbm,ge_iff_le]
def zww (d:Ar) (h:d.x.length<=1048576): ∃b,zbo d=some b:=by
 unfold zbo;simp only[zbm,An];have a: ∃B,(if (!(Dc ((d.K.length:Int)=(32:Int))))=true then (some true)
  else (if (Dc ((d.x.length:Int)>(4:Int)))=true then (some true)
 else (some (!Dc (0<=d.H/\d.H<=1000000)))))=some B:=by
  split
  ·trivial
  ·split<;>exact ⟨_,rfl⟩
 obtain ⟨B,a⟩:=a;rw[a];simp only[An];cases B with
 | true=>exact ⟨_,rfl⟩
 | false=>
   simp only[Ba,if_false];refine zwy (zwU (λk s=>s=(k:Int)) d.x.length rfl ?_ ?_) (λ_=>⟨_,rfl⟩)
   ·rintro k _ c rfl;simp only[zb d.x k c,An];rw[if_pos (by simp_all)];have e: ∃b,(if (!Dc (1<=d.x[k].r/\d.x[k].r<=99))=true then (some true)
     else (if (!(Dc (((d.x[k].g.length:Nat):Int)=(32:Int))))=true then (some true)
 else (if (Dc ((k:Int)>(0:Int)))=true then ((idx d.x (I6.wrap ((k:Int) - (1:Int)))).bind λA=>
 some (Dc (A.r>=d.x[k].r)))
 else (some false))))=some b:=by
     split
     ·trivial
     ·split
      ·trivial
      ·by_cases i:0<k
       ·rw[if_pos (by simp_all),za (n:=(k:Int) - 1) (by omega) (by omega),show (k:Int) - 1=((k - 1:Nat):Int) by omega,zb d.x (k - 1) (by omega)]
        simp
       ·simp_all
    obtain ⟨b,f⟩:=e
    rw[f]
    simp only[An]
    cases b with
    | true=>exact .inr ⟨_,rfl⟩
    | false=>exact .inl ⟨_,rfl,by rw[za (by omega) (by omega)];omega⟩
   ·simp
def keysV (d:Ar):Bool:=(zbo d).getD false
def zft (d:Ar) (h:d.x.length<=1048576):zbo d=some (keysV d):=by obtain ⟨b,a⟩:=zww d h;unfold keysV;rw[a];rfl
def keyOfV (d:Ar) (t:Int):List UInt8:=bif keysV d then (match d.x.findIdx? (λx=>decide (x.r=t)) with | some j=>((d.x[j]?).map Ao.g).getD [] | none=>[]) else []
theorem zg1 (d:Ar) (t:Int) (h:d.x.length<=1048576):zdO d t=some (keyOfV d t):=by
 unfold zdO keyOfV;simp only[zft d h,An];cases keysV d with
 | false=>rw[zz];simp
 | true=>
   simp only[cond_true];rw[zhb (λx:Ao=>decide (x.r=t)) d.x h (λj=>((d.x[j.toNat]?).map Ao.g).getD []) (z:=[]) rfl (λk a=>?_) (by simp)]
   ·rfl
   ·simp only[decide_eq_true (by omega),if_true,An,zb d.x k a,Bh,Dg a,Fj,Fh];rw[za (by omega) (by omega)];grind
def zjw (d:Ar) (t:Int) (h:d.x.length<=1048576):zhE d t=some (keyOfV d t):=by
 unfold zhE keyOfV;rw[ziI d t h,zhz,zft d h];simp only[An];unfold fstV;cases b:d.x.findIdx? (λx=>decide (x.r=t)) with
 | none=>cases keysV d<;>rfl
 | some j=>
   have a:j<d.x.length:=(Cy.1 b).1;simp only;rw[decide_eq_false (by omega)];simp only[Ba,if_false,An];cases keysV d with
   | false=>rfl
   | true=>simp[zb d.x j a,Dg a]
def zu2 (t:List UInt8):((readB t).2=true/\batchV (readB t).1=true/\(showB (readB t).1)=t)\/readB t=([],false):=by
 cases h:(readB t).2 with
 | true=>exact .inl ⟨rfl,zpj h⟩
 | false=>exact .inr (zpi h)
theorem zjP (key:List UInt8) (boot seq:Int) (s:List UInt8) (h:s.length<=1048576):zcA key boot seq s=some (openB key boot seq s):=by
 unfold zcA openB;have hs:=zpo key 0 (placeN boot seq) s;have f:=zrG (streamV key 0 (placeN boot seq) s) (by omega);have g: ¬s.length<=300->readB (streamV key 0 (placeN boot seq) s)=([],false):=by
  intro c;rcases zu2 (streamV key 0 (placeN boot seq) s) with ⟨_,d,i⟩ | h
  ·have b:=zlt d;have a:=zu8 d;rw[i]at b a;unfold streamV at b a;cases e:streamOk key 0 (placeN boot seq) s.length with
   | true=>rw[e,cond_true,zck]at b;omega
   | false=>rw[e]at a;exact absurd rfl a
  ·exact h
 simp only[zoo,ziq,len32,An,zjN key 0 _ s (by omega)];unfold placeN at f g;unfold placeN;grind
def zp2 (key:List UInt8) (boot seq:Int) (s:List UInt8):((openB key boot seq s).2=true/\batchV (openB key boot seq s).1=true)\/openB key boot seq s=([],false):=by
 unfold openB;cases Dc (key.length=32)&&(placeV boot seq&&Dc (s.length<=300)) with
 | false=>exact .inr rfl
 | true=>
   rcases zu2 (streamV key 0 (placeN boot seq) s) with ⟨a,b,_⟩ | h
   ·simp_all
   ·simp_all
def repS (key:List UInt8):Aa->List Ah->Aa × Bool
 | e,[]=>(e,true)
 | e,r::rs=>bif (openB key r.A r.b r.L).2&&(putR e (openB key r.A r.b r.L).1).2 then repS key (putR e (openB key r.A r.b r.L).1).1 rs else (⟨[],[],0,[]⟩,false)
theorem zkP {l:List Op} (h:(putR e l).2=true):engV e=true/\batchV l=true/\okB e l=true/\(putR e l).1=engB e l:=by
 unfold putR at h |-
 grind
theorem zt0 (key:List UInt8) (tabs:List (List Ac)) (rows:List Ah) (p:rows.length<=1048576) (g: ∀r∈rows,r.L.length<=1048576) {body:Int × Int × List Ac->Option (Ctl (Int × Int × List Ac) (Ctl (Int × List Ac) (Aa × Bool)))} (e:body=λ(B:Int × Int × List Ac)=>if (Dc (B.2.1<(rows.length:Int)))=true then ((idx rows B.2.1).bind λD=>
 (zea key D.A D.b D.L).bind λG=>
 (if (!G.2)=true then (some (B.1,true,B.2.2))
 else ((zdD (⟨B.2.2,tabs,B.1,[]⟩:Aa) G.1).bind λE=>
 some (E.2.b,!E.1,E.2.s))).bind (λ(F:Int × Bool × List Ac)=>
 if F.2.1=true then (some (.done (.done ((⟨[],[],0,[]⟩:Aa),false))))
 else (some (.go (F.1,I6.wrap (B.2.1+(1:Int)),F.2.2)))))
 else (some (.done (.go (B.1,B.2.2))))):
  ∀(n k:Nat) (seq:Int) (mem:List Ac),k+n=rows.length->engV ⟨mem,tabs,seq,[]⟩=true->
   bindC (loopO body (seq,(k:Int),mem)) (λ(I:Int × List Ac)=>some ((⟨I.2,tabs,I.1,[]⟩:Aa),true))=some (repS key ⟨mem,tabs,seq,[]⟩ (rows.drop k)):=by
 intro n;induction n with
 | zero=>
   intro k seq mem i a;have:k=rows.length:=by omega
   subst this;rw[zz,e];simp[bindC,repS]
 | succ n ih=>
   intro k seq mem i a;have c:k<rows.length:=by omega
   rw[zz,Bo c];have j:body (seq,(k:Int),mem)=some (bif (openB key rows[k].A rows[k].b rows[k].L).2&&(putR ⟨mem,tabs,seq,[]⟩ (openB key rows[k].A rows[k].b rows[k].L).1).2 then
    .go ((putR ⟨mem,tabs,seq,[]⟩ (openB key rows[k].A rows[k].b rows[k].L).1).1.b,(k:Int)+1,(putR ⟨mem,tabs,seq,[]⟩ (openB key rows[k].A rows[k].b rows[k].L).1).1.s)
    else .done (.done (⟨[],[],0,[]⟩,false))):=by
    rw[e]
    simp only[zb rows k c,An,zoM key _ _ _ (g _ (Bf c))]
    rw[if_pos (by simp_all),za (n:=(k:Int)+1) (by omega) (by omega)]
    rcases zp2 key rows[k].A rows[k].b rows[k].L with ⟨l,d⟩ | h
    ·rw[l];simp only[Bl,Ba,if_false,Cg,zr3 _ _ a d,An];unfold putR;grind
    ·simp_all
   rw[j];simp only[repS];cases m:((openB key rows[k].A rows[k].b rows[k].L).2&&(putR ⟨mem,tabs,seq,[]⟩ (openB key rows[k].A rows[k].b rows[k].L).1).2) with
   | false=>rfl
   | true=>
     simp only[cond_true];have d:=(Cj _ _ ▸ m:_/\_).2;obtain ⟨q,t,u,o⟩:=zkP d;have f:=zsm a (openB key rows[k].A rows[k].b rows[k].L).1;rw[o]at f |-
     have:=ih (k+1) _ _ (by omega) f;trivial
def rep0 (t:Ae):Aa:=⟨[],t.c.q,t.E,[]⟩
def zgB (s:Af) (t:Ae) (rows:List Ah) (a:rows.length<=1048576) (b: ∀r∈rows,r.L.length<=1048576) (d:s.j.x.length<=1048576) (e:engV t.c=true) (f:engV (rep0 t)=true):
    zcx s t rows=some (repS (keyOfV s.j t.p) (rep0 t) rows):=by unfold zcx;obtain ⟨h,i,k,l,g⟩:=zbC e;rw[zhP t.c (by omega) (by omega) g (by omega),zjw s.j t.p d];simp only[An];have:=zt0 (keyOfV s.j t.p) t.c.q rows a b rfl rows.length 0 t.E [] (by omega) f;trivial
def rowsV (s:Af) (id:Int):List Ah:=s.B.filter λr=>decide (r.r=id)
theorem zeG (s:Af) (id:Int) (h:s.B.length<=1048576):zcl s id=some (rowsV s id):=by
 unfold zcl rowsV;refine zW (λk (S:Int × List Ah)=>S=((k:Int),(s.B.take k).filter λr=>decide (r.r=id))) s.B.length (λr=>r= .go (s.B.filter λr=>decide (r.r=id))) rfl ?_ ?_ (λr b=>by simp_all)
 ·rintro k _ a rfl;left;refine ⟨_,?_,rfl⟩;have hl:=zmx (λr:Ah=>decide (r.r=id)) s.B k;simp only[zb s.B k a,An];rw[if_pos (by simp_all),za (n:=(k:Int)+1) (by omega) (by omega),zlD _ s.B k a];cases c:Dc (s.B[k].r=id) with
  | false=>simp[bindC]
  | true=>rw[if_pos rfl,zg (by grind) (by grind)];rfl
 ·simp
def chkS (key:List UInt8) (base:Int):Int->Aa->List Ah->Aa × Bool
 | _,e,[]=>(e,true)
 | n,e,r::rs=>bif ((openB key r.A r.b r.L).2&&(putR e (openB key r.A r.b r.L).1).2)&&Dc (r.b=base+(n+1)) then chkS key base (n+1) (putR e (openB key r.A r.b r.L).1).1 rs else (⟨[],[],0,[]⟩,false)
theorem zx0 (s:Af) (t:Ae) (key:List UInt8) (x:s.B.length<=1048576) (i: ∀r∈s.B,r.L.length<=1048576) (y:0<=t.E/\t.E<=1000000) {body:Int × Int × Int × List Ac × List (List Ac) × List Int->Option (Ctl (Int × Int × Int × List Ac × List (List Ac) × List Int) (Ctl (Int × Int × List Ac × List (List Ac) × List Int) Bool))} (d:body=λ(J:Int × Int × Int × List Ac × List (List Ac) × List Int)=>if (Dc (J.2.2.1<(s.B.length:Int)))=true then (bindC ((idx s.B J.2.2.1).bind λM=>
 if (!(Dc (M.r=t.p)))=true then (some (.go (J.1,J.2.1,J.2.2.2.1,J.2.2.2.2.1,J.2.2.2.2.2)))
 else ((zcA key M.A M.b M.L).bind λT=>
 (zcc (⟨J.2.2.2.1,J.2.2.2.2.1,J.2.1,J.2.2.2.2.2⟩:Aa) T.1).bind λN=>
 (if (!T.2)=true then (some (true,J.2.2.2.2.1))
 else (if (!N.2)=true then (some (true,J.2.2.2.2.1))
 else (some (!(Dc (M.b=I6.wrap (t.E+(I6.wrap (J.1+(1:Int)))))),J.2.2.2.2.1)))).bind (λ(U:Bool × List (List Ac))=>
 if U.1=true then (some (.done (.done (.done false))))
 else (some (.go (I6.wrap (J.1+(1:Int)),N.1.b,N.1.s,N.1.q,N.1.t))))))
 (λ(O:Int × Int × List Ac × List (List Ac) × List Int)=>some (.go (O.1,O.2.1,I6.wrap (J.2.2.1+(1:Int)),O.2.2.1,O.2.2.2.1,O.2.2.2.2))))
 else (some (.done (.go (J.1,J.2.1,J.2.2.2.1,J.2.2.2.2.1,J.2.2.2.2.2))))):
  ∀(n k:Nat) (I:Int) (e:Aa),k+n=s.B.length->smallE e->(0<=I/\I<=(k:Int))->
   loopO body (I,e.b,(k:Int),e.s,e.q,e.t)=some (bif (chkS key t.E I e ((s.B.drop k).filter λr=>decide (r.r=t.p))).2 then
    .go (I+(((s.B.drop k).filter λr=>decide (r.r=t.p)).length:Int),(chkS key t.E I e ((s.B.drop k).filter λr=>decide (r.r=t.p))).1.b,(chkS key t.E I e ((s.B.drop k).filter λr=>decide (r.r=t.p))).1.s,(chkS key t.E I e ((s.B.drop k).filter λr=>decide (r.r=t.p))).1.q,(chkS key t.E I e ((s.B.drop k).filter λr=>decide (r.r=t.p))).1.t)
    else .done false):=by
 intro n;induction n with
 | zero=>
   intro k I e j hs l;have:k=s.B.length:=by omega
   subst this;rw[zz,d];simp[chkS]
 | succ n ih=>
   intro k I e j hs l;have a:k<s.B.length:=by omega
   have f:I6.wrap ((k:Int)+1)=((k+1:Nat):Int):=by rw[za (by omega) (by omega)];omega
   have m:I6.wrap (I+1)=I+1:=za (by omega) (by omega);have o:I6.wrap (t.E+(I+1))=t.E+(I+1):=za (by omega) (by omega);rw[zz,Bo a];by_cases c:s.B[k].r=t.p
   ·rw[List.filter_cons_of_pos (by grind)];have u:(openB key s.B[k].A s.B[k].b s.B[k].L).1.length<=1048576:=by
     rcases zp2 key s.B[k].A s.B[k].b s.B[k].L with ⟨_,v⟩ | h
     ·have:=(zcd v).1;omega
     ·grind
    obtain ⟨z,C,D,F⟩:=id hs;have w:=zgg e (openB key s.B[k].A s.B[k].b s.B[k].L).1 (by omega) (by omega) (by omega) (by omega) u;have g:body (I,e.b,(k:Int),e.s,e.q,e.t)=some (bif ((openB key s.B[k].A s.B[k].b s.B[k].L).2&&(putR e (openB key s.B[k].A s.B[k].b s.B[k].L).1).2)&&Dc (s.B[k].b=t.E+(I+1)) then
     .go (I+1,(putR e (openB key s.B[k].A s.B[k].b s.B[k].L).1).1.b,((k+1:Nat):Int),(putR e (openB key s.B[k].A s.B[k].b s.B[k].L).1).1.s,(putR e (openB key s.B[k].A s.B[k].b s.B[k].L).1).1.q,(putR e (openB key s.B[k].A s.B[k].b s.B[k].L).1).1.t)
     else .done (.done false)):=by
     rw[d]
     simp only[zb s.B k a,An,zjP key _ _ _ (i _ (Bf a)),w,f,m,o]
     rw[if_pos (by grind),if_neg (by grind)]
     cases (openB key s.B[k].A s.B[k].b s.B[k].L).2<;>cases (putR e (openB key s.B[k].A s.B[k].b s.B[k].L).1).2<;>cases Dc (s.B[k].b=t.E+(I+1))<;>rfl
    rw[g];simp only[chkS];cases G:(((openB key s.B[k].A s.B[k].b s.B[k].L).2&&(putR e (openB key s.B[k].A s.B[k].b s.B[k].L).1).2)&&Dc (s.B[k].b=t.E+(I+1))) with
    | false=>rfl
    | true=>simp only[cond_true];rw[ih (k+1) (I+1) _ (by omega) (zw2 hs _) (by omega)];grind
   ·rw[List.filter_cons_of_neg (by grind)];have g:body (I,e.b,(k:Int),e.s,e.q,e.t)=some (.go (I,e.b,((k+1:Nat):Int),e.s,e.q,e.t)):=by rw[d];simp only[zb s.B k a,An,f];rw[if_pos (by grind),if_pos (by grind)];rfl
    grind
theorem zv1 (key:List UInt8) (base:Int): ∀(h:List Ah) (n:Int) (e:Aa),chkS key base n e h=bif (repS key e h).2&&((De h.length).all λi=>match h[i]? with | some r=>decide (r.b=base+(n+1+i)) | none=>true) then ((repS key e h).1,true) else (⟨[],[],0,[]⟩,false)
 | [],n,e=>rfl
 | r::h,n,e=>by
   have a:((De (r::h).length).all λi=>match (r::h)[i]? with | some r=>decide (r.b=base+(n+1+i)) | none=>true)=(Dc (r.b=base+(n+1))&&((De h.length).all λi=>match h[i]? with | some r=>decide (r.b=base+(n+1+1+i)) | none=>true)):=by rw[Ds,Em,Fq,Fs];grind
   rw[a];simp only[chkS,repS];rw[zv1 key base h (n+1)];grind
def seqsV (base:Int) (h:List Ah):Bool:=(De h.length).all λi=>match h[i]? with | some r=>decide (r.b=base+(0+1+i)) | none=>true
def tenV (s:Af) (t:Ae):Bool:=
 (Dc (0<=t.I/\t.I<=1000000)&&Dc (0<=t.E/\t.E<=1000000))&&((Dc (t.c.t.length<=2)&&Dc (t.c.q.length<=1))&&(engV t.c&&
   ((Dc ((rowsV s t.p).length<=6)&&Dc (t.E+((rowsV s t.p).length:Int)=t.c.b))&&(seqsV t.E (rowsV s t.p)&&(engV (rep0 t)&&((repS (keyOfV s.j t.p) (rep0 t) (rowsV s t.p)).2&&Dc ((repS (keyOfV s.j t.p) (rep0 t) (rowsV s t.p)).1.s=t.c.s)))))))
def zuu (a b:List Ac) (h:a.length<=1048576):zdM a b=some (Dc (a=b)):=by unfold zdM;have:=zgA a b (λx y=>some (Dc (x.g=y.g)&&(Dc (x.b=y.b)&&(Dc (x.M=y.M)&&(Dc (x.F=y.F)&&true))))) (λx y _ _=>by congr 1;obtain ⟨c,d,e,f⟩:=x;obtain ⟨i,j,k,l⟩:=y;simp) (by omega);trivial
theorem zx7 (h:List Ah) (base:Int) (g:0<=base/\base<=1000000) (hl:h.length<=1048576) {body:Int->Option (Ctl Int (Ctl Unit Bool))} (c:body=λ(A:Int)=>if (Dc (A<(h.length:Int)))=true then ((idx h A).bind λB=>
 if (!(Dc (B.b=I6.wrap (I6.wrap (base+A)+(1:Int)))))=true then (some (.done (.done false)))
 else (some (.go (I6.wrap (A+(1:Int))))))
 else (some (.done (.go ())))) (f:Unit->Option Bool):
  bindC (loopO body 0) f=bif seqsV base h then f () else some false:=by
 have e: ∀k (a:k<h.length),body (k:Int)=some (if (Dc (h[k].b=base+(0+1+(k:Int))))=true then .go ((k:Int)+1) else .done (.done false)):=by intro k a;rw[c];simp only[zb h k a,An];rw[if_pos (by simp_all),za (n:=base+(k:Int)) (by omega) (by omega),za (n:=base+(k:Int)+1) (by omega) (by omega),za (n:=(k:Int)+1) (by omega) (by omega),show base+(k:Int)+1=base+(0+1+(k:Int)) by omega];grind
 have key: ∀(n k:Nat),k+n=h.length->bindC (loopO body (k:Int)) f=bif ((De n).all λi=>match h[k+i]? with | some r=>decide (r.b=base+(0+1+((k+i:Nat):Int))) | none=>true) then f () else some false:=by
  intro n;induction n with
  | zero=>
    intro k a;have:k=h.length:=by omega
    subst this;rw[zz,c];simp
  | succ n ih=>
    intro k a;have d:k<h.length:=by omega
    rw[zz,e k d,Em,Fq,Fs];simp only[Fa,Dg d];cases Dc (h[k].b=base+(0+1+(k:Int))) with
    | false=>rfl
    | true=>simp only[if_true,Cg];rw[show (k:Int)+1=((k+1:Nat):Int) by omega,ih (k+1) (by omega)];grind
 have:=key h.length 0 (by omega);simp only[Nat.zero_add]at this;trivial
def zl7 (key:List UInt8): ∀(B:List Ah) (e:Aa),engV e=true->(repS key e B).2=true->engV (repS key e B).1=true
 | [],e,h,_=>h
 | r::B,e,h,a=>by
   simp only[repS]at a |-
   cases c:(openB key r.A r.b r.L).2&&(putR e (openB key r.A r.b r.L).1).2 with
   | false=>rw[c]at a;cases a
   | true=>rw[c]at a;exact zl7 key B _ (zsm h _) a
structure smallT (t:Ae):Prop where
 mem:t.c.s.length<=1048576
 tables:t.c.q.length<=1048576
 total:totalV t.c.q<=1048576
 snaps:t.c.t.length<=1048576
structure smallS (s:Af):Prop where
 each: ∀t∈s.a,smallT t
 rows:s.B.length<=1048576
 text: ∀r∈s.B,r.L.length<=1048576
 tens:s.a.length<=1048576
 slots:s.j.x.length<=1048576
 shares:s.u.m.length<=1048576
 hist:s.J.length<=1048576
theorem zny (s:Af) (t:Ae) (hs:smallS s) (a:smallT t):zeH s t=some (tenV s t):=by
 unfold zeH tenV;simp only[zpd,zm9 t.c a.mem a.tables a.total a.snaps,zeG s t.p hs.rows,An];cases v:Dc (0<=t.I/\t.I<=1000000) with
 | false=>rfl
 | true=>
 cases i:Dc (0<=t.E/\t.E<=1000000) with
 | false=>rfl
 | true=>
 have k:=of_decide_eq_true i;have l:Dc ((t.c.t.length:Int)>(2:Int))= !Dc (t.c.t.length<=2):=by grind
 have m:Dc ((t.c.q.length:Int)>(1:Int))= !Dc (t.c.q.length<=1):=by grind
 rw[l,m];cases Dc (t.c.t.length<=2) with
 | false=>rfl
 | true=>
 cases Dc (t.c.q.length<=1) with
 | false=>rfl
 | true=>
 cases o:engV t.c with
 | false=>rfl
 | true=>
 have f:(rowsV s t.p).length<=1048576:=Df (Bw _ _) hs.rows;have u:Dc ((((rowsV s t.p).length:Nat):Int)>(6:Int))= !Dc ((rowsV s t.p).length<=6):=by grind
 simp only[Bl,Ba,if_false,An,Ed,Cg];rw[u,za (n:=t.E+(((rowsV s t.p).length:Nat):Int)) (by omega) (by omega)];cases Dc ((rowsV s t.p).length<=6) with
 | false=>rfl
 | true=>
 cases Dc (t.E+(((rowsV s t.p).length:Nat):Int)=t.c.b) with
 | false=>rfl
 | true=>
 simp only[Bl,Ba,if_false,An,Ed,Cg];rw[zx7 (rowsV s t.p) t.E k f rfl];cases seqsV t.E (rowsV s t.p) with
 | false=>rfl
 | true=>
 simp only[cond_true,Cg];have g:=zm9 (rep0 t) (by simp[rep0]) (by simpa[rep0] using a.tables) (by simpa[rep0] using a.total) (by simp[rep0]);unfold rep0 at g;rw[g];simp only[An];cases d:engV ⟨[],t.c.q,t.E,[]⟩ with
 | false=>simp[rep0,d]
 | true=>
 rw[zgB s t (rowsV s t.p) f (λr e=>hs.text r (Ct.1 e).1) hs.slots o d];simp only[An,Bl,Ba,if_false];have h:engV (rep0 t)=true:=d;rw[h];cases e:(repS (keyOfV s.j t.p) (rep0 t) (rowsV s t.p)).2 with
 | false=>rfl
 | true=>have:=zoi (zl7 _ _ _ h e);rw[if_pos rfl,zuu _ _ (by have:=this.1;omega)];rfl
def mineV (s:Af) (t:Ae):Bool:=
 Dc (t.c.q.length<=1)&&((Dc ((rowsV s t.p).length<=6)&&Dc (t.E+((rowsV s t.p).length:Int)=t.c.b))&&(seqsV t.E (rowsV s t.p)&&(engV (rep0 t)&&((repS (keyOfV s.j t.p) (rep0 t) (rowsV s t.p)).2&&Dc ((repS (keyOfV s.j t.p) (rep0 t) (rowsV s t.p)).1.s=t.c.s)))))
def zw8 (key:List UInt8) (B:List Ah) (e:Aa) (h:(repS key e B).2=true) (c:B≠[]):engV e=true:=by
 cases B with
 | nil=>exact absurd rfl c
 | cons r B=>
   simp only[repS]at h;cases a:(openB key r.A r.b r.L).2&&(putR e (openB key r.A r.b r.L).1).2 with
   | false=>rw[a]at h;cases h
   | true=>rw[Cj]at a;exact (zkP a.2).1
theorem zyu {X:Type} (a b:List Ac) (x:X) (hl:a.length=b.length) (h:a.length<=1048576) {body:Int × X->Option (Ctl (Int × X) (Ctl Unit Bool))} (d:body=λ(A:Int × X)=>if (Dc (A.1<(a.length:Int)))=true then ((idx a A.1).bind λB=>
 (idx b A.1).bind λD=>
 if (!(Dc (B.g=D.g)&&(Dc (B.b=D.b)&&(Dc (B.M=D.M)&&(Dc (B.F=D.F)&&true)))))=true then (some (.done (.done false)))
 else (some (.go (I6.wrap (A.1+(1:Int)),A.2))))
 else (some (.done (.go ())))) (f:Unit->Option Bool):bindC (loopO body (0,x)) f=bif Dc (a=b) then f () else some false:=by
 have key: ∀(n k:Nat),k+n=a.length->bindC (loopO body ((k:Int),x)) f=bif Dc (a.drop k=b.drop k) then f () else some false:=by
  intro n;induction n with
  | zero=>
    intro k j;have:k=a.length:=by omega
    subst this;rw[zz,d,Du,hl,Du];simp
  | succ n ih=>
    intro k j;have e:k<a.length:=by omega
    have i:k<b.length:=by omega
    have E:(Dc (a[k].g=b[k].g)&&(Dc (a[k].b=b[k].b)&&(Dc (a[k].M=b[k].M)&&(Dc (a[k].F=b[k].F)&&true))))=Dc (a[k]=b[k]):=by generalize a[k]=y;generalize b[k]=z;obtain ⟨m,o,p,q⟩:=y;obtain ⟨s,t,u,v⟩:=z;simp
    have l:body ((k:Int),x)=some (if (Dc (a[k]=b[k]))=true then .go (((k+1:Nat):Int),x) else .done (.done false)):=by rw[d];simp only[zb a k e,zb b k i,An,E];rw[if_pos (by simp_all),za (n:=(k:Int)+1) (by omega) (by omega)];grind
    rw[zz,l,Bo e,Bo i];by_cases c:a[k]=b[k]
    ·grind
    ·rw[decide_eq_false c,decide_eq_false λh=>c (Fm h).1];rfl
 have:=key a.length 0 (by omega);trivial
def zrs (s:Af) (t:Ae) (hs:smallS s) (g:smallT t) (a:engV t.c=true) (k:0<=t.E/\t.E<=1000000):ziy s t=some (mineV s t):=by
 unfold ziy;obtain ⟨D,m,n,F⟩:=zoi a;have u:smallE (rep0 t):=⟨by simp[rep0],m,n,by simp[rep0]⟩;have hl:=zx0 s t (keyOfV s.j t.p) hs.rows hs.text k rfl s.B.length 0 0 (rep0 t) (by omega) u (by omega);rw[Eb,zv1]at hl;rw[zg1 s.j t.p hs.slots,An];refine Eq.trans (congrArg (λo=>bindC o _) hl) ?_;have v:((De (s.B.filter λr=>decide (r.r=t.p)).length).all λi=>match (s.B.filter λr=>decide (r.r=t.p))[i]? with | some r=>decide (r.b=t.E+(0+1+(i:Int))) | none=>true)=seqsV t.E (rowsV s t.p):=rfl;have w:(s.B.filter λr=>decide (r.r=t.p))=rowsV s t.p:=rfl;rw[v,w];unfold mineV;cases x:(repS (keyOfV s.j t.p) (rep0 t) (rowsV s t.p)).2 with
 | false=>simp[bindC]
 | true=>
 cases G:seqsV t.E (rowsV s t.p) with
 | false=>simp[bindC]
 | true=>
 simp only[Ed,cond_true,zd];have H:(rowsV s t.p).length<=1048576:=Df (Bw _ _) hs.rows;by_cases J:(repS (keyOfV s.j t.p) (rep0 t) (rowsV s t.p)).1.s.length=t.c.s.length
 ·rw[decide_eq_true (by omega:(((repS (keyOfV s.j t.p) (rep0 t) (rowsV s t.p)).1.s.length:Nat):Int)=(t.c.s.length:Int))];simp only[Bl,Ba,if_false,An];by_cases d:t.c.q.length<=1
  ·rw[decide_eq_false (by omega: ¬(t.c.q.length:Int)>1),decide_eq_true d];simp only[Ba,if_false,Cg];rw[zyu _ _ _ J (by have:=g.mem;omega) rfl];by_cases I:(repS (keyOfV s.j t.p) (rep0 t) (rowsV s t.p)).1.s=t.c.s
   ·rw[decide_eq_true I];simp only[cond_true];by_cases e:(rowsV s t.p).length<=6
    ·rw[decide_eq_true (by omega:(0:Int)+(((rowsV s t.p).length:Nat):Int)<=6),decide_eq_true e,if_pos rfl,za (by omega) (by omega),Int.zero_add];by_cases cs:t.E+(((rowsV s t.p).length:Nat):Int)=t.c.b
     ·have y:engV (rep0 t)=true:=by
       cases f:rowsV s t.p with
       | cons r M=>exact zw8 _ _ _ x (by rw[f];simp)
       | nil=>
         rw[f]at I cs;have z:t.c.s= []:=I.symm;have A:t.E=t.c.b:=by simpa using cs
         have:=zhB a (l:=[]) (by simp) rfl;have C:rep0 t= {t.c with t:=[]}:=by unfold rep0;rw[A,<-z]
         rw[C];exact this
      rw[decide_eq_true cs,y];rfl
     ·rw[decide_eq_false cs];simp
    ·rw[decide_eq_false (by omega: ¬(0:Int)+(((rowsV s t.p).length:Nat):Int)<=6),decide_eq_false e];simp
   ·rw[decide_eq_false I];simp
  ·rw[decide_eq_true (by omega:(t.c.q.length:Int)>1),decide_eq_false d];simp
 ·rw[decide_eq_false (by omega: ¬(((repS (keyOfV s.j t.p) (rep0 t) (rowsV s t.p)).1.s.length:Nat):Int)=(t.c.s.length:Int)),decide_eq_false (λh=>J (congrArg Dl h): ¬(repS (keyOfV s.j t.p) (rep0 t) (rowsV s t.p)).1.s=t.c.s)];simp
def slotP (s:Af) (i:Nat):Bool:=match s.a[i]?,s.j.x[i]?,s.u.m[i]? with
 | some t,some k,some h=>decide (t.p=k.r)&&(Dc (t.p=h.r)&&tenV s t)
 | _,_,_=>false
def zmY (s:Af) (i:Nat) (b:i<s.a.length) (c:i<s.j.x.length) (d:i<s.u.m.length):slotP s i=(Dc (s.a[i].p=s.j.x[i].r)&&(Dc (s.a[i].p=s.u.m[i].r)&&tenV s s.a[i])):=by unfold slotP;simp_all
def bodyS (s:Af):Bool:=(De s.a.length).all (slotP s)&&s.B.all λr=>decide (0<=fstV (λt:Ae=>decide (t.p=r.r)) s.a)
theorem zyk (s:Af) (t:Ae):tenV s t=((Dc (0<=t.I/\t.I<=1000000)&&Dc (0<=t.E/\t.E<=1000000))&&(engV t.c&&(Dc (t.c.t.length<=2)&&mineV s t))):=by unfold tenV mineV;grind
def storeV (s:Af):Bool:=
 (Dc (s.C.length=32)&&(keysV s.j&&(sharesV s.u&&(Dc (0<=s.A/\s.A<=1000)&&(Dc (s.J.length<=120)&&(Dc (s.a.length=s.j.x.length)&&Dc (s.a.length=s.u.m.length)))))))&&bodyS s
theorem zth (s:Af) (hs:smallS s) {body:Int->Option (Ctl Int (Ctl Unit Bool))} (g:Int->Option Int) (b: ∀id,g id=some (fstV (λt:Ae=>decide (t.p=id)) s.a)) (c:body=λ(h:Int)=>if (Dc (h<(s.B.length:Int)))=true then ((idx s.B h).bind λA=>
 (g A.r).bind λD=>
 if (Dc (D<(0:Int)))=true then (some (.done (.done false)))
 else (some (.go (I6.wrap (h+(1:Int))))))
 else (some (.done (.go ())))):
  bindC (loopO body 0) (λ(_:Unit)=>some true)=some (s.B.all λr=>decide (0<=fstV (λt:Ae=>decide (t.p=r.r)) s.a)):=by
 have e:=hs.rows;rw[passes (ρ:=Unit) s.B (λr=>decide (0<=fstV (λt:Ae=>decide (t.p=r.r)) s.a)) body (λk d=>?_) (by simp_all)]
 ·cases s.B.all λr=>decide (0<=fstV (λt:Ae=>decide (t.p=r.r)) s.a)<;>rfl
 ·rw[c];simp only[zb s.B k d,An,b];rw[if_pos (by simp_all),za (n:=(k:Int)+1) (by omega) (by omega)];grind
def lenI (a b:Nat):Dc (((a:Nat):Int)=((b:Nat):Int))=Dc (a=b):=decide_eq_decide.2 (by omega)
theorem histI (a:Nat):Dc (((a:Nat):Int)>(120:Int))= !Dc (a<=120):=by grind
theorem snapI (a:Nat):Dc (((a:Nat):Int)>(2:Int))= !Dc (a<=2):=by grind
def zqA (s:Af) (hs:smallS s):zhK s=some (storeV s):=by
 unfold zhK storeV;have g:=hs.shares;simp only[zhz,zft s.j hs.slots,zbE s.u hs.shares,z8 s.u hs.shares,z6,len32,lenI,histI,An];cases Dc (s.C.length=32) with
 | false=>rfl
 | true=>
 cases keysV s.j with
 | false=>rfl
 | true=>
 cases sharesV s.u with
 | false=>rfl
 | true=>
 cases Dc (0<=s.A/\s.A<=1000) with
 | false=>rfl
 | true=>
 cases Dc (s.J.length<=120) with
 | false=>rfl
 | true=>
 cases e:Dc (s.a.length=s.j.x.length) with
 | false=>rfl
 | true=>
 cases f:Dc (s.a.length=s.u.m.length) with
 | false=>rfl
 | true=>
 have h:=of_decide_eq_true e;have i:=of_decide_eq_true f;have l:=hs.tens;simp only[Bl,Ba,if_false,An,Cg];rw[ziC (slotP s) s.a.length (λk b=>?_) (by simp)]
 ·unfold bodyS;cases (De s.a.length).all (slotP s) with
  | false=>rfl
  | true=>simp only[if_true,zd,Cg];exact zth s hs (zbw s) (λid=>zkz s id hs.tens) rfl
 ·have c:k<s.j.x.length:=by omega
  have d:k<s.u.m.length:=by omega
  rw[zmY s k b c d];simp only[zb s.a k b,zb s.j.x k c,zb s.u.m k d,An,zny s _ hs (hs.each _ (Bf b))];rw[if_pos (by simp_all),za (n:=(k:Int)+1) (by omega) (by omega),decide_eq_decide.2 (eq_comm (a:=s.j.x[k].r)),decide_eq_decide.2 (eq_comm (a:=s.u.m[k].r))];cases Dc (s.a[k].p=s.j.x[k].r)<;>cases Dc (s.a[k].p=s.u.m[k].r)<;>cases tenV s s.a[k]<;>rfl
theorem zro (s:Af) (hs:smallS s):zit s=some (storeV s):=by
 unfold zit storeV;have h:=hs.shares;simp only[zft s.j hs.slots,z8 s.u hs.shares,zbm,len32,lenI,histI,An];cases Dc (s.C.length=32) with
 | false=>rfl
 | true=>
 cases keysV s.j with
 | false=>rfl
 | true=>
 cases sharesV s.u with
 | false=>rfl
 | true=>
 cases f:Dc (s.a.length=s.j.x.length) with
 | false=>simp
 | true=>
 cases g:Dc (s.a.length=s.u.m.length) with
 | false=>simp
 | true=>
 cases Dc (0<=s.A/\s.A<=1000) with
 | false=>rfl
 | true=>
 cases Dc (s.J.length<=120) with
 | false=>rfl
 | true=>
 have i:=of_decide_eq_true f;have l:=of_decide_eq_true g;have o:=hs.tens;simp only[Bl,Ba,if_false,An,Cg];rw[ziC (slotP s) s.a.length (λk b=>?_) (by simp)]
 ·unfold bodyS;cases (De s.a.length).all (slotP s) with
  | false=>rfl
  | true=>simp only[if_true,zd,Cg];exact zth s hs (zcY s.a) (λid=>znj s.a id hs.tens) rfl
 ·have d:k<s.j.x.length:=by omega
  have e:k<s.u.m.length:=by omega
  have B:=hs.each _ (Bf b);rw[zmY s k b d e,zyk];simp only[zb s.a k b,zb s.j.x k d,zb s.u.m k e,An,zb2 _ B.mem B.tables B.total B.snaps,snapI];rw[if_pos (by simp_all),za (n:=(k:Int)+1) (by omega) (by omega)];cases Dc (s.a[k].p=s.j.x[k].r) with
  | false=>rfl
  | true=>
  cases Dc (s.a[k].p=s.u.m[k].r) with
  | false=>rfl
  | true=>
  cases Dc (0<=s.a[k].I/\s.a[k].I<=1000000) with
  | false=>rfl
  | true=>
  cases D:Dc (0<=s.a[k].E/\s.a[k].E<=1000000) with
  | false=>rfl
  | true=>
  cases F:engV s.a[k].c with
  | false=>rfl
  | true=>
  rw[zrs s _ hs B F (of_decide_eq_true D)];grind
def zsK {w:α->Nat} {n:Nat} (h:wS w l<=n): ∀x∈l,w x<=n:=by intro x a;have b:l.length+(l.map w).sum<=n:=h;have:=ze8 w a;omega
def zpn (s:Af) (h:zdT s<=1048576):smallS s:=by
 have i:s.C.length+(zX s.j+(zbh s.u+(wS zbg s.a+(wS zD s.B+(wS zD s.J+0)))))<=1048576:=h;refine ⟨λt f=>?_,zbJ (w:=zD) (by omega),λr g=>?_,zbJ (w:=zbg) (by omega),?_,?_,zbJ (w:=zD) (by omega)⟩
 ·have e:=zsK (w:=zbg) (n:=1048576) (by omega) t f;have k:zdz t.c+0<=1048576:=e;obtain ⟨a,b,c,d⟩:=zut t.c (by omega);exact ⟨a,b,c,d⟩
 ·have e:=zsK (w:=zD) (n:=1048576) (by omega) r g;trivial
 ·have e:zX s.j<=1048576:=by omega
  unfold zX at e;exact zbJ (w:=zbO) (by omega)
 ·have e:zbh s.u<=1048576:=by omega
  trivial
theorem zlR (p:α->Bool) (l:List α):(∃j,∃a:j<l.length,fstV p l=(j:Int)/\p l[j]=true/\∀i (hi:i<j),p (l[i]'(by omega))=false)\/(fstV p l= -1/\∀x∈l,p x=false):=by
 unfold fstV;cases h:l.findIdx? p with
 | none=>exact .inr ⟨rfl,by simp_all⟩
 | some j=>obtain ⟨a,b,c⟩:=Cy.1 h;grind
def wholeO (l:List α) (k:Nat) (ls:List (Option α)):Prop:=ls.length=l.length/\∀i (hi:i<l.length),k<=i->ls[i]? =some (some l[i])
def zxj (l:List α):wholeO l 0 (l.map some):=⟨by simp,λi hi _=>by simp[hi]⟩
def zrD {k:Nat} (h:wholeO l k ls) (a:k<l.length):idx ls (k:Int)=some (some l[k]):=by unfold idx;rw[if_pos (by omega),Bh];exact h.2 k a (Bp _)
def zlL {k:Nat} (h:wholeO l k ls):wholeO l (k+1) ls:=⟨h.1,λi hi a=>h.2 i hi (by omega)⟩
def zm4 {k:Nat} {o:Option α} (h:wholeO l k ls) (b:j<k):wholeO l k (ls.set j o):=
 ⟨by rw[List.length_set,h.1],λi hi a=>by rw[Ep (by omega)];exact h.2 i hi a⟩
theorem zdB (p:α->Bool) (l:List α) (k:Nat) (a:k<l.length):(l.take (k+1)).filter p=(l.take k).filter p++(if p l[k]=true then [l[k]] else []):=by rw[zbc l k a,Ew];grind
theorem zk9: ∀s u:List UInt8,(cmpS s u<0↔sLt s u=true)/\(cmpS s u=0↔s=u)
 | [],[]=>by trivial
 | [],_::_=>by simp[cmpS,Lib.compareBytes,sLt,Op.bytesLess]
 | _::_,[]=>by simp[cmpS,Lib.compareBytes,sLt,Op.bytesLess]
 | a::s,b::u=>by
   have ih:=zk9 s u;have c:cmpS (a::s) (b::u)=if a<b then -1 else if b<a then 1 else cmpS s u:=rfl
   have d:sLt (a::s) (b::u)=(Dc (a<b)||(a == b&&sLt s u)):=rfl;grind
theorem zqr (m:List KV) (key:List UInt8) (o:srtK m) (hl:m.length<=1048576): ∃j,∃f:j<=m.length,(∀i (hi:i<m.length),i<j->sLt m[i].g key=true)/\(∀i (hi:i<m.length),j<=i->sLt m[i].g key=false)/\
 zfy m key=some ((j:Int),if h:j<m.length then Dc (m[j].g=key) else false):=by
 obtain ⟨j,f,d,p,q⟩:=bisect (ρ:=Int × Bool) m (λx=>zed x key) (λx=>cmpS x.g key) (λx _=>rfl) hl;have k: ∀a b (l:a<m.length) (d:b<m.length),a<b->sLt m[a].g m[b].g=true:=λa b l d s=>Bz.1 o a b l d s;refine ⟨j,f,λi hi t=>?_,λi hi t=>?_,?_⟩
 ·have n:=(zk9 _ _).1.1 (p (j - 1) (by omega) (by omega));by_cases e:i=j - 1
  ·simp_all
  ·exact zcZ (k i (j - 1) hi (by omega) (by omega)) n
 ·have c:j<m.length:=by omega
  have n:=q c;cases u:sLt m[i].g key with
  | false=>rfl
  | true=>
    have v:sLt m[j].g key=true:=by
     by_cases e:j=i
     ·simp_all
     ·exact zcZ (k j i c hi (by omega)) u
    have:=(zk9 _ _).1.2 v;omega
 ·unfold zfy zbi;rw[d];simp only[zd];by_cases c:j<m.length
  ·rw[dif_pos c,if_pos (by simp_all),zb m j c];have e:zed m[j] key=some (cmpS m[j].g key):=rfl;simp only[An,e];rw[decide_eq_decide.2 (zk9 m[j].g key).2]
  ·grind
def zv7 (a:srtK m) (j:Nat) (b:j<m.length):(m.drop (j+1)).filter (λx=>!Dc (x.g=m[j].g))=m.drop (j+1):=by
 rw[Db];intro x c;obtain ⟨i,hi,rfl⟩:=Bt c;rw[Dn]at hi;rw[Dm];have:=Bz.1 a j (j+1+i) b (by omega) (by omega);have d: ¬(m[j+1+i]).g=m[j].g:=λh=>by rw[h,zb0]at this;trivial
 simp_all
def zrP (j:Nat) (b: ∀i (hi:i<m.length),j<=i->¬m[i].g=key):(m.drop j).filter (λx=>!Dc (x.g=key))=m.drop j:=by rw[Db];intro x a;obtain ⟨i,hi,rfl⟩:=Bt a;simp_all
def zs3 (a:srtK m) (j:Nat) (b: ∀i (hi:i<m.length),j<=i->sLt m[i].g key=false) (c: ∀d:j<m.length,¬m[j].g=key): ∀i (hi:i<m.length),j<=i->¬m[i].g=key:=by
 intro i hi f h;by_cases e:i=j
 ·simp_all
 ·have k:=Bz.1 a j i (by omega) hi (by omega);simp_all
theorem zup (b: ∀i (hi:i<m.length),i<j->sLt m[i].g key=true): ∀x∈m.take j,sLt x.g key=true:=by intro x a;obtain ⟨i,hi,rfl⟩:=Bt a;grind
def zuo (b: ∀i (hi:i<m.length),j<=i->sLt m[i].g key=false): ∀x∈m.drop j,sLt x.g key=false:=by intro x a;obtain ⟨i,hi,rfl⟩:=Bt a;simp_all
theorem zwE (m:List KV) (key:List UInt8) (c:srtK m) (hl:m.length<=1000000):zhQ m key=some (putK m ⟨key,true,[]⟩):=by
 obtain ⟨j,q,e,d,f⟩:=zqr m key c (by omega);unfold zhQ;rw[f,An,zmS (o:=⟨key,true,[]⟩) j (zup e) (zuo d)];by_cases a:j<m.length
 ·rw[dif_pos a];by_cases b:m[j].g=key
  ·rw[decide_eq_true b,if_pos rfl];unfold zfa;rw[za (n:=(j:Int)+1) (by omega) (by omega)];have h:piece m (j:Int) ((j:Int)+1)=some ((m.drop j).take 1):=by unfold piece;grind
   have k:piece m (0:Int) (j:Int)=some (m.take j):=by unfold piece;simp_all
   have l:piece m ((j:Int)+1) (m.length:Int)=some (m.drop (j+1)):=by unfold piece;rw[if_pos ⟨by omega,by omega,by omega⟩,show ((j:Int)+1).toNat=j+1 by omega,Bh,Cu (by simp)]
   simp only[h,k,l,An];rw[decide_eq_false (by omega)];have p:=zv7 c j a;subst b;simp only[Ba,if_false,An,newK,cond_true,Cv];rw[Bo a,Dx,if_neg (by simp),p]
  ·rw[decide_eq_false b,if_neg (by simp),zrP j (zs3 c j d λ_=>b)];simp[newK]
 ·rw[dif_neg a,if_neg (by simp),zrP j (λi hi s=>by omega)];simp[newK]
theorem zx8 (m:List KV) (key val:List UInt8) (c:srtK m) (hl:m.length<=1000000):ziZ m key val=some (putK m ⟨key,false,val⟩):=by
 obtain ⟨j,n,e,d,f⟩:=zqr m key c (by omega);unfold ziZ;rw[f,An,zmS (o:=⟨key,false,val⟩) j (zup e) (zuo d)];have k: ∀h: ∀i (hi:i<m.length),j<=i->¬m[i].g=key,zds m (j:Int) [(⟨key,val⟩:KV)]=some (m.take j++(newK ⟨key,false,val⟩++(m.drop j).filter λx=>!Dc (x.g=key))):=by intro h;unfold zds ins;rw[if_pos ⟨by omega,by omega,by grind,by grind⟩,Bh,zrP j h];rfl
 by_cases a:j<m.length
 ·rw[dif_pos a];by_cases b:m[j].g=key
  ·rw[decide_eq_true b,if_pos rfl,zb m j a];have l:=zv7 c j a;subst b;simp only[An,Bh,newK,cond_false];rw[Bo a,Dx,if_neg (by simp),l,List.set_eq_take_append_cons_drop,if_pos a];rfl
  ·rw[decide_eq_false b,if_neg (by simp),k (zs3 c j d λ_=>b)];rfl
 ·grind
theorem zqB (m:List KV) (l:List Op) (c:srtK m) (hl:m.length<=100000) (e:l.length<=1000):zhN m l=some (applyK m l):=by
 unfold zhN zfF;rw[zg (by grind) (by grind)];simp only[An,Cv];refine zW (λk (S:Int × List KV)=>S=((k:Int),applyK m (l.take k))) l.length (λr=>r= .go (applyK m l)) rfl ?_ ?_ (λr f=>by simp_all)
 ·rintro k _ a rfl;left;have d:=zjS (l.take k) m;rw[Ei]at d;refine ⟨_,?_,rfl⟩;simp only[zb l k a,An];rw[if_pos (by simp_all),za (n:=(k:Int)+1) (by omega) (by omega),zbc l k a,show applyK m (l.take k++ [l[k]])=putK (applyK m (l.take k)) l[k] by simp only[applyK,List.foldl_append,List.foldl_cons,List.foldl_nil]];have hs:=zmw (l.take k) c;cases b:l[k].M with
  | true=>
    rw[if_pos rfl,zwE _ _ hs (by omega)];simp only[An,zd];have:putK (applyK m (l.take k)) ⟨l[k].g,true,[]⟩=putK (applyK m (l.take k)) l[k]:=by simp only[putK,newK,b,cond_true]
    simp_all
  | false=>
    rw[if_neg (by simp),zx8 _ _ _ hs (by omega)];simp only[An,zd];have:putK (applyK m (l.take k)) ⟨l[k].g,false,l[k].F⟩=putK (applyK m (l.take k)) l[k]:=by simp only[putK,newK,b,cond_false]
    simp_all
 ·simp
theorem ziU {α:Type} (q:α->Bool): ∀l:List α,(l.takeWhile q).length<=l.length/\(∀i (hi:i<l.length),i<(l.takeWhile q).length->q l[i]=true)/\(∀h:(l.takeWhile q).length<l.length,q l[(l.takeWhile q).length]=false)
 | []=>⟨Bp _,λi hi=>absurd hi (by simp),λh=>absurd h (by simp)⟩
 | x::l=>by
   obtain ⟨b,c,d⟩:=ziU q l;cases a:q x with
   | false=>simp_all
   | true=>simp only[Do,a,if_true,Ds];grind
theorem zrC (p:α->Bool) (l:List α) (hl:l.length<=1048576) {body:Int->Option (Ctl Int (Ctl Int R))} (c: ∀k (b:k<l.length),body (k:Int)=if p l[k]=true then some (.go (I6.wrap ((k:Int)+(1:Int)))) else some (.done (.go (k:Int)))) (f:body (l.length:Int)=some (.done (.go (l.length:Int)))):
 loopO body 0=some (.go (((l.takeWhile p).length:Nat):Int)):=by
 obtain ⟨d,t2,e⟩:=ziU p l;generalize (l.takeWhile p).length=a at d t2 e;refine zl (λk=>(k:Int)) a rfl (λk b=>?_) ?_
 ·rw[c k (by omega),if_pos (t2 k (by omega) b),za (by omega) (by omega)];rfl
 ·grind
theorem zyz (p:α->Bool) (l:List α) (hl:l.length<=1048576) (a:Nat) (q:a<l.length) (s:p l[a]=true) (B: ∀i (hi:i<a),p (l[i]'(by omega))=false) {g:α->Option Bool} (t: ∀x,g x=some (p x)) {body:Int × Int × List (Option α)->Option (Ctl (Int × Int × List (Option α)) (Ctl (Int × List (Option α)) R))} {f:Int × List (Option α)->Option R} (m:body=λ(E:Int × Int × List (Option α))=>if (Dc (E.2.1<(E.2.2.length:Int)))=true then ((idx E.2.2 E.2.1).bind λI=>
 (I).bind λF=>
 (g F).bind λJ=>
 bindC (if (!J)=true then ((idx E.2.2 E.1).bind λM=>
 (idx (E.2.2.set E.2.1.toNat none) E.1).bind λN=>
 some (.go (I6.wrap (E.1+(1:Int)),((E.2.2.set E.2.1.toNat none).set E.1.toNat (some F)))))
 else (some (.go (E.1,E.2.2))))
 (λ(G:Int × List (Option α))=>some (.go (G.1,I6.wrap (E.2.1+(1:Int)),G.2))))
 else (some (.done (.go (E.1,E.2.2))))) (C: ∀(i:Nat) ls,ls.length=l.length->i<=l.length->ls.take i=(l.filter λx=>!p x).map some->f ((i:Int),ls)=some z):bindC (loopO body ((a:Int),I6.wrap ((a:Int)+(1:Int)),l.map some)) f=some z:=by
 refine zW (λk (S:Int × Int × List (Option α))=>∃i:Nat,S.1=(i:Int)/\S.2.1=((a+1+k:Nat):Int)/\i<a+1+k/\wholeO l (a+1+k) S.2.2/\S.2.2.take i=((l.take (a+1+k)).filter λx=>!p x).map some) (l.length - (a+1))
  (λr=>∃i ls,r= .go (((i:Nat):Int),ls)/\ls.length=l.length/\i<=l.length/\ls.take i=(l.filter λx=>!p x).map some) ?_ ?_ ?_ ?_
 ·refine ⟨a,rfl,by simp only;rw[za (by omega) (by omega)];omega,by omega,⟨by simp,λi hi _=>by simp⟩,?_⟩;rw[Fa,zdB _ l a q,s];simp only[Bl,Ba,if_false,Da];rw[Db.2,Ee];intro x u;obtain ⟨i,hi,rfl⟩:=Bt u;grind
 ·rintro k ⟨v,w,ls⟩ D ⟨i,d,e,h,b,c⟩;simp only at d e h b c;subst d e;left;have j:a+1+k<l.length:=by omega
  rw[m];simp only[zrD b j,An,t];rw[if_pos (decide_eq_true (by rw[b.1];omega)),za (n:=((a+1+k:Nat):Int)+1) (by omega) (by omega),show ((a+1+k:Nat):Int)+1=((a+1+(k+1):Nat):Int) by omega];have y:i<ls.length:=by rw[b.1];omega
  have A:i<(ls.set (a+1+k) none).length:=by simp_all
  cases o:p l[a+1+k] with
  | true=>simp only[Bl,Ba,if_false,zd];refine ⟨_,rfl,i,rfl,rfl,by omega,zlL b,?_⟩;simp only;rw[c,show a+1+(k+1)=(a+1+k)+1 by omega,zdB _ l (a+1+k) j,o];simp
  | false=>simp only[Cq,if_true,Bh,zb ls i y,zb (ls.set (a+1+k) none) i A,An,zd];rw[za (n:=(i:Int)+1) (by omega) (by omega)];refine ⟨_,rfl,i+1,by simp,rfl,by omega,zm4 (zm4 (zlL b) (by omega)) (by omega),?_⟩;simp only;rw[zbc _ i (by simp_all),Cx,Ea (Bp _),Ea (by omega),c,show a+1+(k+1)=(a+1+k)+1 by omega,zdB _ l (a+1+k) j,o];simp
 ·rintro ⟨v,w,ls⟩ ⟨i,d,e,h,b,c⟩;simp only at d e h b c;subst d e;have O:a+1+(l.length - (a+1))=l.length:=by omega
  rw[O]at h b c |-
  refine ⟨_,by rw[m];exact if_neg (by rw[b.1];simp),i,ls,rfl,b.1,by omega,by simp_all⟩
 ·simp_all
def zzk (l q:List α) (i:Nat) (ls:List (Option α)) (d:ls.length=l.length) (e:i<=l.length) (a:ls.take i=q.map some):
    ((piece ls (i:Int) (ls.length:Int)).bind λB=>(piece ls (0:Int) (i:Int)).bind λh=>(allO h).bind λA=>some A)=some q:=by
 have b:piece ls (i:Int) (ls.length:Int)=some (ls.drop i):=by unfold piece;rw[if_pos ⟨by omega,by omega,by omega⟩,Bh,Bh,Cu (by simp)]
 have c:piece ls (0:Int) (i:Int)=some (ls.take i):=by unfold piece;simp_all
 rw[b,c,a];simp[zk7]
def codeR (c:Int):At:=⟨c,0,[],[]⟩
def quoV (d:Int) (s:Ad) (id:Int):Int:=match s.m.find? (λx=>decide (x.r=id)) with
 | some x=>x.Q
 | none=>d
def bytesN (m:List KV):Nat:=(m.map λx=>x.g.length+x.F.length).sum
def withinV (key lo hi:List UInt8):Bool:=!sLt key lo&&(Dc (hi= [])||sLt key hi)
def scanV (m:List KV) (lo hi:List UInt8):List KV:=m.filter λx=>withinV x.g lo hi
def setR (s:Ad) (t q:Int):Ad × Bool:=(zbL s t q).getD (⟨0,[]⟩,false)
def zir (s:Ad) (t q:Int) (h:s.m.length<=1048576):zbL s t q=some (setR s t q):=by obtain ⟨r,a,b,_⟩:=zm5 s t q h;unfold setR;rw[a];rfl
def zld (s:Ad) (t q:Int) (h:s.m.length<=1048576):zcm s t q=some (setR s t q):=by obtain ⟨r,a,b,_⟩:=zm5 s t q h;unfold setR;rw[a,b];rfl
def zwQ (n:Int):zbK n=some (Dc (1<=n/\n<=99)):=by unfold zbK;rw[z6];rfl
def zs0 (n:Int):zfB n=some (Dc (0<=n/\n<=40)):=by unfold zfB;rw[z6];rfl
def no_R (c:Int):zby c=some (codeR c):=rfl
def zfC (c:Int):zG c=some (codeR c):=rfl
theorem zsU (p:α->Bool) (l:List α) (hl:l.length<=1048576) {body:Int->Option (Ctl Int (Ctl Unit R))} (g:α->R) {f:Unit->Option R} (b:f ()=some z) (h: ∀k (a:k<l.length),body (k:Int)=if p l[k]=true then some (.done (.done (g l[k]))) else some (.go (I6.wrap ((k:Int)+(1:Int))))) (c:body (l.length:Int)=some (.done (.go ()))):
 bindC (loopO body 0) f=some (match l.find? p with | some x=>g x | none=>z):=by
 refine zW (λk S=>S=(k:Int)/\∀i (hi:i<l.length),i<k->p l[i]=false) l.length (λr=>(r= .go ()/\l.find? p=none)\/∃x,l.find? p=some x/\r= .done (g x)) ⟨rfl,λi _ h=>by omega⟩ ?_ ?_ ?_
 ·rintro k _ a ⟨rfl,d⟩;rw[h k a];cases m:p l[k] with
  | true=>right;refine ⟨_,if_pos rfl,.inr ⟨l[k],?_,rfl⟩⟩;rw[List.find?_eq_some_iff_getElem];grind
  | false=>left;refine ⟨_,if_neg (by simp),by rw[za (by omega) (by omega)];omega,λi hi n=>?_⟩;grind
 ·rintro _ ⟨rfl,d⟩;refine ⟨_,c,.inl ⟨rfl,?_⟩⟩;rw[List.find?_eq_none];intro x j;obtain ⟨i,hi,rfl⟩:=Bt j;simp_all
 ·rintro r (⟨rfl,e⟩ | ⟨x,e,rfl⟩)
  ·rw[e];exact b
  ·simp_all
theorem zqE (s:Ad) (id:Int) (h:s.m.length<=1048576):zhS s id=some (quoV 0 s id):=by
 unfold zhS quoV;refine (zsU (λx:Am=>decide (x.r=id)) s.m h Am.Q rfl (λk a=>?_) (by simp)).trans ?_
 ·simp only[zb s.m k a,An];simp_all
 ·grind
theorem zqd (s:Ad) (id:Int) (h:s.m.length<=1048576):zg2 s id=some (quoV (-1) s id):=by
 unfold zg2 quoV;refine (zsU (λx:Am=>decide (x.r=id)) s.m h Am.Q rfl (λk a=>?_) (by simp)).trans ?_
 ·simp only[zb s.m k a,An];simp_all
 ·grind
def zuF {x:KV} (h:kvV x=true):x.g.length<=10/\x.F.length<=16:=by obtain ⟨⟨_,a⟩,b,_⟩:=zkp (o:=⟨x.g,false,x.F⟩) h;trivial
def zpa (m:List KV) (k:Nat) (a:k<m.length):bytesN (m.take (k+1))=bytesN (m.take k)+(m[k].g.length+m[k].F.length):=by unfold bytesN;rw[zbc m k a,Dd,List.sum_append];rfl
theorem zxt (m:List KV) (a: ∀x∈m,kvV x=true):bytesN m<=26*m.length:=by
 induction m with
 | nil=>exact Bp _
 | cons x m ih=>have b:=zuF (a x (by simp));have c:=ih λy d=>a y (by simp_all);have e:bytesN (x::m)=(x.g.length+x.F.length)+bytesN m:=rfl;grind
theorem zm6 (m:List KV) (a: ∀x∈m,kvV x=true) (k:Nat):bytesN (m.take k)<=26*m.length:=by have:=zxt (m.take k) λx b=>a x (List.mem_of_mem_take b);grind
def zlf (m:List KV) (b: ∀x∈m,kvV x=true) (h:m.length<=1048576):zfx m=some (bytesN m:Int):=by
 unfold zfx;refine zW (λk (S:Int × Int)=>S=((bytesN (m.take k):Int),(k:Int))) m.length (λr=>r= .go (bytesN m:Int)) rfl ?_ ?_ (λr c=>by simp_all)
 ·rintro k _ a rfl;left;refine ⟨_,?_,rfl⟩;have d:=zuF (b m[k] (Bf a));have e:=zm6 m b k;simp only[zb m k a,An];rw[if_pos (by simp_all),za (n:=((m[k].g.length:Nat):Int)+((m[k].F.length:Nat):Int)) (by omega) (by omega),za (by omega) (by omega),za (n:=(k:Int)+1) (by omega) (by omega),zpa m k a];rfl
 ·simp
theorem znh (m:List KV) (c:srtK m) (a: ∀x∈m,kvV x=true) (h:m.length<=1000000):zii m=some (bytesN m:Int):=by
 unfold zii;refine zW (λk (S:Int × Int)=>S=((bytesN (m.take k):Int),(k:Int))) m.length (λr=>r= .go (bytesN m:Int)) rfl ?_ ?_ (λr d=>by simp_all)
 ·rintro k _ b rfl;left;refine ⟨_,?_,rfl⟩;have e:=zuF (a m[k] (Bf b));have f:=zm6 m a k;simp only[zb m k b,An,zmu m c a h];rw[if_pos (by simp_all),An,if_pos rfl,za (n:=((bytesN (m.take k):Nat):Int)+((m[k].g.length:Nat):Int)) (by omega) (by omega),za (by omega) (by omega),za (n:=(k:Int)+1) (by omega) (by omega),zpa m k b];grind
 ·simp
theorem zze (key lo hi:List UInt8):zgC key lo hi=some (withinV key lo hi):=by unfold zgC withinV;grind
theorem zwS (key lo hi:List UInt8):zeY key lo hi=some (withinV key lo hi):=by unfold zeY withinV;grind
theorem ztp (p:KV->Bool) (l:List KV) (hl:l.length<=1048576) {body:Int × List KV->Option (Ctl (Int × List KV) (Ctl (List KV) R))} {f:List KV->Option R} {g:KV->Option Bool} (b: ∀x,g x=some (p x)) (c:body=λ(A:Int × List KV)=>if (Dc (A.1<(l.length:Int)))=true then ((idx l A.1).bind λE=>
 (g E).bind λF=>
 bindC (if F=true then ((app 32 A.2 ([E])).bind λB=>
 some (.go B))
 else (some (.go A.2)))
 (λ(D:List KV)=>some (.go (I6.wrap (A.1+(1:Int)),D))))
 else (some (.done (.go A.2)))) (d:f (l.filter p)=some z):bindC (loopO body ((0:Int),([]:List KV))) f=some z:=by
 refine zW (λk (S:Int × List KV)=>S=((k:Int),(l.take k).filter p)) l.length (λr=>r= .go (l.filter p)) rfl ?_ ?_ (λr e=>by simp_all)
 ·rintro k _ a rfl;left;have h:((l.take k).filter p).length<=k:=Df (Bw _ _) (by grind);refine ⟨_,?_,rfl⟩;rw[c];simp only[zb l k a,An,b];rw[if_pos (by simp_all),za (n:=(k:Int)+1) (by omega) (by omega),zdB p l k a];cases i:p l[k] with
  | true=>simp only[if_true];rw[zg (by grind) (by grind)];rfl
  | false=>simp
 ·simp_all
def zqC (m:List KV) (lo hi:List UInt8) (h:m.length<=1048576):zhO m lo hi=some (scanV m lo hi):=by unfold zhO;exact ztp (λx=>withinV x.g lo hi) m h (g:=λx=>zgC x.g lo hi) (λx=>zze _ _ _) rfl rfl
def zrq (m:List KV) (lo hi:List UInt8) (h:m.length<=1048576):ziw m lo hi=some (scanV m lo hi):=by unfold ziw;exact ztp (λx=>withinV x.g lo hi) m h (g:=λx=>zeY x.g lo hi) (λx=>zwS _ _ _) rfl rfl
def zzM {s:Ad} (h:sharesV s=true):s.m.length<=4:=((zi7 s).1 h).2.1
def zwC (l:List α) (k:Nat) (a:k<=l.length):cutO (l.map some) (0:Int) (k:Int)=some (l.take k,Dq k none++(l.drop k).map some):=by unfold cutO;rw[if_pos ⟨by omega,by omega,by simp_all⟩];simp only[Bh,Int.toNat_zero,Ft,Eb,List.take_zero,Cv,<-Ee,zk7,Fj,<-Eg,List.map_nil,Cv]
theorem zvx (l:List α) (k:Nat) (a:k<l.length): ∃h,cutO (Dq k none++(l.drop k).map some) ((k:Int)+1) (l.length:Int)=some (l.drop (k+1),h):=by
 unfold cutO;rw[if_pos ⟨by omega,by omega,by grind⟩];have e:((Dq k (none:Option α)++(l.drop k).map some).drop ((k:Int)+1).toNat).take ((l.length:Int).toNat - ((k:Int)+1).toNat)=(l.drop (k+1)).map some:=by rw[show ((k:Int)+1).toNat=k+1 by omega,Bh,List.drop_append,List.drop_of_length_le (by simp),Cv,List.length_replicate,show k+1 - k=1 by omega,<-Eg,List.drop_drop,Cu (by simp)]
 rw[e,zk7];simp
theorem set_loop (g:α->α) (l:List α) (hl:l.length<=1000000) (b: ∀k (us:List α),k<l.length->us.length=l.length->body ((k:Int),us)=(idx us (k:Int)).bind λE=>some (.go (I6.wrap ((k:Int)+(1:Int)),us.set ((k:Nat):Int).toNat (g E)))) (e: ∀us:List α,us.length=l.length->body ((l.length:Int),us)=some (.done (.go us))) (h:f (l.map g)=some z):bindC (loopO body ((0:Int),l)) f=some z:=by
 refine zW (λk (S:Int × List α)=>S=((k:Int),(l.take k).map g++l.drop k)) l.length (λr=>r= .go (l.map g)) rfl ?_ ?_ (λr i=>by simp_all)
 ·rintro k _ a rfl;left;refine ⟨_,?_,rfl⟩;have c:((l.take k).map g++l.drop k).length=l.length:=by grind
  have d:((l.take k).map g++l.drop k)[k]'(by omega)=l[k]:=by grind
  rw[b k _ a c,zb _ k (by omega),An,d,Bh,za (n:=(k:Int)+1) (by omega) (by omega)];congr 3;rw[zbc l k a,Dd,Eo _ _ (by grind),Dy,Ei,show k - min k l.length=0 by omega,Bo a,Ey];simp
 ·simp_all
structure smC (c:As):Prop where
 tok:c.P.length<=1048576
 ops:c.O.length<=1048576
 num: -9223372036854775808<=c.N/\c.N<=9223372036854775807
theorem zu6 {s:Ad} (t:Int) (a:sharesV s=true):sharesV {s with m:=dropT s.m t} =true:=by
 obtain ⟨b,g,c,d,e⟩:=(zi7 s).1 a;have hs:=zpg (λx=>!Dc (x.r=t)) s.m;have hl:(dropT s.m t).length<=s.m.length:=Bw _ _;rw[zi7];refine ⟨b,by grind,λx f=>c x (Ct.1 f).1,d.filter _,?_⟩;unfold allNeed at e |-
 simp only;unfold dropT at hl |-
 omega
def zwG {s:Ad} (t:Int) (a:sharesV s=true):(shareDropR s t).1= {s with m:=dropT s.m t}:=by
 unfold shareDropR;rw[if_pos a];split
 ·rename_i h;have:dropT s.m t=s.m:=Db.2 (List.length_filter_eq_length_iff.1 h);simp_all
 ·rfl
def zdw {α β:Type} (f:α->β) (p:α->Bool) (q:β->Bool) (h: ∀x,p x=q (f x)): ∀l:List α,(l.filter p).map f=(l.map f).filter q
 | []=>rfl
 | x::l=>by
   rw[Dx,Dj,Dx,<-h x];cases p x with
   | true=>simp only[if_true,Dj,zdw f p q h l]
   | false=>simp only[Ba,if_false,zdw f p q h l]
def zxA (id:Int) (l:List Am):(dropT l id).map Am.r=(l.map Am.r).filter λx=>!Dc (x=id):=zdw Am.r (λx=>!Dc (x.r=id)) (λx=>!Dc (x=id)) (λ_=>rfl) l
theorem ztk (s:Ad) (t q:Int) (a:sharesV s=true) (g:(setR s t q).2=true): ∃L M R:List Am,s.m=L++(M++R)/\(∀y∈L,y.r<t)/\(∀y∈R,t<y.r)/\(M= []\/∃m:Am,M= [m]/\m.r=t)/\
 sharesV (setR s t q).1=true/\(setR s t q).1.m=L++(⟨t,q⟩::R)/\(setR s t q).1.G=s.G:=by have h:=zzM a;obtain ⟨L,M,R,b,c,d,e,f⟩:=ztz s t q a (by omega);refine ⟨L,M,R,b,c,d,e,?_⟩;rw[zir s t q (by omega)]at f;grind
def keyP (l:List Ao) (k:Nat):Bool:=match l[k]? with
 | some x=>decide (1<=x.r/\x.r<=99)&&(Dc (x.g.length=32)&&(match k with | 0=>true | j+1=>match l[j]? with | some d=>decide (d.r<x.r) | none=>true))
 | none=>true
theorem zoz (l:List Ao) (k:Nat) (h:k<l.length):keyP l k=(Dc (1<=l[k].r/\l[k].r<=99)&&(Dc (l[k].g.length=32)&&(if a:0<k then Dc ((l[k - 1]'(by omega)).r<l[k].r) else true))):=by unfold keyP;grind
def keysC (d:Ar):Bool:=Dc (d.K.length=32)&&(Dc (d.x.length<=4)&&(Dc (0<=d.H/\d.H<=1000000)&&(De d.x.length).all (keyP d.x)))
theorem zrF (d:Ar):zbo d=some (keysC d):=by
 unfold zbo keysC;simp only[zbm,An,len32];cases Dc (d.K.length=32) with
 | false=>rfl
 | true=>
 by_cases f:d.x.length<=4
 ·rw[decide_eq_true f,decide_eq_false (by omega)];by_cases h:0<=d.H/\d.H<=1000000
  ·rw[decide_eq_true h];simp only[Bl,Ba,if_false,An,Cg];rw[ziC (keyP d.x) d.x.length ?hp ?hq]
   case hq=>simp
   case hp=>
    intro k b
    simp only[zb d.x k b,An]
    rw[if_pos (by simp_all),za (n:=(k:Int)+1) (by omega) (by omega),zoz d.x k b]
    by_cases a:1<=d.x[k].r/\d.x[k].r<=99
    ·by_cases c:d.x[k].g.length=32
     ·rw[decide_eq_true a,decide_eq_true c];by_cases i:0<k
      ·have j:I6.wrap ((k:Int) - 1)=((k - 1:Nat):Int):=by rw[za (by omega) (by omega)];omega
       rw[dif_pos i,if_neg (by simp),if_neg (by simp),if_pos (by simp_all)];simp only[j,zb d.x (k - 1) (by omega),An];by_cases e:(d.x[k - 1]'(by omega)).r<d.x[k].r
       ·simp[e,show ¬d.x[k].r<=(d.x[k - 1]'(by omega)).r by omega]
       ·simp[e,show d.x[k].r<=(d.x[k - 1]'(by omega)).r by omega]
      ·obtain rfl:k=0:=by omega
       simp
     ·rw[decide_eq_true a,decide_eq_false c];simp
    ·rw[decide_eq_false a];simp
   cases (De d.x.length).all (keyP d.x) with
   | false=>rfl
   | true=>rfl
  ·grind
 ·grind
def zr7 (d:Ar):keysV d=keysC d:=by unfold keysV;rw[zrF];rfl
theorem zcn (d:Ar):keysV d=true↔d.K.length=32/\d.x.length<=4/\(0<=d.H/\d.H<=1000000)/\(∀x∈d.x,(1<=x.r/\x.r<=99)/\x.g.length=32)/\d.x.Pairwise (λa b=>a.r<b.r):=by
 rw[zr7];unfold keysC;simp only[Cj,Ej,decide_eq_true_eq];constructor
 ·rintro ⟨e,f,h,l⟩;have c: ∀k (c:k<d.x.length),_:=λk c=>l k (by simp_all);have v: ∀(j:Nat) (m:j<d.x.length) (i:Nat) (hi:i<j),(d.x[i]'(by omega)).r<d.x[j].r:=by
   intro j;induction j with
   | zero=>intro _ i hi;omega
   | succ j ih=>
     intro m i hi;have e:(d.x[j]'(by omega)).r<d.x[j+1].r:=by have:=c (j+1) m;rw[zoz d.x (j+1) m,dif_pos (by omega)]at this;simp_all
     grind
  refine ⟨e,f,h,λx q=>?_,?_⟩
  ·obtain ⟨k,o,rfl⟩:=Bt q;have:=c k o;rw[zoz d.x k o]at this;simp_all
  ·rw[Bz];grind
 ·rintro ⟨e,f,h,l,p⟩;rw[Bz]at p;refine ⟨e,f,h,λk c=>?_⟩;have n:k<d.x.length:=by simp_all
  obtain ⟨s,t⟩:=l _ (Bf n);rw[zoz d.x k n,decide_eq_true s,decide_eq_true t];simp only[Cg];by_cases u:0<k
  ·rw[dif_pos u];exact decide_eq_true (p (k - 1) k (by omega) n (by omega))
  ·simp_all
theorem zln (a:keysV d=true) {x:Ao} (b:x∈d.x):keyOfV d x.r=x.g:=by
 obtain ⟨_,_,_,_,c⟩:=(zcn d).1 a;unfold keyOfV;rw[a];simp only[cond_true];cases e:d.x.findIdx? (λy=>decide (y.r=x.r)) with
 | none=>grind
 | some j=>obtain ⟨h,f,_⟩:=Cy.1 e;have k:=of_decide_eq_true f;obtain ⟨i,hi,rfl⟩:=Bt b;rw[Bz]at c;grind
def placeK (l:List Ao) (id:Int):Nat:=(l.takeWhile λx=>decide (x.r<id)).length
def addKS (d:Ar) (id:Int) (key:List UInt8):Ar:=⟨d.K,d.x.take (placeK d.x id)++(⟨id,key⟩::d.x.drop (placeK d.x id)),d.H⟩
def wipeKS (d:Ar) (id:Int):Ar:={K:=d.K,x:=d.x.filter λx=>!Dc (x.r=id),H:=d.H+1}
theorem zAb (q:α->Bool) (l:List α):(∀x∈l.take (l.takeWhile q).length,q x=true)/\(∀h:(l.takeWhile q).length<l.length,q l[(l.takeWhile q).length]=false):=by
 induction l with
 | nil=>exact ⟨λx b=>by trivial,λh=>by trivial⟩
 | cons a l ih=>rw[Do];grind
theorem zu1 {l:List Ao} {id:Int} (d:l.Pairwise λa b=>a.r<b.r) (e: ∀x∈l,¬x.r=id):(∀x∈l.take (placeK l id),x.r<id)/\(∀x∈l.drop (placeK l id),id<x.r):=by
 obtain ⟨f,g⟩:=zAb (λx:Ao=>decide (x.r<id)) l;refine ⟨λx c=>of_decide_eq_true (f x c),λx c=>?_⟩;obtain ⟨i,hi,rfl⟩:=Bt c;rw[Dm];rw[Dn]at hi;have hl:placeK l id<l.length:=by omega
 have h: ¬l[placeK l id].r<id:=of_decide_eq_false (g hl);have j:=e _ (Bf hl);rw[Bz]at d;by_cases k:i=0
 ·grind
 ·have:=d (placeK l id) (placeK l id+i) hl (by omega) (by omega);omega
def zu0 {R:α->α->Prop} {A B:List α} {x:α} (h:(A++B).Pairwise R) (D: ∀a∈A,R a x) (E: ∀b∈B,R x b):(A++x::B).Pairwise R:=by
 rw[List.pairwise_append]at h |-
 simp_all
theorem zpt {id:Int} (b:keysV d=true) (hi:1<=id/\id<=99) (j:key.length=32) (hl:d.x.length<4) (c: ∀x∈d.x,¬x.r=id):keysV (addKS d id key)=true:=by
 obtain ⟨e,k,f,l,g⟩:=(zcn d).1 b;rw[zcn];obtain ⟨h,i⟩:=zu1 g c;refine ⟨e,?_,f,λx a=>?_,?_⟩
 ·show (d.x.take _++_::d.x.drop _).length<=4;grind
 ·rcases Dp.1 a with a | a
  ·grind
  ·grind
 ·exact zu0 (by simp_all) h i
def zyq (id:Int) (a:keysV d=true) (h:d.H<1000000):keysV (wipeKS d id)=true:=by obtain ⟨b,c,i,e,f⟩:=(zcn d).1 a;rw[zcn];refine ⟨b,Df (Bw _ _) c,?_,λx g=>e x (Ct.1 g).1,f.filter _⟩;show 0<=d.H+1/\d.H+1<=1000000;omega
structure tenP (key:List UInt8) (rows:List Ah) (t:Ae):Prop where
 ep:0<=t.I/\t.I<=1000000
 base:0<=t.E/\t.E<=1000000
 snaps:t.c.t.length<=2
 tabs:t.c.q.length<=1
 eng:engV t.c=true
 few:rows.length<=6
 seq:t.E+(rows.length:Int)=t.c.b
 seqs:seqsV t.E rows=true
 start:engV (rep0 t)=true
 runs:(repS key (rep0 t) rows).2=true
 mem:(repS key (rep0 t) rows).1.s=t.c.s
def zvm (s:Af) (t:Ae):tenV s t=true↔tenP (keyOfV s.j t.p) (rowsV s t.p) t:=by
 unfold tenV;simp only[Cj,decide_eq_true_eq];constructor
 ·rintro ⟨⟨a,b⟩,⟨c,d⟩,e,⟨f,g⟩,h,i,k,l⟩;exact ⟨a,b,c,d,e,f,g,h,i,k,l⟩
 ·rintro ⟨a,b,c,d,e,f,g,h,i,k,l⟩;trivial
structure storeP (s:Af):Prop where
 secret:s.C.length=32
 keys:keysV s.j=true
 shares:sharesV s.u=true
 boot:0<=s.A/\s.A<=1000
 hist:s.J.length<=120
 slots:s.a.map Ae.p=s.j.x.map Ao.r
 ids:s.a.map Ae.p=s.u.m.map Am.r
 tens: ∀t∈s.a,tenP (keyOfV s.j t.p) (rowsV s t.p) t
 rows: ∀r∈s.B,∃t∈s.a,t.p=r.r
theorem zsX (p:α->Bool) (l:List α):0<=fstV p l↔∃x∈l,p x=true:=by unfold fstV;grind
theorem zm1 (s:Af):storeV s=true↔storeP s:=by
 unfold storeV bodyS;simp only[Cj,decide_eq_true_eq,Ej];constructor
 ·rintro ⟨⟨c,d,e,f,g,k,l⟩,n,o⟩;have hs: ∀i (hi:i<s.a.length),s.a[i].p=(s.j.x[i]'(by omega)).r/\s.a[i].p=(s.u.m[i]'(by omega)).r/\tenP (keyOfV s.j s.a[i].p) (rowsV s s.a[i].p) s.a[i]:=by intro i hi;have:=n i (by simp_all);rw[zmY s i hi (by omega) (by omega)]at this;simp only[Cj,decide_eq_true_eq]at this;exact ⟨this.1,this.2.1,(zvm s _).1 this.2.2⟩
  refine ⟨c,d,e,f,g,Ek (by simp_all) λi hi z=>?_,Ek (by grind) λi hi z=>?_,λt b=>?_,λr q=>?_⟩
  ·grind
  ·grind
  ·obtain ⟨i,hi,rfl⟩:=Bt b;grind
  ·obtain ⟨t,b,h⟩:=(zsX _ _).1 (o r q);grind
 ·rintro ⟨c,d,e,f,g,k,l,n,o⟩;have A:s.a.length=s.j.x.length:=by have:=congrArg Dl k;grind
  have B:s.a.length=s.u.m.length:=by have:=congrArg Dl l;grind
  refine ⟨⟨c,d,e,f,g,A,B⟩,λi hi=>?_,λr q=>?_⟩
  ·have v:i<s.a.length:=by simp_all
   rw[zmY s i v (by omega) (by omega)];simp only[Cj,decide_eq_true_eq];have w:=Ez k (i:=i) (by simp_all);have y:=Ez l (i:=i) (by simp_all);simp only[Fi]at w y;exact ⟨w,y,(zvm s _).2 (n _ (Bf v))⟩
  ·obtain ⟨t,b,h⟩:=o r q;exact (zsX _ _).2 ⟨t,b,decide_eq_true h⟩
theorem zlr (base:Int) (h:List Ah):seqsV base h=true↔∀i (hi:i<h.length),h[i].b=base+1+i:=by
 unfold seqsV;rw[Ej];constructor
 ·simp_all;omega
 ·grind
def zi6 (key:List UInt8): ∀(a b:List Ah) (e:Aa),repS key e (a++b)=bif (repS key e a).2 then repS key (repS key e a).1 b else (⟨[],[],0,[]⟩,false)
 | [],b,e=>rfl
 | r::a,b,e=>by
   simp only[Eh,repS];cases (openB key r.A r.b r.L).2&&(putR e (openB key r.A r.b r.L).1).2 with
   | false=>rfl
   | true=>exact zi6 key a b _
def zrc (key:List UInt8): ∀(B:List Ah) (e:Aa),(repS key e B).2=true->(repS key e B).1.q=e.q/\(repS key e B).1.t=e.t/\(repS key e B).1.b=e.b+B.length
 | [],e,_=>⟨rfl,rfl,by simp[repS]⟩
 | r::B,e,h=>by
   simp only[repS]at h |-
   cases d:(openB key r.A r.b r.L).2&&(putR e (openB key r.A r.b r.L).1).2 with
   | false=>rw[d]at h;cases h
   | true=>rw[d]at h;obtain ⟨g,i,j,f⟩:=zkP (Cj _ _ ▸ d:_/\_).2;obtain ⟨a,b,c⟩:=zrc key B _ h;rw[f]at a b c;simp only[cond_true];rw[f];refine ⟨a,b,?_⟩;rw[c];simp only[engB,Ds];omega
def cntB (l:List Op):Nat->Nat
 | 0=>0
 | k+1=>match l[k]? with
   | some o=>cntB l k+bif laterV l k o.g then 0 else 1
   | none=>cntB l k
def zuS (l:List Op) (seq:Int) (m:List Ac) (e:ordE m) (hs: ∀x∈m,x.b<seq) (hl:m.length+l.length<=1048576): ∀k,k<=l.length->(memB l seq m k).length=m.length+cntB l k:=by
 intro k;induction k with
 | zero=>intro _;rfl
 | succ k ih=>
   intro q;have a:k<l.length:=by omega
   have c:=ih (by omega);obtain ⟨f,s,h,t⟩:=zhq l seq m e hs hl k (by omega);have i:cntB l (k+1)=cntB l k+bif laterV l k l[k].g then 0 else 1:=by show (match l[k]? with | some o=>_ | none=>_)=_;simp_all
   rw[i];cases d:laterV l k l[k].g with
   | true=>rw[zid l seq m k a d,c];rfl
   | false=>obtain ⟨j,n,_,p,u⟩:=zp4 (memB l seq m k) (entO l[k] seq) f (by omega) (zpX l seq m _ k a hs h);rw[zpY l seq m k a d,p,Fh,zuC _ _ _ n,c];rfl
def zwl {l:List Op} (h:engV e=true) (a:batchV l=true):okB e l=true↔e.b+1<=1000000/\e.s.length+cntB l l.length<=60/\totalV e.q+(e.s.length+cntB l l.length)<=400:=by obtain ⟨c,d,f⟩:=ziE h a;unfold okB;rw[zuS l (e.b+1) e.s c d (by omega) l.length (Bp _)];simp
def zpy {l:List Op} (h:engV e=true) (a:batchV l=true):(engB e l).s.length=e.s.length+cntB l l.length:=by obtain ⟨c,d,f⟩:=ziE h a;exact zuS l (e.b+1) e.s c d (by omega) l.length (Bp _)
def zyW (key:List UInt8) {B qs:List Ah} (j:qs.Sublist B): ∀(e f:Aa),(repS key e B).2=true->engV f=true->f.q=e.q->f.b<=e.b->f.s.length<=e.s.length->(repS key f qs).2=true:=by
 induction j with
 | slnil=>intro e f _ _ _ _ _;rfl
 | @cons qs B r j ih=>
   intro e f h d g n o;simp only[repS]at h;cases a:(openB key r.A r.b r.L).2&&(putR e (openB key r.A r.b r.L).1).2 with
   | false=>rw[a]at h;cases h
   | true=>
     rw[a]at h;obtain ⟨i,c,l,k⟩:=zkP (Cj _ _ ▸ a:_/\_).2;simp only[cond_true]at h;rw[k]at h;refine ih _ f h d g ?_ ?_
     ·show f.b<=e.b+1;omega
     ·rw[zpy i c];omega
 | @cons_cons qs B r j ih=>
   intro e f h d g n o;simp only[repS]at h |-
   cases a:(openB key r.A r.b r.L).2&&(putR e (openB key r.A r.b r.L).1).2 with
   | false=>rw[a]at h;cases h
   | true=>
     rw[a]at h;have p:=(Cj _ _ ▸ a:_/\_).1;obtain ⟨i,c,l,k⟩:=zkP (Cj _ _ ▸ a:_/\_).2;simp only[cond_true]at h;rw[k]at h;obtain ⟨u,v,w⟩:=(zwl i c).1 l;have m:okB f (openB key r.A r.b r.L).1=true:=by rw[zwl d c,g];omega
     have t:putR f (openB key r.A r.b r.L).1=(engB f (openB key r.A r.b r.L).1,true):=by unfold putR;rw[d,c,m];rfl
     rw[t,p];simp only[Ed,cond_true];refine ih _ _ h ?_ g ?_ ?_
     ·rw[zox d c];exact m
     ·show f.b+1<=e.b+1;omega
     ·rw[zpy i c,zpy d c];omega
def tenP.eng_is {rows:List Ah} (h:tenP key rows t):(repS key (rep0 t) rows).1=⟨t.c.s,t.c.q,t.c.b,[]⟩:=by
 obtain ⟨a,b,c⟩:=zrc key rows _ h.runs;have d:=h.mem;have e:=h.seq;generalize (repS key (rep0 t) rows).1=x at a b c d;obtain ⟨g,i,f,j⟩:=x;simp only at a b c d;have A:f=t.c.b:=by rw[c];exact e
 rw[a,b,A,d];rfl
def atE (l:List Ae) (id:Int):Int:=fstV (λt=>decide (t.p=id)) l
def tenE (l:List Ae) (i:Int):Ae:=l.getD i.toNat ⟨0,0,0,⟨[],[],0,[]⟩⟩
def noTE (id:Int) (l:List Ae):List Ae:=l.filter λt=>!Dc (t.p=id)
def noLR (id:Int) (l:List Ah):List Ah:=l.filter λr=>!Dc (r.r=id)
def ofLR (id:Int) (l:List Ah):List Ah:=l.filter λr=>decide (r.r=id)
def flatE (e:Aa):Aa:=(mergeS (flushS e).2).2
def flushT (t:Ae):Ae:=⟨t.p,t.I,(flatE t.c).b,flatE t.c⟩
def flushO (s:Af) (i:Int):Af:=⟨s.C,s.j,s.u,s.a.set i.toNat (flushT (tenE s.a i)),noLR (tenE s.a i).p s.B,s.J,s.A⟩
def newTE (id:Int):Ae:=⟨id,0,0,⟨[],[],0,[]⟩⟩
def placeE (l:List Ae) (id:Int):Nat:=(l.takeWhile λx=>decide (x.p<id)).length
def insTE (l:List Ae) (t:Ae):List Ae:=l.take (placeE l t.p)++(t::l.drop (placeE l t.p))
def createS (s:Af) (c:As):Af × At:=
 bif !Dc (1<=c.r/\c.r<=99)||(!Dc (0<=c.N/\c.N<=40)||(!Dc (c.g.length=32)||decide (atE s.a c.r>=0))) then (s,codeR 1)
 else bif Dc (4<=s.a.length) then (s,codeR 4)
 else bif (setR s.u c.r c.N).2 then (⟨s.C,addKS s.j c.r c.g,(setR s.u c.r c.N).1,insTE s.a (newTE c.r),s.B,s.J,s.A⟩,⟨0,1,mintV s.C c.r 0,[]⟩)
 else (s,codeR 6)
def quotaS (s:Af) (c:As):Af × At:=
 bif Dc (0<=c.N/\c.N<=40) then (bif (setR s.u c.r c.N).2 then (⟨s.C,s.j,(setR s.u c.r c.N).1,s.a,s.B,s.J,s.A⟩,codeR 0) else (s,codeR 6)) else (s,codeR 1)
def removeS (s:Af) (id:Int):Af × At:=
 bif Dc (1000<=s.A)||decide (1000000<=s.j.H) then (s,codeR 4)
 else (⟨s.C,wipeKS s.j id,(shareDropR s.u id).1,noTE id s.a,noLR id s.B,s.J,s.A+1⟩,codeR 0)
def withT (s:Af) (i:Int) (t:Ae):Af:=⟨s.C,s.j,s.u,s.a.set i.toNat t,s.B,s.J,s.A⟩
def rotateS (s:Af) (i:Int):Af × At:=
 bif Dc ((tenE s.a i).I>=1000000) then (s,codeR 4)
 else (withT s i ⟨(tenE s.a i).p,(tenE s.a i).I+1,(tenE s.a i).E,(tenE s.a i).c⟩,⟨0,0,mintV s.C (tenE s.a i).p ((tenE s.a i).I+1),[]⟩)
def ownS (s:Af) (c:As):Af × At:=
 bif Dc (atE s.a c.r<0) then (s,codeR 5)
 else bif Dc (c.D=2) then quotaS s c
 else bif Dc (c.D=3) then removeS s c.r
 else bif Dc (c.D=4) then rotateS s (atE s.a c.r)
 else (flushO s (atE s.a c.r),codeR 0)
def markL (r:Ah):Ah:=⟨r.r,r.A,r.b,r.L,true⟩
def syncS (s:Af):Af:=⟨s.C,s.j,s.u,s.a,s.B.map markL,s.J,s.A⟩
def keepL:Int->List Ah->List Ah
 | _,[]=>[]
 | n,r::l=>bif r.T then markL r::keepL n l else bif Dc (n<1) then keepL n l else markL r::keepL (n - 1) l
def crashT (key:List UInt8) (rows:List Ah) (t:Ae):Ae:=⟨t.p,t.I,t.E,(repS key (rep0 t) rows).1⟩
def crashS (s:Af) (n:Int):Af × At:=
 bif Dc (1000<=s.A) then (s,codeR 4)
 else ({C:=s.C,j:=s.j,u:=s.u,a:=s.a.map λt=>crashT (keyOfV s.j t.p) (ofLR t.p (keepL n s.B)) t,B:=keepL n s.B,J:=s.J,A:=s.A+1},codeR 0)
def valR (e:Aa) (key:List UInt8) (seq:Int):At:=bif (getR e key seq).2 then ⟨0,0,(getR e key seq).1,[]⟩ else codeR 5
def putS (s a:Af) (i:Int) (ops:List Op):Af:=
 ⟨a.C,a.j,a.u,a.a.set i.toNat ⟨(tenE a.a i).p,(tenE a.a i).I,(tenE a.a i).E,engB (tenE a.a i).c ops⟩,a.B++ [⟨(tenE a.a i).p,a.A,(tenE a.a i).c.b+1,sealB (keyOfV a.j (tenE a.a i).p) a.A ((tenE a.a i).c.b+1) ops,false⟩],s.J++ [⟨(tenE a.a i).p,a.A,(tenE a.a i).c.b+1,sealB (keyOfV a.j (tenE a.a i).p) a.A ((tenE a.a i).c.b+1) ops,false⟩],a.A⟩
def roomS (s:Af) (i:Int):Af:=bif Dc (6<=(ofLR (tenE s.a i).p s.B).length) then flushO s i else s
def writeS (s:Af) (i:Int) (ops:List Op):Af × At:=
 bif Dc (120<=s.J.length) then (s,codeR 4)
 else bif batchV ops then
  (bif Dc ((bytesN (applyK (mapR (tenE s.a i).c (tenE s.a i).c.b) ops):Int)>quoV (-1) s.u (tenE s.a i).p) then (s,codeR 3)
 else bif okB (tenE (roomS s i).a i).c ops&& !Dc (sealB (keyOfV s.j (tenE s.a i).p) s.A ((tenE s.a i).c.b+1) ops= []) then
    (putS s (roomS s i) i ops,⟨0,(tenE s.a i).c.b+1,[],[]⟩)
 else (s,codeR 4))
 else (s,codeR 1)
def withE (s:Af) (i:Int) (l:List Int):Af:=
 withT s i ⟨(tenE s.a i).p,(tenE s.a i).I,(tenE s.a i).E,⟨(tenE s.a i).c.s,(tenE s.a i).c.q,(tenE s.a i).c.b,l⟩⟩
def snapS (s:Af) (i:Int):Af × At:=
 bif Dc ((tenE s.a i).c.b∈(tenE s.a i).c.t) then (s,⟨0,(tenE s.a i).c.b,[],[]⟩)
 else bif Dc (2<=(tenE s.a i).c.t.length) then (s,codeR 4)
 else (withE s i ((tenE s.a i).c.t++ [(tenE s.a i).c.b]),⟨0,(tenE s.a i).c.b,[],[]⟩)
def heldS (s:Af) (i:Int) (c:As):Af × At:=
 bif Dc (c.N∈(tenE s.a i).c.t) then
  (bif Dc (c.D=10) then (s,valR (tenE s.a i).c c.g c.N) else (withE s i (dropS (tenE s.a i).c.t c.N),codeR 0))
 else (s,codeR 5)
def tenS (s:Af) (i:Int) (c:As):Af × At:=
 bif Dc (c.D=5) then writeS s i c.O
 else bif Dc (c.D=6) then (s,valR (tenE s.a i).c c.g (tenE s.a i).c.b)
 else bif Dc (c.D=7) then (s,⟨0,0,[],scanV (mapR (tenE s.a i).c (tenE s.a i).c.b) c.g c.R⟩)
 else bif Dc (c.D=8) then snapS s i
 else bif Dc (c.D=11) then (s,⟨0,(bytesN (mapR (tenE s.a i).c (tenE s.a i).c.b):Int),[],[]⟩)
 else heldS s i c
def callS (s:Af) (c:As):Af × At:=
 bif !(tokR s.C c.P).2.2||(Dc (atE s.a (tokR s.C c.P).1<0)|| !Dc ((tenE s.a (atE s.a (tokR s.C c.P).1)).I=(tokR s.C c.P).2.1)) then (s,codeR 2)
 else tenS s (atE s.a (tokR s.C c.P).1) c
def doS (s:Af) (c:As):Af × At:=
 bif Dc (c.D=1) then createS s c
 else bif Dc (c.D=12) then (syncS s,codeR 0)
 else bif Dc (c.D=14) then crashS s c.N
 else bif Dc (2<=c.D/\c.D<=4)||decide (c.D=13) then ownS s c
 else bif Dc (5<=c.D/\c.D<=11) then callS s c
 else (s,codeR 1)
def zdA (l:List Ae) (id:Int):(∃j,∃b:j<l.length,atE l id=(j:Int)/\l[j].p=id/\∀i (hi:i<j),¬(l[i]'(by omega)).p=id)\/(atE l id= -1/\∀x∈l,¬x.p=id):=by
 rcases zlR (λt:Ae=>decide (t.p=id)) l with ⟨j,b,e,a,c⟩ | ⟨e,a⟩
 ·exact .inl ⟨j,b,e,of_decide_eq_true a,λi hi=>of_decide_eq_false (c i hi)⟩
 ·exact .inr ⟨e,λx d=>of_decide_eq_false (a x d)⟩
def zr (l:List Ae) (j:Nat) (a:j<l.length):tenE l (j:Int)=l[j]:=by unfold tenE;simp_all
def zwk (id:Int) (l:List Ah):ofLR id (noLR id l)= []:=by unfold ofLR noLR;simp
theorem zq1 {id k:Int} (h: ¬k=id) (l:List Ah):ofLR k (noLR id l)=ofLR k l:=by unfold ofLR noLR;rw[List.filter_filter];grind
def zp1 (id:Int) (l k:List Ah):ofLR id (l++k)=ofLR id l++ofLR id k:=Ew _ _
theorem zq0 {t x:α} (h:x∈l.set j t):x=t\/∃i,∃hi:i<l.length,¬i=j/\x=l[i]:=by obtain ⟨i,hi,e⟩:=Bt h;grind
theorem set_mapE {l:List Ae} (a:j<l.length) (h:t.p=l[j].p):(l.set j t).map Ae.p=l.map Ae.p:=by rw[List.map_set];refine Ek (by simp) λi b c=>?_;grind
theorem storeP.lt (h:storeP s):s.a.Pairwise λa b=>a.p<b.p:=by have c:=((zcn _).1 h.keys).2.2.2.2;have d:(s.j.x.map Ao.r).Pairwise (·< ·):=List.pairwise_map.2 c;rw[<-h.slots]at d;grind
theorem storeP.ne (h:storeP s) {i:Nat} (hi:i<s.a.length) (b:j<s.a.length) (c: ¬i=j): ¬s.a[i].p=s.a[j].p:=by have:=Bz.1 h.lt;grind
def storeP.lens (h:storeP s):s.a.length=s.j.x.length/\s.a.length=s.u.m.length/\s.a.length<=4:=by have b:=congrArg Dl h.slots;have c:=congrArg Dl h.ids;have d:=((zcn _).1 h.keys).2.1;simp_all
def storeP.slot (h:storeP s) (b:t∈s.a): ∃x∈s.j.x,x.r=t.p:=by have:t.p∈s.a.map Ae.p:=Dh b;rw[h.slots]at this;simp_all
theorem zvs (h:storeP s) (j:Nat) (c:j<s.a.length) (t:Ae) (d:t.p=s.a[j].p) (g:tenP (keyOfV s.j t.p) (ofLR t.p s.B) t):storeP (withT s (j:Int) t):=by
 unfold withT;rw[Bh];refine ⟨h.secret,h.keys,h.shares,h.boot,h.hist,?_,?_,λx b=>?_,λr f=>?_⟩
 ·exact (set_mapE c d).trans h.slots
 ·exact (set_mapE c d).trans h.ids
 ·rcases List.mem_or_eq_of_mem_set b with b | rfl
  ·exact h.tens x b
  ·trivial
 ·obtain ⟨x,b,e⟩:=h.rows r f;have:r.r∈(s.a.set j t).map Ae.p:=by rw[set_mapE c d,<-e];grind
  grind
def zfu (e:Aa):(flatE e).b=e.b/\(flatE e).t=e.t:=by obtain ⟨a,b,c⟩:=zmL (flushS e).2;obtain ⟨d,f⟩:=zqs e;exact ⟨b.trans d,c.trans f⟩
theorem zyG (h:e.q.length<=1):(flatE e).s= []:=by
 obtain ⟨a,b,c⟩:=zmL (flushS e).2;refine a.trans ?_;by_cases d:e.s.length=0\/6<=e.q.length
 ·rw[zeC d];grind
 ·rw[zhC d]
def zrQ (h:engV e=true):engV (flatE e)=true:=zxW (zji h)
def zxC (e:Aa):(flatE e).q.length<=1:=by
 unfold flatE mergeS;cases c:Dc ((flushS e).2.q.length=0) with
 | true=>simp_all
 | false=>exact (zvk _).1
def zyH {rows:List Ah} (h:tenP key rows t):tenP key [] (flushT t):=by
 obtain ⟨a,b⟩:=zfu t.c;have d:=zyG h.tabs;have e:=zrQ h.eng;have g:=(zbe h.eng).1;have f:=zhB e (l:=[]) (by simp) rfl;refine ⟨h.ep,?_,?_,zxC t.c,e,by simp,?_,rfl,?_,rfl,?_⟩
 ·show 0<=(flatE t.c).b/\(flatE t.c).b<=1000000;omega
 ·show (flatE t.c).t.length<=2;rw[b];exact h.snaps
 ·show (flatE t.c).b+((([]:List Ah).length:Nat):Int)=(flatE t.c).b;simp
 ·rw[d]at f;trivial
 ·exact d.symm
theorem znL (h:storeP s) (j:Nat) (b:j<s.a.length):storeP (flushO s (j:Int)):=by
 unfold flushO;rw[zr _ j b,Bh];have c:(s.a.set j (flushT s.a[j])).map Ae.p=s.a.map Ae.p:=set_mapE b rfl;refine ⟨h.secret,h.keys,h.shares,h.boot,h.hist,c.trans h.slots,c.trans h.ids,λx d=>?_,λr f=>?_⟩
 ·rcases zq0 d with rfl | ⟨i,hi,g,rfl⟩
  ·have:=zyH (h.tens _ (Bf b));show tenP (keyOfV s.j s.a[j].p) (ofLR s.a[j].p (noLR s.a[j].p s.B)) _;rw[zwk];trivial
  ·have:=h.tens _ (Bf hi);show tenP (keyOfV s.j s.a[i].p) (ofLR s.a[i].p (noLR s.a[j].p s.B)) _;rw[zq1 (h.ne hi b g)];trivial
 ·obtain ⟨x,d,e⟩:=h.rows r (Ct.1 f).1;have:r.r∈(s.a.set j (flushT s.a[j])).map Ae.p:=by grind
  grind
def zvn {α β:Type} (f:α->β) (p:β->Bool): ∀l:List α,(l.takeWhile λx=>p (f x)).length=((l.map f).takeWhile p).length
 | []=>rfl
 | a::l=>by
   rw[Do,Dj,Do];cases p (f a) with
   | true=>simp only[if_true,Ds,zvn f p l]
   | false=>rfl
def zzd (p:α->Bool) {A B:List α} (h: ∀a∈A,p a=true) (D: ∀b∈B,p b=false):((A++B).takeWhile p).length=A.length:=by
 induction A with
 | nil=>
   cases B with
   | nil=>rfl
   | cons b B=>simp_all
 | cons a A ih=>simp_all
def insI (l:List Int) (id:Int):List Int:=l.take (l.takeWhile λx=>decide (x<id)).length++(id::l.drop (l.takeWhile λx=>decide (x<id)).length)
def zsZ (l:List Ae) (t:Ae):(insTE l t).map Ae.p=insI (l.map Ae.p) t.p:=by unfold insTE insI placeE;rw[zvn Ae.p (λx=>decide (x<t.p)) l,Dd,Dj,Ee,Eg]
def zxm (d:Ar) (id:Int) (key:List UInt8):(addKS d id key).x.map Ao.r=insI (d.x.map Ao.r) id:=by unfold addKS insI placeK;simp only;rw[zvn Ao.r (λx=>decide (x<id)) d.x,Dd,Dj,Ee,Eg]
theorem zwP {L R:List Am} {id q:Int} (h: ∀y∈L,y.r<id) (D: ∀y∈R,id<y.r):insI ((L++R).map Am.r) id=(L++(⟨id,q⟩::R)).map Am.r:=by
 unfold insI;rw[Dd,zzd (λx=>decide (x<id)) (A:=L.map Am.r) (B:=R.map Am.r) (λa b=>by grind) (λa b=>by grind),
  List.take_left,List.drop_left,Dd,Dj]
theorem zxI {l:List Ae} {x:Ae} (h:x∈insTE l t):x=t\/x∈l:=by unfold insTE at h;grind
theorem zxn {id:Int} {x:Ao} (h:x∈d.x):x∈(addKS d id key).x:=by unfold addKS;simp only[Dp,Eu];rw[<-Dk (placeK d.x id) d.x,Dp]at h;grind
def zzF (key:List UInt8) (id:Int):tenP key [] (newTE id):=
 ⟨by simp[newTE],by simp[newTE],by simp[newTE],by simp[newTE],rfl,by simp,by simp[newTE],rfl,rfl,rfl,rfl⟩
theorem zwB (h:storeP s) (c:As):storeP (createS s c).1:=by
 unfold createS;cases i:(!Dc (1<=c.r/\c.r<=99)||(!Dc (0<=c.N/\c.N<=40)||(!Dc (c.g.length=32)||decide (atE s.a c.r>=0)))) with
 | true=>exact h
 | false=>
   cases o:Dc (4<=s.a.length) with
   | true=>exact h
   | false=>
     cases q:(setR s.u c.r c.N).2 with
     | false=>exact h
     | true=>
       simp only[cond_true,cond_false];obtain ⟨L,M,R,f,v,w,d,z,A,H⟩:=ztk s.u c.r c.N h.shares q;simp only[Et]at i;have I: ¬atE s.a c.r>=0:=of_decide_eq_false i.2.2.2;have B:1<=c.r/\c.r<=99:=by simp_all
       have C:c.g.length=32:=by simp_all
       have J:=of_decide_eq_false o;have K: ∀x∈s.a,¬x.p=c.r:=by
        rcases zdA s.a c.r with ⟨j,_,e,_,_⟩ | ⟨_,g⟩
        ·omega
        ·exact g
       have U:M= []:=by
        rcases d with d | ⟨y,d,O⟩
        ·trivial
        ·exfalso;have D:y.r∈s.a.map Ae.p:=by rw[h.ids,f,d];simp
         grind
       subst U;rw[Cv]at f;obtain ⟨P,Q,S⟩:=h.lens;have E: ∀x∈s.j.x,¬x.r=c.r:=by
        intro x b e;have D:x.r∈s.a.map Ae.p:=by rw[h.slots];grind
        grind
       have k:=zpt (key:=c.g) h.keys B C (by omega) E;refine ⟨h.secret,k,z,h.boot,h.hist,?_,?_,λx b=>?_,λr F=>?_⟩
       ·exact (zsZ _ _).trans ((congrArg (λl=>insI l c.r) h.slots).trans (zxm _ _ _).symm)
       ·refine (zsZ _ _).trans ?_;show insI (s.a.map Ae.p) c.r=_;rw[h.ids,f,A];exact zwP v w
       ·rcases zxI b with rfl | b
        ·have:rowsV s c.r= []:=by unfold rowsV;rw[List.filter_eq_nil_iff];intro r G e;obtain ⟨t,m,T⟩:=h.rows r G;simp_all
         show tenP _ (rowsV s c.r) _;rw[this];exact zzF _ _
        ·obtain ⟨y,n,e⟩:=h.slot b;have:=h.tens x b;rw[<-e,zln h.keys n,<-zln k (zxn n),e]at this;trivial
       ·obtain ⟨t,m,e⟩:=h.rows r F;have:r.r∈(insTE s.a (newTE c.r)).map Ae.p:=by rw[<-e];refine Dh ?_;unfold insTE;rw[<-Dk (placeE s.a (newTE c.r).p) s.a,Dp]at m;grind
        simp_all
theorem zx1 (h:storeP s) (c:As) (d: ∃x∈s.a,x.p=c.r):storeP (quotaS s c).1:=by
 unfold quotaS;cases Dc (0<=c.N/\c.N<=40) with
 | false=>exact h
 | true=>
   cases e:(setR s.u c.r c.N).2 with
   | false=>exact h
   | true=>
     simp only[cond_true];obtain ⟨L,M,R,b,l,m,f,g,i,n⟩:=ztk s.u c.r c.N h.shares e;refine ⟨h.secret,h.keys,g,h.boot,h.hist,h.slots,?_,h.tens,h.rows⟩;show s.a.map Ae.p=_;rw[h.ids,i,b];rcases f with rfl | ⟨y,rfl,o⟩
     ·exfalso;obtain ⟨x,j,q⟩:=d;have k:x.p∈s.a.map Ae.p:=Dh j;rw[h.ids,b,Cv]at k;grind
     ·simp_all
theorem zw7 (h:storeP s) (id:Int):storeP (removeS s id).1:=by
 unfold removeS;cases i:(Dc (1000<=s.A)||decide (1000000<=s.j.H)) with
 | true=>exact h
 | false=>
   simp only[Et,decide_eq_false_iff_not]at i;simp only[cond_false];rw[zwG id h.shares];have q:=h.boot;have c:=zyq id h.keys (by omega);refine ⟨h.secret,c,zu6 id h.shares,by grind,h.hist,?_,?_,λx k=>?_,λr l=>?_⟩
   ·show (noTE id s.a).map Ae.p=(wipeKS s.j id).x.map Ao.r;unfold noTE wipeKS;simp only;rw[zdw Ae.p (λx=>!Dc (x.p=id)) (λx=>!Dc (x=id)) (λ_=>rfl),zdw Ao.r (λx=>!Dc (x.r=id)) (λx=>!Dc (x=id)) (λ_=>rfl),h.slots]
   ·show (noTE id s.a).map Ae.p=(dropT s.u.m id).map Am.r;rw[zxA];unfold noTE;rw[zdw Ae.p (λx=>!Dc (x.p=id)) (λx=>!Dc (x=id)) (λ_=>rfl),h.ids]
   ·obtain ⟨d,v⟩:=Ct.1 k;have f: ¬x.p=id:=by simp_all
    have b:=h.tens x d;obtain ⟨y,g,e⟩:=h.slot d;have n:y∈(wipeKS s.j id).x:=Ct.2 ⟨g,by simp_all⟩;show tenP (keyOfV (wipeKS s.j id) x.p) (ofLR x.p (noLR id s.B)) x;rw[zq1 f];rw[<-e,zln h.keys g,<-zln c n,e]at b;trivial
   ·obtain ⟨o,w⟩:=Ct.1 l;have f: ¬r.r=id:=by simp_all
    obtain ⟨t,b,e⟩:=h.rows r o;exact ⟨t,Ct.2 ⟨b,by simp_all⟩,e⟩
theorem zxa (h:storeP s) (j:Nat) (d:j<s.a.length):storeP (rotateS s (j:Int)).1:=by
 unfold rotateS;rw[zr _ j d];have b:=h.tens _ (Bf d);have e:=b.ep;by_cases c:s.a[j].I>=1000000
 ·simp_all
 ·rw[decide_eq_false c];exact zvs h j d _ rfl ⟨by grind,b.base,b.snaps,b.tabs,b.eng,b.few,b.seq,b.seqs,b.start,b.runs,b.mem⟩
def zs9 (id:Int) (l:List Ah):ofLR id (l.map markL)=(ofLR id l).map markL:=by unfold ofLR;rw[List.filter_map];rfl
def zlq (key:List UInt8): ∀(l:List Ah) (e:Aa),repS key e (l.map markL)=repS key e l
 | [],e=>rfl
 | r::l,e=>by
   simp only[Dj,repS,markL];cases (openB key r.A r.b r.L).2&&(putR e (openB key r.A r.b r.L).1).2 with
   | false=>rfl
   | true=>exact zlq key l _
def tenP.mark {rows:List Ah} (h:tenP key rows t):tenP key (rows.map markL) t:=by refine ⟨h.ep,h.base,h.snaps,h.tabs,h.eng,by rw[Dy];exact h.few,by rw[Dy];exact h.seq,?_,h.start,by rw[zlq];exact h.runs,by rw[zlq];exact h.mem⟩;rw[zlr];intro i hi;rw[Fi];exact (zlr _ _).1 h.seqs i (by simp_all)
def zy5 (h:storeP s):storeP (syncS s):=by
 refine ⟨h.secret,h.keys,h.shares,h.boot,h.hist,h.slots,h.ids,λx a=>?_,λr b=>?_⟩
 ·show tenP _ (ofLR x.p (s.B.map markL)) x;rw[zs9];exact (h.tens x a).mark
 ·obtain ⟨q,c,rfl⟩:=Fc.1 b;exact h.rows q c
theorem zs1: ∀(l:List Ah) (n:Int) (r:Ah),r∈keepL n l->∃q∈l,r=markL q
 | [],n,r,h=>by cases h
 | q::l,n,r,h=>by
   simp only[keepL]at h;have go: ∀m,r∈keepL m l->∃x∈q::l,r=markL x:=λm h=>by obtain ⟨x,a,e⟩:=zs1 l m r h;grind
   grind
def zll: ∀(l:List Ah) (n:Int),∃q:List Ah,q.Sublist l/\keepL n l=q.map markL
 | [],n=>⟨[],.slnil,rfl⟩
 | r::l,n=>by
   simp only[keepL];obtain ⟨a,b,e⟩:=zll l n;obtain ⟨c,d,f⟩:=zll l (n - 1);cases r.T with
   | true=>exact ⟨r::a,b.cons_cons r,by simp_all⟩
   | false=>
     cases Dc (n<1) with
     | true=>exact ⟨a,b.cons r,by trivial⟩
     | false=>exact ⟨r::c,d.cons_cons r,by simp_all⟩
def tenP.part {rows qs:List Ah} (h:tenP key rows t) (hs:qs.Sublist rows):(repS key (rep0 t) (qs.map markL)).2=true:=by rw[zlq];exact zyW key hs (rep0 t) (rep0 t) h.runs h.start rfl (Int.le_refl _) (Bp _)
def zyY (h:storeP s) (j:Nat) (b:j<s.a.length):storeP (roomS s (j:Int)):=by
 unfold roomS;cases Dc (6<=(ofLR (tenE s.a (j:Int)).p s.B).length) with
 | true=>exact znL h j b
 | false=>exact h
theorem zyX (s:Af) (j:Nat) (d:j<s.a.length):(roomS s (j:Int)).a.length=s.a.length/\(roomS s (j:Int)).j=s.j/\(roomS s (j:Int)).A=s.A/\(roomS s (j:Int)).C=s.C/\(roomS s (j:Int)).u=s.u/\(roomS s (j:Int)).J=s.J/\
 (tenE (roomS s (j:Int)).a (j:Int)).p=s.a[j].p/\(tenE (roomS s (j:Int)).a (j:Int)).I=s.a[j].I/\(tenE (roomS s (j:Int)).a (j:Int)).c.b=s.a[j].c.b/\(ofLR s.a[j].p (roomS s (j:Int)).B).length<=5:=by
 unfold roomS;rw[zr _ j d];cases c:Dc (6<=(ofLR s.a[j].p s.B).length) with
 | true=>simp only[cond_true];unfold flushO;simp only[zr _ j d,Bh];rw[zr _ j (by simp_all),Cx,zwk];exact ⟨by simp,by simp,by simp,by simp,by simp,by simp,by rfl,by rfl,by simp[flushT,(zfu s.a[j].c).1],by simp⟩
 | false=>have:=of_decide_eq_false c;simp only[cond_false];rw[zr _ j d];grind
theorem zz5 {rows:List Ah} (h:tenP key rows t) (ops:List Op) (boot:Int) (hl:rows.length<=5) (a:okB t.c ops=true) (d:batchV ops=true) (hs: ¬sealB key boot (t.c.b+1) ops= []) (tid:Int):
 tenP key (rows++ [⟨tid,boot,t.c.b+1,sealB key boot (t.c.b+1) ops,false⟩]) ⟨t.p,t.I,t.E,engB t.c ops⟩:=by
 obtain ⟨f,g,j,k⟩:=zw1 hs;have e:=zox h.eng d;rw[a]at e;have B:engV ⟨t.c.s,t.c.q,t.c.b,[]⟩=true:=zhB h.eng (l:=[]) (by simp) rfl;have D:putR ⟨t.c.s,t.c.q,t.c.b,[]⟩ ops=(engB ⟨t.c.s,t.c.q,t.c.b,[]⟩ ops,true):=by unfold putR;rw[B,d,show okB ⟨t.c.s,t.c.q,t.c.b,[]⟩ ops=okB t.c ops from rfl,a];rfl
 have A:repS key (rep0 t) (rows++ [⟨tid,boot,t.c.b+1,sealB key boot (t.c.b+1) ops,false⟩])=(engB ⟨t.c.s,t.c.q,t.c.b,[]⟩ ops,true):=by rw[zi6,h.runs,cond_true,h.eng_is];simp only[repS];simp_all
 have m:=h.seq;refine ⟨h.ep,h.base,h.snaps,h.tabs,e,by simp_all,?_,?_,h.start,?_,?_⟩
 ·show t.E+_=t.c.b+1;grind
 ·rw[zlr];intro i hi;simp only[Di,By]at hi;by_cases c:i<rows.length
  ·rw[List.getElem_append_left c];exact (zlr _ _).1 h.seqs i c
  ·grind
 ·show (repS key (rep0 t) _).2=true;rw[A]
 ·show (repS key (rep0 t) _).1.s=_;rw[A];rfl
theorem zzI {a:Af} (h:storeP a) (j:Nat) (d:j<a.a.length) (ops:List Op) (q:s.J.length<120) (hl:(ofLR a.a[j].p a.B).length<=5) (l:okB a.a[j].c ops=true) (m:batchV ops=true) (hs: ¬sealB (keyOfV a.j a.a[j].p) a.A (a.a[j].c.b+1) ops= []):storeP (putS s a (j:Int) ops):=by
 unfold putS;rw[zr _ j d,Bh];have g: ∀t:Ae,t.p=a.a[j].p->(a.a.set j t).map Ae.p=a.a.map Ae.p:=λt k=>set_mapE d k;refine ⟨h.secret,h.keys,h.shares,h.boot,by grind,(g ⟨a.a[j].p,a.a[j].I,a.a[j].E,engB a.a[j].c ops⟩ rfl).trans h.slots,(g ⟨a.a[j].p,a.a[j].I,a.a[j].E,engB a.a[j].c ops⟩ rfl).trans h.ids,λx n=>?_,λr f=>?_⟩
 ·rcases zq0 n with rfl | ⟨i,hi,o,rfl⟩
  ·have:=zz5 (h.tens _ (Bf d)) ops a.A hl l m hs a.a[j].p;show tenP (keyOfV a.j a.a[j].p) (ofLR a.a[j].p (a.B++_)) _;rw[zp1];have e:ofLR a.a[j].p [(⟨a.a[j].p,a.A,a.a[j].c.b+1,sealB (keyOfV a.j a.a[j].p) a.A (a.a[j].c.b+1) ops,false⟩:Ah)]= [⟨a.a[j].p,a.A,a.a[j].c.b+1,sealB (keyOfV a.j a.a[j].p) a.A (a.a[j].c.b+1) ops,false⟩]:=by unfold ofLR;simp
   rw[e];trivial
  ·have:=h.tens _ (Bf hi);have u:=h.ne hi d o;show tenP (keyOfV a.j a.a[i].p) (ofLR a.a[i].p (a.B++_)) _;rw[zp1];have e:ofLR a.a[i].p [(⟨a.a[j].p,a.A,a.a[j].c.b+1,sealB (keyOfV a.j a.a[j].p) a.A (a.a[j].c.b+1) ops,false⟩:Ah)]= []:=by unfold ofLR;grind
   rw[e,Da];trivial
 ·have v:r.r∈a.a.map Ae.p:=by
   rcases Dp.1 f with f | f
   ·obtain ⟨t,k,e⟩:=h.rows r f;grind
   ·grind
  grind
def zyr (h:storeP s) (j:Nat) (e:j<s.a.length) (ops:List Op):storeP (writeS s (j:Int) ops).1:=by
 unfold writeS;by_cases l:120<=s.J.length
 ·simp_all
 ·rw[decide_eq_false l];cases m:batchV ops with
  | false=>exact h
  | true=>
    cases Dc ((bytesN (applyK (mapR (tenE s.a (j:Int)).c (tenE s.a (j:Int)).c.b) ops):Int)>quoV (-1) s.u (tenE s.a (j:Int)).p) with
    | true=>exact h
    | false=>
      cases d:okB (tenE (roomS s (j:Int)).a (j:Int)).c ops&& !Dc (sealB (keyOfV s.j (tenE s.a (j:Int)).p) s.A ((tenE s.a (j:Int)).c.b+1) ops= []) with
      | false=>exact h
      | true=>
        simp only[cond_true,cond_false];obtain ⟨r1,r2,n,q,t,v,f,o,g,i⟩:=zyX s j e;have k:j<(roomS s (j:Int)).a.length:=by omega
        rw[Cj,Bool.not_eq_true',decide_eq_false_iff_not]at d;rw[zr _ j k]at f o g d;rw[zr _ j e,<-f,<-g,<-r2,<-n]at d;rw[<-f]at i;exact zzI (zyY h j e) j k ops (by omega) i d.1 m d.2
def zvr (h:storeP s) (j:Nat) (e:j<s.a.length) (l:List Int) (hl:l.length<=2) (f:engV ⟨s.a[j].c.s,s.a[j].c.q,s.a[j].c.b,l⟩=true):storeP (withE s (j:Int) l):=by unfold withE;rw[zr _ j e];have d:=h.tens _ (Bf e);exact zvs h j e _ rfl ⟨d.ep,d.base,hl,d.tabs,f,d.few,d.seq,d.seqs,d.start,d.runs,d.mem⟩
theorem zy1 (h:storeP s) (j:Nat) (d:j<s.a.length):storeP (snapS s (j:Int)).1:=by
 unfold snapS;rw[zr _ j d];have e:=h.tens _ (Bf d);by_cases f:s.a[j].c.b∈s.a[j].c.t
 ·simp_all
 ·by_cases g:2<=s.a[j].c.t.length
  ·simp_all
  ·rw[decide_eq_false f,decide_eq_false g];have:=zy0 e.eng;unfold snapR at this;rw[if_pos e.eng,if_neg f,if_neg (by omega)]at this;exact zvr h j d _ (by grind) this
def zxy (l:List Int) (x:Int):(dropS l x).length<=l.length:=Bw _ _
def zyJ (h:storeP s) (j:Nat) (b:j<s.a.length) (c:As):storeP (heldS s (j:Int) c).1:=by
 unfold heldS;rw[zr _ j b];have d:=h.tens _ (Bf b);by_cases e:c.N∈s.a[j].c.t
 ·rw[decide_eq_true e];cases Dc (c.D=10) with
  | true=>exact h
  | false=>have:=zvy d.eng c.N;unfold engDropR at this;rw[if_pos d.eng,if_pos e]at this;have hl:=zxy s.a[j].c.t c.N;have hs:=d.snaps;exact zvr h j b _ (by omega) this
 ·simp_all
def zzU (h:storeP s) (j:Nat) (b:j<s.a.length) (c:As):storeP (tenS s (j:Int) c).1:=by
 unfold tenS;cases Dc (c.D=5) with
 | true=>exact zyr h j b _
 | false=>
 cases Dc (c.D=6) with
 | true=>exact h
 | false=>
 cases Dc (c.D=7) with
 | true=>exact h
 | false=>
 cases Dc (c.D=8) with
 | true=>exact zy1 h j b
 | false=>
 cases Dc (c.D=11) with
 | true=>exact h
 | false=>exact zyJ h j b c
def zyt (h:storeP s) (c:As):storeP (callS s c).1:=by
 unfold callS;rcases zdA s.a (tokR s.C c.P).1 with ⟨j,b,e,_,_⟩ | ⟨e,_⟩
 ·rw[e];cases (!(tokR s.C c.P).2.2||(Dc ((j:Int)<0)|| !Dc ((tenE s.a (j:Int)).I=(tokR s.C c.P).2.1))) with
  | true=>exact h
  | false=>exact zzU h j b c
 ·simp_all
def zzH (h:storeP s) (c:As):storeP (ownS s c).1:=by
 unfold ownS;rcases zdA s.a c.r with ⟨j,b,e,d,_⟩ | ⟨e,_⟩
 ·rw[e,decide_eq_false (by omega),cond_false];cases Dc (c.D=2) with
  | true=>exact zx1 h c ⟨_,Bf b,d⟩
  | false=>
  cases Dc (c.D=3) with
  | true=>exact zw7 h _
  | false=>
  cases Dc (c.D=4) with
  | true=>exact zxa h j b
  | false=>exact znL h j b
 ·simp_all
theorem zlC (d:Ar) (h:d.x.length<=1048576):zcP d=some d:=by unfold zcP zfG;rw[zg (by grind) (by grind)];rfl
theorem zn5 (d:Ar) (h:d.x.length<=1048576):ze7 d=some d:=by unfold ze7;rw[zg (by grind) (by grind)];rfl
theorem zpb (l:List Ah) (h:l.length<=1048576):zcE l=some l:=by unfold zcE;rw[zg (by grind) (by grind)];rfl
def zx9 {id:Int} (a: ∀x∈d.x,¬x.r=id):fstV (λx:Ao=>decide (x.r=id)) d.x= -1:=by
 rcases zlR (λx:Ao=>decide (x.r=id)) d.x with ⟨j,b,_,e,_⟩ | ⟨e,_⟩
 ·simp_all
 ·exact e
theorem zrT {id:Int} (b:keysV d=true) (c: ∀x∈d.x,¬x.r=id) (e:keysV (addKS d id key)=true):ziW d id key=some (addKS d id key,true):=by
 have g:=((zcn d).1 b).2.1;have f:placeK d.x id<=d.x.length:=(ziU _ _).1;have a:zcD (addKS d id key)=some true:=by rw[zhz,zrF,<-zr7,e]
 unfold ziW;rw[zhz,zft d (by omega),b,ziI d id (by omega),zlC d (by omega),zx9 c];simp only[An,Bl,Ba,if_false];rw[if_neg (by decide),zrC (R:=Ar × Bool) (λx:Ao=>decide (x.r<id)) d.x (by omega) (λk a=>?_) (by simp)]
 ·simp only[zd];unfold zfc ins;rw[if_pos ⟨by omega,by exact_mod_cast f,by grind,by grind⟩,Bh];simp only[An];show (zcD (addKS d id key)).bind _=_;rw[a];rfl
 ·simp only[zb d.x k a,An];simp_all
theorem zyV (q:α->Bool) (x:α) (by_:Nat) (o:by_<=100) (l:List α) (hl:l.length<=1048576) {body:Bool × Int × List α->Option (Ctl (Bool × Int × List α) (Ctl (Bool × List α) R))} {f:Bool × List α->Option R} (s:body=λ(G:Bool × Int × List α)=>if (Dc (G.2.1<(l.length:Int)))=true then ((if (!G.1)=true then ((idx l G.2.1).bind λJ=>
 some (q J))
 else (some false)).bind (λ(T:Bool)=>
 bindC (if T=true then ((app by_ G.2.2 ([x])).bind λM=>
 some (.go (true,M)))
 else (some (.go (G.1,G.2.2))))
 (λ(I:Bool × List α)=>(idx l G.2.1).bind λN=>
 (app by_ I.2 ([N])).bind λO=>
 some (.go (I.1,I6.wrap (G.2.1+(1:Int)),O)))))
 else (some (.done (.go (G.1,G.2.2))))) (t:(l.takeWhile λy=>!q y).length=l.length->f (false,l)=some z) (u:f (true,l.take (l.takeWhile λy=>!q y).length++(x::l.drop (l.takeWhile λy=>!q y).length))=some z):bindC (loopO body (false,(0:Int),([]:List α))) f=some z:=by
 obtain ⟨v,t2,w⟩:=ziU (λy=>!q y) l;generalize (l.takeWhile λy=>!q y).length=a at v t2 w t u;have U: ∀(F:List α) (y:α),F.length<=1048578->app by_ F [y]=some (F++ [y]):=λF y h=>zg (by have:(F.length+([y]:List α).length)*by_<=1048579*100:=Fl (by simp_all) o;omega) (by grind);refine zW (λk (S:Bool × Int × List α)=>S.2.1=(k:Int)/\((k<=a/\S.1=false/\S.2.2=l.take k)\/(a<k/\S.1=true/\S.2.2=l.take a++(x::(l.drop a).take (k - a))))) l.length
  (λr=>∃p F,r= .go (p,F)/\((p=false/\F=l/\a=l.length)\/(p=true/\F=l.take a++(x::l.drop a)))) ⟨rfl,.inl ⟨Bm _,rfl,by simp⟩⟩ ?_ ?_ ?_
 ·rintro k ⟨p,i,F⟩ d ⟨b,c⟩;simp only at b c;subst b;left;have e:I6.wrap ((k:Int)+(1:Int))=((k+1:Nat):Int):=by rw[za (by omega) (by omega)];omega
  have A:(Dc ((k:Int)<(l.length:Int)))=true:=by simp_all
  have E:(l.drop a).take (k+1 - a)=(l.drop a).take (k - a)++(if a<=k then [l[k]] else []):=by
   by_cases B:a<=k
   ·rw[if_pos B,show k+1 - a=(k - a)+1 by omega,zbc _ _ (by grind),Dm];simp_all
   ·grind
  rw[s];simp only[A,if_true];rcases c with ⟨g,rfl,rfl⟩ | ⟨g,rfl,rfl⟩
  ·have C:(l.take k).length<=1048576:=by grind
   simp only[Cq,if_true,zb l k d,An];by_cases D:k=a
   ·subst D;have j:q l[k]=true:=by simp_all
    refine ⟨(true,((k+1:Nat):Int),(l.take k++ [x])++ [l[k]]),?_,rfl,.inr ⟨by simp,rfl,?_⟩⟩
    ·rw[j];simp only[if_true,U _ _ (show (l.take k).length<=1048578 by omega),An,zd,e];grind
    ·simp_all
   ·have j:q l[k]=false:=by grind
    refine ⟨(false,((k+1:Nat):Int),l.take k++ [l[k]]),?_,rfl,.inl ⟨by omega,rfl,(zbc l k d).symm⟩⟩;rw[j];simp only[Ba,if_false,U _ _ (show (l.take k).length<=1048578 by omega),An,zd,e]
  ·have C:(l.take a++(x::(l.drop a).take (k - a))).length<=1048577:=by grind
   refine ⟨(true,((k+1:Nat):Int),(l.take a++(x::(l.drop a).take (k - a)))++ [l[k]]),?_,rfl,.inr ⟨by omega,rfl,?_⟩⟩
   ·simp only[Bl,Ba,if_false,An,zd,zb l k d,U _ _ (show (l.take a++(x::(l.drop a).take (k - a))).length<=1048578 by omega),e]
   ·grind
 ·rintro ⟨p,i,F⟩ ⟨b,c⟩;simp only at b c;subst b;refine ⟨.go (p,F),by simp_all,p,F,rfl,?_⟩;rcases c with ⟨g,m,n⟩ | ⟨g,m,n⟩
  ·grind
  ·exact .inr ⟨m,by rw[n,Cu (l:=l.drop a) (by simp)]⟩
 ·rintro _ ⟨p,F,rfl,⟨rfl,rfl,h⟩ | ⟨rfl,rfl⟩⟩
  ·simp_all
  ·trivial
theorem zst {id:Int} (a:keysV d=true) (c:keysV (addKS d id key)=true):zi9 d id key=some (addKS d id key,true):=by
 have g:=((zcn d).1 a).2.1;have f:zbo (addKS d id key)=some true:=by rw[zrF,<-zr7,c]
 have b:(d.x.takeWhile λy=>!Dc (y.r>=id)).length=placeK d.x id:=by unfold placeK;grind
 unfold zi9;rw[zft d (by omega),a,zn5 d (by omega)];simp only[An,Bl,Ba,if_false];refine zyV (λy:Ao=>decide (y.r>=id)) (⟨id,key⟩:Ao) 24 (by omega) d.x (by omega) rfl (λh=>?_) ?_
 ·rw[b]at h;simp only[Cq,if_true];rw[zg (by grind) (by grind)];simp only[An,zd];have e:(⟨d.K,d.x++ [⟨id,key⟩],d.H⟩:Ar)=addKS d id key:=by unfold addKS;simp_all
  simp_all
 ·rw[b];simp only[Bl,Ba,if_false,zd];show (zbo (addKS d id key)).bind _=_;rw[f];rfl
theorem zzY (a:keysV d=true) {id:Int} (b:j<d.x.length) (h:d.x[j].r=id):(d.x.filter λx=>!Dc (x.r=id))=d.x.take j++d.x.drop (j+1):=by have c:=Bz.1 ((zcn d).1 a).2.2.2.2;refine zjW d.x _ j b (by simp[h]) λi hi e=>?_;grind
theorem zqv {id:Int} (a:keysV d=true) (g: ∃x∈d.x,x.r=id) (h:d.H<1000000):zhF d id=some (wipeKS d id,true):=by
 obtain ⟨_,i,k,_,_⟩:=(zcn d).1 a;unfold zhF;rw[zhz,zft d (by omega),a,ziI d id (by omega),zlC d (by omega)];rcases zlR (λx:Ao=>decide (x.r=id)) d.x with ⟨j,c,e,b,_⟩ | ⟨_,b⟩
 ·rw[e];simp only[An,Bl,Ba,if_false];rw[if_neg (by simp)];simp only[An];rw[decide_eq_false (by omega),if_neg (by simp)];unfold zfb;have f:I6.wrap ((j:Int)+1)=((j+1:Nat):Int):=by rw[za (by omega) (by omega)];omega
  rw[f,zZ d.x j (j+1) _ _ rfl rfl (by omega) (by omega),zZ d.x 0 j 0 (j:Int) rfl rfl (by omega) (by omega),zZ d.x (j+1) d.x.length _ _ rfl rfl (by omega) (by omega),za (n:=d.H+1) (by omega) (by omega)];simp only[An];rw[if_neg (by grind)];simp only[An];unfold wipeKS;rw[zzY a c (of_decide_eq_true b)];have l:(d.x.drop (j+1)).take (d.x.length - (j+1))=d.x.drop (j+1):=Cu (by simp);simp_all
 ·grind
theorem zto (p:α->Bool) (by_:Nat) (b:by_<=100) (l:List α) (hl:l.length<=1048576) (h: ∀k (a:k<l.length) (A:List α),app by_ A [l[k]]=some (A++ [l[k]])->body ((k:Int),A)=some (.go (I6.wrap ((k:Int)+1),if p l[k]=true then A++ [l[k]] else A))) (c: ∀A,body ((l.length:Int),A)=some (.done (.go A))) (d:f (l.filter p)=some z):bindC (loopO body ((0:Int),([]:List α))) f=some z:=by
 refine zW (λk (S:Int × List α)=>S=((k:Int),(l.take k).filter p)) l.length (λr=>r= .go (l.filter p)) rfl ?_ ?_ (λr e=>by simp_all)
 ·rintro k _ a rfl;left;have g:((l.take k).filter p).length<=k:=Df (Bw _ _) (by grind);refine ⟨_,h k a _ (zg ?_ ?_),?_⟩
  ·have:(((l.take k).filter p).length+([l[k]]:List α).length)*by_<=1048579*100:=Fl (by grind) b;omega
  ·grind
  ·rw[za (n:=(k:Int)+1) (by omega) (by omega),zdB p l k a];grind
 ·simp_all
theorem zrj {id:Int} (a:keysV d=true) (c: ∃x∈d.x,x.r=id) (e:d.H<1000000):zin d id=some (wipeKS d id,true):=by
 obtain ⟨_,f,g,_,_⟩:=(zcn d).1 a;unfold zin;rw[zft d (by omega),a,zn5 d (by omega)];simp only[An,Bl,Ba,if_false];refine zto (λx:Ao=>!Dc (x.r=id)) 24 (by omega) d.x (by omega) (λk b A h=>?_) (λA=>by simp) ?_
 ·simp only[zb d.x k b,An];rw[if_pos (by simp_all)];cases Dc (d.x[k].r=id) with
  | true=>rfl
  | false=>simp_all
 ·have i:(d.x.filter λx=>!Dc (x.r=id)).length<d.x.length:=by simp_all
  rw[if_neg (by grind)];simp only[An];rw[decide_eq_false (by omega),if_neg (by simp),za (n:=d.H+1) (by omega) (by omega)];rfl
def zly (l:List Ah) (id:Int) (hl:l.length<=1048576):zfL l id=some (noLR id l):=by
 unfold zfL;refine zto (λx:Ah=>!Dc (x.r=id)) 48 (by omega) l hl (λk a h b=>?_) (λh=>by simp) rfl;simp only[zb l k a,An];rw[if_pos (by simp_all)];cases Dc (l[k].r=id) with
 | true=>rfl
 | false=>simp_all
theorem zyy (p:α->Bool) (l:List α) (hl:l.length<=1048576) (a:Nat) (u:a<l.length) (v:p l[a]=true) (F: ∀i (hi:i<a),p (l[i]'(by omega))=false) {g:α->Option Bool} (w: ∀x,g x=some (p x)) {body:Int × Int × List α->Option (Ctl (Int × Int × List α) (Ctl (Int × List α) R))} {f:Int × List α->Option R} (y:body=λ(I:Int × Int × List α)=>if (Dc (I.2.1<(I.2.2.length:Int)))=true then ((idx I.2.2 I.2.1).bind λJ=>
 (g J).bind λN=>
 bindC (if (!N)=true then ((idx I.2.2 I.1).bind λO=>
 some (.go (I6.wrap (I.1+(1:Int)),(I.2.2.set I.1.toNat J))))
 else (some (.go (I.1,I.2.2))))
 (λ(M:Int × List α)=>some (.go (M.1,I6.wrap (I.2.1+(1:Int)),M.2))))
 else (some (.done (.go (I.1,I.2.2))))) (G: ∀(i:Nat) ls,ls.length=l.length->i<=l.length->ls.take i=(l.filter λx=>!p x)->f ((i:Int),ls)=some z):bindC (loopO body ((a:Int),I6.wrap ((a:Int)+(1:Int)),l)) f=some z:=by
 refine zW (λk (S:Int × Int × List α)=>∃i:Nat,S.1=(i:Int)/\S.2.1=((a+1+k:Nat):Int)/\i<a+1+k/\(S.2.2.length=l.length/\∀q (e:q<l.length),a+1+k<=q->S.2.2[q]? =some l[q])/\S.2.2.take i=((l.take (a+1+k)).filter λx=>!p x)) (l.length - (a+1))
  (λr=>∃i ls,r= .go (((i:Nat):Int),ls)/\ls.length=l.length/\i<=l.length/\ls.take i=(l.filter λx=>!p x)) ?_ ?_ ?_ ?_
 ·refine ⟨a,rfl,by simp only;rw[za (by omega) (by omega)];omega,by omega,⟨rfl,λq e _=>by simp⟩,?_⟩;rw[Fa,zdB _ l a u,v];simp only[Bl,Ba,if_false,Da];rw[Db.2];intro x A;obtain ⟨i,hi,rfl⟩:=Bt A;grind
 ·rintro k ⟨B,C,ls⟩ H ⟨i,b,c,o,⟨j,m⟩,d⟩;simp only at b c o j m d;subst b c;left;have s:a+1+k<l.length:=by omega
  have D:idx ls ((a+1+k:Nat):Int)=some l[a+1+k]:=by rw[zb ls _ (by omega)];simp_all
  rw[y];simp only[D,An,w];rw[if_pos (decide_eq_true (by omega)),za (n:=((a+1+k:Nat):Int)+1) (by omega) (by omega),show ((a+1+k:Nat):Int)+1=((a+1+(k+1):Nat):Int) by omega];have E:i<ls.length:=by omega
  cases t:p l[a+1+k] with
  | true=>simp only[Bl,Ba,if_false,zd];refine ⟨_,rfl,i,rfl,rfl,by omega,⟨j,λq e h=>m q e (by omega)⟩,?_⟩;simp only;rw[d,show a+1+(k+1)=(a+1+k)+1 by omega,zdB _ l (a+1+k) s,t];simp
  | false=>
    simp only[Cq,if_true,Bh,zb ls i E,An,zd];rw[za (n:=(i:Int)+1) (by omega) (by omega)];refine ⟨_,rfl,i+1,by simp,rfl,by omega,⟨by simp_all,λq e h=>?_⟩,?_⟩
    ·rw[Ep (by omega)];grind
    ·simp only;rw[zbc _ i (by simp_all),Cx,Ea (Bp _),d,show a+1+(k+1)=(a+1+k)+1 by omega,zdB _ l (a+1+k) s,t];rfl
 ·rintro ⟨B,C,ls⟩ ⟨i,b,c,o,⟨j,m⟩,d⟩;simp only at b c o j m d;subst b c;have T:a+1+(l.length - (a+1))=l.length:=by omega
  grind
 ·simp_all
theorem zwF (l:List Ah) (id:Int) (hl:l.length<=1048576):zM l id=some (noLR id l):=by
 have hi:zN l id=some (fstV (λt=>decide (t.r=id)) l):=by unfold zN fstV;rw[zhb (λt:Ah=>decide (t.r=id)) l (by omega) (λj=>j) rfl (λk b=>?_) (by simp)];simp only[zb l k b,An,zb5];rw[if_pos (by simp_all),za (by omega) (by omega)];grind
 unfold zM;rw[hi,An];rcases zlR (λt:Ah=>decide (t.r=id)) l with ⟨j,c,e,a,d⟩ | ⟨e,a⟩
 ·rw[e,decide_eq_false (by omega),if_neg (by simp)];refine zyy (λt:Ah=>decide (t.r=id)) l hl j c a d (g:=λx=>zb5 x id) (λx=>rfl) rfl λi ls h m f=>?_;rw[zZ ls i ls.length _ _ rfl rfl (by omega) (by omega),zZ ls 0 i 0 (i:Int) rfl rfl (by omega) (by omega)];simp only[An,Eb,Ft];rw[f];rfl
 ·rw[e];simp only[decide_true,if_true];unfold noLR;rw[Db.2 λx n=>by simp_all]
def zkt (s:Af) (id:Int) (hl:s.B.length<=1048576):zbU s id=some ⟨s.C,s.j,s.u,s.a,noLR id s.B,s.J,s.A⟩:=by unfold zbU;rw[zwF s.B id hl];rfl
theorem zxz (l:List Ae) (id:Int) (hl:l.length<=1048576):zQ l id=some (noTE id l):=by
 have hi:zU l id=some (fstV (λt=>decide (t.p=id)) l):=by unfold zU fstV;rw[zhb (λt:Ae=>decide (t.p=id)) l (by omega) (λj=>j) rfl (λk b=>?_) (by simp)];simp only[zb l k b,An,zcw];rw[if_pos (by simp_all),za (by omega) (by omega)];grind
 unfold zQ;rw[hi,An];rcases zlR (λt:Ae=>decide (t.p=id)) l with ⟨j,c,e,a,d⟩ | ⟨e,a⟩
 ·rw[e,decide_eq_false (by omega),if_neg (by simp)];exact zyz (λt:Ae=>decide (t.p=id)) l (by omega) j c a d (g:=λx=>zcw x id) (λx=>rfl) rfl λi ls f h m=>zzk l _ i ls f h m
 ·rw[e];simp only[decide_true,if_true];unfold noTE;rw[Db.2 λx n=>by simp_all]
theorem ztg (key:List UInt8): ∀(B:List Ah) (e:Aa),(repS key e B).2=true->∀r∈B,r.L.length<=300
 | [],_,_,r,a=>by trivial
 | q::B,e,h,r,a=>by
   simp only[repS]at h;cases c:(openB key q.A q.b q.L).2&&(putR e (openB key q.A q.b q.L).1).2 with
   | false=>rw[c]at h;cases h
   | true=>
     rw[c]at h;rcases Eu.1 a with rfl | a
     ·have d:=(Cj _ _ ▸ c:_/\_).1;unfold openB at d;grind
     ·exact ztg key B _ h r a
theorem zwi: ∀(ids:List Int) (l:List Ah),(∀r∈l,r.r∈ids)->(∀id∈ids,(ofLR id l).length<=6)->l.length<=6*ids.length
 | [],l,h,_=>by
   cases l with
   | nil=>simp
   | cons r l=>have:=h r (by simp);cases this
 | id::ids,l,h,c=>by
   have d:=c id (by simp);have g:l.length=(ofLR id l).length+(noLR id l).length:=by
    unfold ofLR noLR;clear h c d;induction l with
    | nil=>rfl
    | cons r l ih=>grind
   have i:=zwi ids (noLR id l) (λr f=>by
    obtain ⟨a,b⟩:=Ct.1 f;rcases Eu.1 (h r a) with e | e
    ·simp_all
    ·exact e) λk j=>Df (by
     have:(ofLR k (noLR id l)).Sublist (ofLR k l):=List.filter_sublist.filter _;grind) (c k (by simp_all))
   grind
theorem storeP.rlen (h:storeP s):s.B.length<=24:=by
 have f:=zwi (s.a.map Ae.p) s.B (λr c=>by obtain ⟨t,b,e⟩:=h.rows r c;rw[<-e];exact Dh b) λid d=>by obtain ⟨t,b,rfl⟩:=Fc.1 d;exact (h.tens t b).few
 have:=h.lens;grind
def tenP.small {rows:List Ah} (h:tenP key rows t):smallT t:=by obtain ⟨a,b,c,d,_⟩:=zbC h.eng;exact ⟨a,b,c,d⟩
def storeP.small {s:Af} (h:storeP s):smallS s:=by obtain ⟨c,d,f⟩:=h.lens;have g:=h.rlen;have i:=h.hist;refine ⟨λt a=>(h.tens t a).small,by omega,λr b=>?_,by omega,by omega,by omega,by omega⟩;obtain ⟨t,a,e⟩:=h.rows r b;have:=ztg _ _ _ (h.tens t a).runs r (Ct.2 ⟨b,decide_eq_true e.symm⟩);omega
theorem znI (l:List Ae) (hl:l.length<=1048576) (h:Ae->Ae) {body:Int × List Ae->Option (Ctl (Int × List Ae) (Ctl (List Ae) R))} {f:List Ae->Option R} (b: ∀k (a:k<l.length) A,body ((k:Int),A)=(app 104 A [h l[k]]).bind λE=>some (.go (I6.wrap ((k:Int)+(1:Int)),E))) (c: ∀A,body ((l.length:Int),A)=some (.done (.go A))) (d:f (l.map h)=some z):
 bindC (loopO body ((0:Int),([]:List Ae))) f=some z:=by
 obtain ⟨r,e,rfl⟩:=zbr (body:=body) (s0:=((0:Int),([]:List Ae))) (λk (S:Int × List Ae)=>S=((k:Int),(l.take k).map h)) l.length (λr=>r= .go (l.map h)) rfl (by
  rintro k _ a rfl;left;refine ⟨_,?_,rfl⟩;have g:((l.take k).map h).length<=1048576:=by grind
  rw[b k a,zg (by grind) (by grind),za (n:=(k:Int)+1) (by omega) (by omega),zbc l k a,Dd];rfl) (by
  simp_all)
 simp_all
def zoU (h:storeP s):zfZ s=some s:=by have hs:=h.small;unfold zfZ;simp only[zlC _ hs.slots,zgK _ hs.shares,zpb _ hs.rows,zpb _ hs.hist,An];refine znI s.a hs.tens id (λk f A=>?_) (λA=>by simp) (by simp);obtain ⟨a,b,c,d,e⟩:=zbC (h.tens _ (Bf f)).eng;simp only[zb s.a k f,An,zhP _ a b e d];simp_all
structure boundS (s:Af):Prop where
 slots:s.j.x.length<=5
 shares:s.u.m.length<=5
 tens:s.a.length<=5
 each: ∀t∈s.a,engV t.c=true
 rows:s.B.length<=25
 hist:s.J.length<=121
def storeP.bound (h:storeP s):boundS s:=by obtain ⟨b,c,d⟩:=h.lens;have e:=h.rlen;have f:=h.hist;exact ⟨by omega,by omega,by omega,λt a=>(h.tens t a).eng,by omega,by omega⟩
theorem zml (h:boundS s):zdl s=some s:=by have g:=h.slots;have i:=h.shares;have j:=h.tens;have l:=h.rows;have m:=h.hist;unfold zdl;rw[zn5 _ (by omega),zfr _ (by omega),zg (by grind) (by grind),zg (by simp only[Fk];omega) (by simp only[Fk];omega)];simp only[An];refine znI s.a (by omega) id (λk f A=>?_) (λA=>by simp) (by simp);obtain ⟨a,b,c,d,e⟩:=zbC (h.each _ (Bf f));simp only[zb s.a k f,An,zcj _ a b e d];simp_all
def zlw (h:storeP s):zdl s=some s:=zml h.bound
theorem zxD (l:List Ae) (j:Nat) (f:j<l.length) (h:l[j].c.q.length<=1048576): ∃b,zcp l (j:Int)=some (b,l.set j ⟨l[j].p,l[j].I,l[j].E,(flushS l[j].c).2⟩):=by
 have a:=zna l[j].c h;unfold zfS at a;unfold zcp;rw[zb l j f];simp only[An,Bh];cases d:(if (Dc (((l[j].c.s.length:Nat):Int)=(0:Int)))=true then (some true) else (some (Dc (((l[j].c.q.length:Nat):Int)>=(6:Int))))) with
 | none=>rw[d]at a;cases a
 | some T=>
   rw[d]at a;simp only[An]at a |-
   cases T with
   | true=>
     simp only[if_true,Cr]at a |-
     refine ⟨false,?_⟩;rw[<-a];show (false,l)=(false,l.set j l[j]);simp
   | false=>
     simp only[Ba,if_false]at a |-
     cases e:zbz l[j].c.q (0:Int) ([l[j].c.s]) with
     | none=>rw[e]at a;cases a
     | some R=>
       rw[e]at a;simp only[An,Cr]at a |-
       exact ⟨true,by grind⟩
theorem zxE (e:Ae) (h:e.c.q.length<=1048576): ∃b,zcq e=some (b,⟨e.p,e.I,e.E,(flushS e.c).2⟩):=by
 have a:=zna e.c h;unfold zfS at a;unfold zcq;cases d:(if (Dc ((e.c.s.length:Int)=(0:Int)))=true then (some true) else (some (Dc ((e.c.q.length:Int)>=(6:Int))))) with
 | none=>rw[d]at a;cases a
 | some T=>
   rw[d]at a;simp only[An]at a |-
   cases T with
   | true=>
     simp only[if_true,Cr]at a |-
     refine ⟨false,?_⟩;rw[<-a]
   | false=>
     simp only[Ba,if_false]at a |-
     cases f:zbz e.c.q (0:Int) ([e.c.s]) with
     | none=>rw[f]at a;cases a
     | some R=>
       rw[f]at a;simp only[An,Cr]at a |-
       exact ⟨true,by grind⟩
theorem zxX (l:List Ae) (j:Nat) (i:j<l.length) (h:engV l[j].c=true): ∃b,zcr l (j:Int)=some (b,l.set j ⟨l[j].p,l[j].I,l[j].E,(mergeS l[j].c).2⟩):=by
 have a:=zjL h;unfold zfT at a;unfold zcr;rw[zb l j i];simp only[An,Bh];cases d:Dc (((l[j].c.q.length:Nat):Int)=(0:Int)) with
 | true=>
   rw[d]at a;simp only[if_true,Cr]at a |-
   refine ⟨false,?_⟩;rw[<-a];show (false,l)=(false,l.set j l[j]);simp
 | false=>
   rw[d]at a;simp only[Ba,if_false]at a |-
   cases e:zca l[j].c.q with
   | none=>rw[e]at a;cases a
   | some R=>
     rw[e]at a;simp only[An]at a |-
     cases f:zb6 R l[j].c.t true with
     | none=>rw[f]at a;cases a
     | some C=>
       rw[f]at a;simp only[An]at a |-
       cases g:Dc ((C.length:Int)>(0:Int)) with
       | true=>
         rw[g]at a;simp only[if_true,zd,Cr]at a |-
         exact ⟨true,by grind⟩
       | false=>
         rw[g]at a;simp only[Ba,if_false,zd,Cr]at a |-
         exact ⟨true,by grind⟩
theorem zxY (e:Ae) (h:engV e.c=true): ∃b,zcs e=some (b,⟨e.p,e.I,e.E,(mergeS e.c).2⟩):=by
 have a:=zjL h;unfold zfT at a;unfold zcs;cases d:Dc ((e.c.q.length:Int)=(0:Int)) with
 | true=>
   rw[d]at a;simp only[if_true,Cr]at a |-
   exact ⟨false,by rw[<-a]⟩
 | false=>
   rw[d]at a;simp only[Ba,if_false]at a |-
   cases f:zca e.c.q with
   | none=>rw[f]at a;cases a
   | some R=>
     rw[f]at a;simp only[An]at a |-
     cases g:zb6 R e.c.t true with
     | none=>rw[g]at a;cases a
     | some C=>
       rw[g]at a;simp only[An]at a |-
       cases i:Dc ((C.length:Int)>(0:Int)) with
       | true=>
         rw[i]at a;simp only[if_true,zd,Cr]at a |-
         exact ⟨true,by grind⟩
       | false=>
         rw[i]at a;simp only[Ba,if_false,zd,Cr]at a |-
         exact ⟨true,by grind⟩
theorem zqo (e:Ae) (l:List Op) (d:engV e.c=true) (j:batchV l=true):zcf e l=some (okB e.c l,⟨e.p,e.I,e.E,engB e.c l⟩):=by
 obtain ⟨v,w,y,z,A,_⟩:=zbe d;obtain ⟨f,h,B⟩:=ziE d j;have m:I6.wrap (e.c.b+(1:Int))=e.c.b+1:=za (by omega) (by omega);obtain ⟨C,D,F,G⟩:=zhq l (e.c.b+1) e.c.s f h (by omega) l.length (Bp _);unfold zcf;simp only[m];rw[zl (λk=>(true,(k:Int),memB l (e.c.b+1) e.c.s k)) l.length (r:=Ctl.go (true,memB l (e.c.b+1) e.c.s l.length)) ?h0]
 case h0=>rfl
 ·simp only[zd,if_true,zhU e.c.q (by omega) (by omega),An];rw[za (by omega) (by omega)];unfold okB engB;have H:Dc ((((memB l (e.c.b+1) e.c.s l.length).length:Nat):Int)<=60)=Dc ((memB l (e.c.b+1) e.c.s l.length).length<=60):=decide_eq_decide.2 (by omega);have J:Dc ((totalV e.c.q:Int)+(((memB l (e.c.b+1) e.c.s l.length).length:Nat):Int)<=400)=Dc (totalV e.c.q+(memB l (e.c.b+1) e.c.s l.length).length<=400):=decide_eq_decide.2 (by omega);grind
 ·intro k a;have o:piece l (I6.wrap ((k:Int)+(1:Int))) (l.length:Int)=some (l.drop (k+1)):=by rw[za (by omega) (by omega),zZ l (k+1) l.length _ _ (by omega) rfl (by omega) (Bp _),Cu (by simp)]
  simp only[zb l k a,An,o,zm7 _ l[k] (by simp;omega:(l.drop (k+1)).length<=1048576)];rw[if_pos (by simpa using a),za (n:=(k:Int)+1) (by omega) (by omega)];have t:((l.drop (k+1)).any λx=>decide (x.g=l[k].g))=laterV l k l[k].g:=rfl;rw[t];cases i:laterV l k l[k].g with
  | true=>rw[zid l _ _ k a i];rfl
  | false=>have u:=(zoa l (e.c.b+1) e.c.s f h (by omega) k a i).1;unfold entO at u;simp_all
 ·simp
def zvW (l:List Ae) (j:Nat) (a:j<l.length) (h:engV l[j].c=true):zb4 l (j:Int)=some (allR l[j].c):=by have b:=zqu h;unfold zky at b;unfold zb4;rw[zb l j a];trivial
def zn8 (l:List Ae) (j:Nat) (d:j<l.length) (h:engV l[j].c=true):zbV l (j:Int)=some (mapR l[j].c l[j].c.b):=by obtain ⟨a,b⟩:=zez h;unfold zbV mapR;rw[zb l j d,zvW l j d h,h];simp only[An,zqH _ l[j].c.b a (by omega),cond_true]
def zyo (l:List Ae) (j:Nat) (d:j<l.length) (h:engV l[j].c=true) (key:List UInt8) (seq:Int):zct l (j:Int) key seq=some (getR l[j].c key seq):=by obtain ⟨a,b⟩:=zez h;unfold zct getR;rw[zb l j d,zvW l j d h,h];simp only[An,zvE _ key seq (by omega:(allR l[j].c).length<=1048576),cond_true];exact zwv _
theorem ztw (l:List Ae) (j:Nat) (a:j<l.length) (h:engV l[j].c=true) (key:List UInt8) (seq:Int):zbD l (j:Int) key seq=some (valR l[j].c key seq):=by unfold zbD valR;rw[zb l j a,zyo l j a h];simp only[An,no_R];grind
theorem zmn (h:engV e=true) (key:List UInt8) (seq:Int):zgI e key seq=some (valR e key seq):=by obtain ⟨a,b,c,d,_⟩:=zbC h;unfold zgI valR;rw[zsr e key seq a b c d];simp only[An,zfC];grind
def zju (h:storeP s) (id:Int):zbw s id=some (atE s.a id):=zkz s id h.small.tens
def zr8 (h:storeP s) (id:Int):zcY s.a id=some (atE s.a id):=znj s.a id h.small.tens
def znv (h:storeP s) (j:Nat) (b:j<s.a.length) (id:Int) (f:s.a[j].p=id) (g:atE s.a id=(j:Int)):zeE s id=some (codeR 0,flushO s (j:Int)):=by
 subst f;have A:=h.tens _ (Bf b);have m:=h.small.rows;obtain ⟨n,i⟩:=zxD s.a j b (by have:=A.tabs;omega);unfold zeE;rw[zju h,g,An,zb _ j b,An,i];simp only[An];have d:j<(s.a.set j ⟨s.a[j].p,s.a[j].I,s.a[j].E,(flushS s.a[j].c).2⟩).length:=by simp_all
 have e:(s.a.set j ⟨s.a[j].p,s.a[j].I,s.a[j].E,(flushS s.a[j].c).2⟩)[j]=⟨s.a[j].p,s.a[j].I,s.a[j].E,(flushS s.a[j].c).2⟩:=Cx _;obtain ⟨o,k⟩:=zxX _ j d (by rw[e];exact zji A.eng);rw[zb _ j d,An,k,e,Ff];simp only[An];have l:j<(s.a.set j ⟨s.a[j].p,s.a[j].I,s.a[j].E,(mergeS (flushS s.a[j].c).2).2⟩).length:=by simp_all
 rw[zb _ j l,Cx];simp only[An];rw[zkt]
 ·simp only[An,Bh,Ff];unfold flushO;rw[zr _ j b,Bh];rfl
 ·trivial
def zkY (h:storeP s) (j:Nat) (e:j<s.a.length):zeX s (j:Int)=some (flushO s (j:Int)):=by
 have A:=h.tens _ (Bf e);obtain ⟨a,b,c,d,_⟩:=zbC A.eng;obtain ⟨f,g,i,k,_⟩:=zbC (zji A.eng);have l:(flushR s.a[j].c).1=(flushS s.a[j].c).2:=by unfold flushR;rw[A.eng];rfl
 have m:(mergeER (flushS s.a[j].c).2).1=flatE s.a[j].c:=by unfold mergeER;rw[zji A.eng];rfl
 unfold zeX;rw[zb _ j e,An,zp8 _ a b c d,An,l,zp9 _ f g i k,An,m,zly _ _ h.small.rows];unfold flushO;rw[zr _ j e];rfl
theorem zw4 (h:storeP s) (j:Nat) (b:j<s.a.length) (d:Int):quoV d s.u s.a[j].p=quoV (-1) s.u s.a[j].p:=by unfold quoV;have c:s.a[j].p∈s.a.map Ae.p:=Dh (Bf b);rw[h.ids]at c;grind
def zzm (e:Aa):(⟨(flushS e).2.s,(flatE e).q,(flatE e).b,e.t⟩:Aa)=flatE e:=by obtain ⟨a,b,c⟩:=zmL (flushS e).2;have d:=(zfu e).2;have f:(flatE e).s=(flushS e).2.s:=a;rw[<-f,<-d]
def zyI (e:Aa):(⟨(flushS e).2.s,(flushS e).2.q,(flushS e).2.b,e.t⟩:Aa)=(flushS e).2:=by have:=(zqs e).2;rw[<-this]
theorem zrE (m:List KV) (ops:List Op) (b:srtK m) (c: ∀x∈m,kvV x=true) (d:m.length<=100000) (e:ops.length<=1048576):zcN m ops=some (bif batchV ops then (applyK m ops,true) else (m,false)):=by
 by_cases f:ops.length<=1000
 ·exact zty _ _ b c d f
 ·have a:batchV ops=false:=by
   cases a:batchV ops with
   | false=>rfl
   | true=>have:=(zcd a).1;omega
  unfold zcN;rw[zmu m b c (by omega)];simp only[An,Bl,Ba,if_false];rw[zg (by grind) (by grind),zdN ops e,a];rfl
theorem zrZ (h:storeP s) (j:Nat) (d:j<s.a.length) (c:As) (g:c.O.length<=1048576):zbQ s (j:Int) c=some ((writeS s (j:Int) c.O).2,(writeS s (j:Int) c.O).1):=by
 have hT:=h.tens _ (Bf d);have hs:=h.small;have P:=h.rlen;have Q:=h.hist;obtain ⟨l,m,R,n,o⟩:=zbC hT.eng;unfold zbQ writeS;rw[zb _ j d,zr _ j d];simp only[An,no_R];have v:Dc ((s.J.length:Int)>=120)=Dc (120<=s.J.length):=decide_eq_decide.2 (by omega);rw[v];by_cases w:120<=s.J.length
 ·simp_all
 rw[decide_eq_false w];simp only[Ba,if_false,zfg c.O g,An,cond_false];cases e:batchV c.O with
 | false=>rfl
 | true=>
 have S:=(zcd e).1;have T:=zkO s.a[j].c s.a[j].c.b;have U:=zjS c.O (mapR s.a[j].c s.a[j].c.b);have x:srtK (mapR s.a[j].c s.a[j].c.b):=zpW hT.eng _;have y:=zoB hT.eng s.a[j].c.b;simp only[Bl,Ba,if_false,cond_true,zn8 _ j d hT.eng,An,zqB (mapR s.a[j].c s.a[j].c.b) c.O x (by omega) (by omega),zlf _ (zsL y e) (by omega),zqE s.u _ hs.shares,zw4 h j d 0];cases Dc ((bytesN (applyK (mapR s.a[j].c s.a[j].c.b) c.O):Int)>quoV (-1) s.u s.a[j].p) with
 | true=>rfl
 | false=>
 have er:rowsV s s.a[j].p=ofLR s.a[j].p s.B:=rfl;have z:Dc ((((ofLR s.a[j].p s.B).length:Nat):Int)>=6)=Dc (6<=(ofLR s.a[j].p s.B).length):=decide_eq_decide.2 (by omega);simp only[Ba,if_false,cond_false,zhP _ l m o n,zeG s _ hs.rows,An,er,z];unfold roomS;rw[zr _ j d];cases V:Dc (6<=(ofLR s.a[j].p s.B).length) with
 | false=>
   have i:=zqo ⟨s.a[j].p,s.a[j].I,s.a[j].E,⟨s.a[j].c.s,s.a[j].c.q,s.a[j].c.b,s.a[j].c.t⟩⟩ c.O hT.eng e;have f:(engB s.a[j].c c.O).b=s.a[j].c.b+1:=rfl;simp only[Ba,if_false,cond_false,zd,i,An,zjw s.j _ hs.slots,zjM _ _ _ c.O g,f];rw[zr _ j d];cases C:okB s.a[j].c c.O with
   | false=>rfl
   | true=>
     simp only[Bl,Ba,if_false,An,Cg];cases D:Dc (sealB (keyOfV s.j s.a[j].p) s.A (s.a[j].c.b+1) c.O= []) with
     | true=>rfl
     | false=>simp only[Ba,if_false,Cq,cond_true];rw[zg (by grind) (by grind),zg (by simp only[By];omega) (by simp only[By];omega)];simp only[An,Bh];unfold putS;rw[zr _ j d];rfl
 | true=>
   obtain ⟨W,F⟩:=zxE ⟨s.a[j].p,s.a[j].I,s.a[j].E,s.a[j].c⟩ (by trivial);obtain ⟨X,G⟩:=zxY ⟨s.a[j].p,s.a[j].I,s.a[j].E,(flushS s.a[j].c).2⟩ (zji hT.eng);have H:=zrQ hT.eng;have i:=zqo ⟨s.a[j].p,s.a[j].I,(flatE s.a[j].c).b,flatE s.a[j].c⟩ c.O H e;have f:(engB (flatE s.a[j].c) c.O).b=s.a[j].c.b+1:=by show (flatE s.a[j].c).b+1=_;rw[(zfu _).1]
   have K:(mergeS (flushS s.a[j].c).2).2=flatE s.a[j].c:=rfl;have k:tenE (flushO s (j:Int)).a (j:Int)=flushT s.a[j]:=by unfold flushO;simp only[Bh];rw[zr _ j (by simp_all),Cx,zr _ j d]
   simp only[if_true,cond_true,F,An,zyI,G,zd,K,zzm,i,zjw s.j _ hs.slots,zjM _ _ _ c.O g,f,k];have L:(flushT s.a[j]).c=flatE s.a[j].c:=rfl;rw[L];cases C:okB (flatE s.a[j].c) c.O with
   | false=>rfl
   | true=>
     simp only[Bl,Ba,if_false,An,Cg];cases D:Dc (sealB (keyOfV s.j s.a[j].p) s.A (s.a[j].c.b+1) c.O= []) with
     | true=>rfl
     | false=>
       have Y:(noLR s.a[j].p s.B).length<=s.B.length:=Bw _ _;simp only[Ba,if_false,if_true,Cq,cond_true,zkt s _ hs.rows,An,zd];rw[zg (by grind) (by grind),zg (by simp only[By];omega) (by simp only[By];omega)];simp only[An,Bh];have Z:(flatE s.a[j].c).b=s.a[j].c.b:=(zfu _).1;have M:(engB (flatE s.a[j].c) c.O).q=(flatE s.a[j].c).q:=rfl;have N:(engB (flatE s.a[j].c) c.O).t=s.a[j].c.t:=(zfu _).2;unfold putS;rw[k];unfold flushO;rw[zr _ j d];simp only[Bh,Ff];unfold flushT;rw[<-M,<-N];have e6:(⟨(engB (flatE s.a[j].c) c.O).s,(engB (flatE s.a[j].c) c.O).q,s.a[j].c.b+1,(engB (flatE s.a[j].c) c.O).t⟩:Aa)=engB (flatE s.a[j].c) c.O:=by rw[<-f]
       simp_all
theorem zqh (h:storeP s) (j:Nat) (d:j<s.a.length) (ops:List Op) (f:ops.length<=1048576):zg5 s (j:Int) ops=some (writeS s (j:Int) ops):=by
 have hT:=h.tens _ (Bf d);have hs:=h.small;have P:=h.rlen;have Q:=h.hist;have z:=hT.seq;have R:=hT.base;have S:=(zbe hT.eng).1;obtain ⟨o,q,t,v,T⟩:=zbC hT.eng;unfold zg5 writeS;rw[zb _ j d,zr _ j d];simp only[An,zfC];have C:Dc ((s.J.length:Int)>=120)=Dc (120<=s.J.length):=decide_eq_decide.2 (by omega);rw[C];by_cases w:120<=s.J.length
 ·rw[decide_eq_true w];rfl
 rw[decide_eq_false w];have U:=zkO s.a[j].c s.a[j].c.b;have V:=zjS ops (mapR s.a[j].c s.a[j].c.b);have x:srtK (mapR s.a[j].c s.a[j].c.b):=zpW hT.eng _;have y:=zoB hT.eng s.a[j].c.b;simp only[Ba,if_false,ziP _ _ o q t v,An,cond_false];rw[zrE _ ops x y (by omega) f];cases e:batchV ops with
 | false=>rfl
 | true=>
 have W:=(zcd e).1;simp only[cond_true,An,Bl,Ba,if_false,znh (applyK (mapR s.a[j].c s.a[j].c.b) ops) (zmw ops x) (zsL y e) (by omega),zqd s.u _ hs.shares];cases Dc ((bytesN (applyK (mapR s.a[j].c s.a[j].c.b) ops):Int)>quoV (-1) s.u s.a[j].p) with
 | true=>rfl
 | false=>
 have er:rowsV s s.a[j].p=ofLR s.a[j].p s.B:=rfl;rw[er]at z;have D:Dc (I6.wrap (s.a[j].c.b - s.a[j].E)>=6)=Dc (6<=(ofLR s.a[j].p s.B).length):=by rw[za (by omega) (by omega)];exact decide_eq_decide.2 (by omega)
 simp only[Ba,if_false,cond_false,D];unfold roomS;rw[zr _ j d];cases X:Dc (6<=(ofLR s.a[j].p s.B).length) with
 | false=>
   simp only[Ba,if_false,cond_false,zgg _ ops o q t v f,An,zg1 s.j _ hs.slots,zjQ _ _ _ ops f];rw[zr _ j d];cases g:okB s.a[j].c ops with
   | false=>
     have:putR s.a[j].c ops=(s.a[j].c,false):=by unfold putR;rw[hT.eng,e,g];rfl
     rw[this];rfl
   | true=>
     have:putR s.a[j].c ops=(engB s.a[j].c ops,true):=by unfold putR;rw[hT.eng,e,g];rfl
     have k:(engB s.a[j].c ops).b=s.a[j].c.b+1:=rfl;rw[this];simp only[Bl,Ba,if_false,An,Cg,k];cases F:Dc (sealB (keyOfV s.j s.a[j].p) s.A (s.a[j].c.b+1) ops= []) with
     | true=>rfl
     | false=>simp only[Ba,if_false,Cq,cond_true];rw[zg (by grind) (by grind),zg (by simp only[By];omega) (by simp only[By];omega)];unfold putS;rw[zr _ j d];rfl
 | true=>
   have Y:=znL h j d;have i:j<(flushO s (j:Int)).a.length:=by unfold flushO;simpa using d
   have l:(flushO s (j:Int)).a[j]=flushT s.a[j]:=by rw[<-zr _ j i];unfold flushO;simp only[Bh];rw[zr _ j (by simpa using d),Cx,zr _ j d]
   have m:=zrQ hT.eng;obtain ⟨G,H,I,K,Z⟩:=zbC m;have n:(flushT s.a[j]).c=flatE s.a[j].c:=rfl;have L:(flushO s (j:Int)).j=s.j:=rfl;have M:(flushO s (j:Int)).A=s.A:=rfl;simp only[if_true,cond_true,zlw h,An,zkY h j d,zb _ j i,l,n,zgg _ ops G H I K f,L,M,zg1 s.j _ hs.slots,zjQ _ _ _ ops f];rw[zr _ j i,l,n];cases g:okB (flatE s.a[j].c) ops with
   | false=>
     have:putR (flatE s.a[j].c) ops=(flatE s.a[j].c,false):=by unfold putR;rw[m,e,g];rfl
     rw[this];rfl
   | true=>
     have:putR (flatE s.a[j].c) ops=(engB (flatE s.a[j].c) ops,true):=by unfold putR;rw[m,e,g];rfl
     have k:(engB (flatE s.a[j].c) ops).b=s.a[j].c.b+1:=by show (flatE s.a[j].c).b+1=_;rw[(zfu _).1]
     rw[this];simp only[Bl,Ba,if_false,An,Cg,k];cases F:Dc (sealB (keyOfV s.j s.a[j].p) s.A (s.a[j].c.b+1) ops= []) with
     | true=>rfl
     | false=>
       have a0:(flushO s (j:Int)).B.length<=s.B.length:=by unfold flushO;exact Bw _ _
       have N:(flushO s (j:Int)).J=s.J:=rfl;have O:(flatE s.a[j].c).b=s.a[j].c.b:=(zfu _).1;simp only[Ba,if_false,Cq,cond_true,N];rw[zg (by simp only[By];omega) (by simp only[By];omega),zg (by simp only[By];omega) (by simp only[By];omega)];unfold putS;rw[zr _ j i,l];simp only[An,n,O];rfl
theorem zsC (l:List Ae) (t:Ae) (hl:l.length<=1000000) (F: ∀x∈l,¬x.p=t.p):zjd l t=some (insTE l t):=by
 obtain ⟨z,t2,A⟩:=ziU (λx:Ae=>decide (x.p<t.p)) l;have V:(⟨t.p,t.I,t.E,⟨t.c.s,t.c.q,t.c.b,t.c.t⟩⟩:Ae)=t:=rfl;unfold zjd insTE placeE;generalize (l.takeWhile λx:Ae=>decide (x.p<t.p)).length=a at z t2 A;have U: ∀(M:List Ae) (x:Ae),M.length<=1000001->app 104 M [x]=some (M++ [x]):=λM x h=>zg (by grind) (by grind);refine zW (λk (S:Bool × Int × List (Option Ae) × Option (List Ac) × Option (List (List Ac)) × Option (List Int) × List Ae)=>S.2.1=(k:Int)/\wholeO l k S.2.2.1/\
  ((k<=a/\S.1=false/\S.2.2.2.1=some t.c.s/\S.2.2.2.2.1=some t.c.q/\S.2.2.2.2.2.1=some t.c.t/\S.2.2.2.2.2.2=l.take k)\/(a<k/\S.1=true/\S.2.2.2.2.2.2=l.take a++(t::(l.drop a).take (k - a))))) l.length
  (λr=>∃p N T O M,r= .go (p,N,T,O,M)/\((p=false/\N=some t.c.s/\T=some t.c.q/\O=some t.c.t/\M=l/\a=l.length)\/(p=true/\M=l.take a++(t::l.drop a)))) ⟨rfl,zxj l,.inl ⟨Bm _,rfl,rfl,rfl,rfl,by simp⟩⟩ ?_ ?_ ?_
 ·rintro k ⟨p,i,ls,N,T,O,M⟩ m ⟨e,d,f⟩;simp only at e d f;subst e;left;have n:=zrD d m;have o:I6.wrap ((k:Int)+(1:Int))=((k+1:Nat):Int):=by rw[za (by omega) (by omega)];omega
  have u:wholeO l (k+1) (ls.set ((k:Nat):Int).toNat none):=zm4 (zlL d) (by simp);have v:(Dc ((k:Int)<(ls.length:Int)))=true:=by rw[d.1];simp_all
  have G:(l.drop a).take (k+1 - a)=(l.drop a).take (k - a)++(if a<=k then [l[k]] else []):=by
   by_cases B:a<=k
   ·rw[if_pos B,show k+1 - a=(k - a)+1 by omega,zbc _ _ (by grind),Dm];simp_all
   ·grind
  rcases f with ⟨g,rfl,rfl,rfl,rfl,rfl⟩ | ⟨g,rfl,rfl⟩
  ·have C:(l.take k).length<=1000000:=by grind
   by_cases D:k=a
   ·subst D;have j:Dc (l[k].p>t.p)=true:=by grind
    refine ⟨(true,((k+1:Nat):Int),ls.set ((k:Nat):Int).toNat none,none,none,none,(l.take k++ [t])++ [l[k]]),?_,rfl,u,.inr ⟨by simp,rfl,?_⟩⟩
    ·simp only[v,if_true,Cq,n,An,j,V,U _ _ (show (l.take k).length<=1000001 by omega),zd,o];simp_all
    ·simp_all
   ·have j:Dc (l[k].p>t.p)=false:=by grind
    refine ⟨(false,((k+1:Nat):Int),ls.set ((k:Nat):Int).toNat none,some t.c.s,some t.c.q,some t.c.t,l.take k++ [l[k]]),?_,rfl,u,.inl ⟨by omega,rfl,rfl,rfl,rfl,(zbc l k m).symm⟩⟩;simp only[v,if_true,Cq,n,An,j,Ba,if_false,U _ _ (show (l.take k).length<=1000001 by omega),zd,o]
  ·have C:(l.take a++(t::(l.drop a).take (k - a))).length<=1000001:=by grind
   simp_all;omega
 ·rintro ⟨p,i,ls,N,T,O,M⟩ ⟨e,d,f⟩;simp only at e d f;subst e;refine ⟨_,if_neg (by rw[d.1];simp),p,N,T,O,M,rfl,?_⟩;rcases f with ⟨g,w,y,H,J,K⟩ | ⟨g,w,y⟩
  ·grind
  ·exact .inr ⟨w,by rw[y,Cu (l:=l.drop a) (by simp)]⟩
 ·rintro _ ⟨p,N,T,O,M,rfl,⟨rfl,rfl,rfl,rfl,rfl,rfl⟩ | ⟨rfl,rfl⟩⟩
  ·simp only[zd,Cq,if_true,An,V];rw[U _ _ (by omega)];simp
  ·rfl
theorem zwj (h:storeP s) {id:Int} (b: ∀x∈s.a,¬x.p=id): ∀x∈s.j.x,¬x.r=id:=by
 intro x c e;have d:x.r∈s.a.map Ae.p:=by rw[h.slots];grind
 grind
theorem zqw (h:storeP s) (c:As):zd3 s c=some ((createS s c).2,(createS s c).1):=by
 have hs:=h.small;obtain ⟨o,q,t⟩:=h.lens;unfold zd3 createS;simp only[zwQ,zs0,zju h,no_R,zld s.u _ _ hs.shares,zd2,len32,An];cases f:Dc (1<=c.r/\c.r<=99) with
 | false=>rfl
 | true=>
 cases Dc (0<=c.N/\c.N<=40) with
 | false=>rfl
 | true=>
 cases i:Dc (c.g.length=32) with
 | false=>rfl
 | true=>
 rcases zdA s.a c.r with ⟨j,v,e,_,_⟩ | ⟨e,l⟩
 ·simp_all
 ·rw[e];simp only[Bl,Ba,if_false,An,Ev,show Dc ((-1:Int)>=0)=false from rfl,cond_false];by_cases m:4<=s.a.length
  ·grind
  ·rw[decide_eq_false (by omega),decide_eq_false m];have d:=zwj h l;have b:=zrT h.keys d (zpt (key:=c.g) h.keys (of_decide_eq_true f) (of_decide_eq_true i) (by omega) d);simp only[Ba,if_false,cond_false,b,An];cases (setR s.u c.r c.N).2 with
   | false=>rfl
   | true=>
     simp only[Bl,Ba,if_false,cond_true];have n:placeE s.a c.r<=s.a.length:=(ziU _ _).1;rw[zrC (R:=At × Af) (λx:Ae=>decide (x.p<c.r)) s.a hs.tens (λk b=>?_) (by simp)]
     ·simp only[zd];unfold zfd ins;rw[if_pos ⟨by omega,by exact_mod_cast n,by grind,by grind⟩,Bh];rfl
     ·simp only[zb s.a k b,An];grind
theorem zrl (h:storeP s) (c:As):zgj s c=some (createS s c):=by
 have hs:=h.small;obtain ⟨n,o,p⟩:=h.lens;unfold zgj createS;simp only[zbm,zr8 h,zfC,zir s.u _ _ hs.shares,zgx,len32,An];cases f:Dc (1<=c.r/\c.r<=99) with
 | false=>rfl
 | true=>
 cases Dc (0<=c.N/\c.N<=40) with
 | false=>rfl
 | true=>
 cases i:Dc (c.g.length=32) with
 | false=>rfl
 | true=>
 rcases zdA s.a c.r with ⟨j,q,e,_,_⟩ | ⟨e,b⟩
 ·simp_all
 ·rw[e];simp only[Bl,Ba,if_false,An,Ev,show Dc ((-1:Int)>=0)=false from rfl,cond_false];by_cases k:4<=s.a.length
  ·grind
  ·rw[decide_eq_false (by omega),decide_eq_false k];have l:=zwj h b;have m:=zst h.keys (zpt (key:=c.g) h.keys (of_decide_eq_true f) (of_decide_eq_true i) (by omega) l);have d:=zsC s.a (newTE c.r) (by omega) b;unfold newTE at d;simp only[Ba,if_false,cond_false,m,d,An];cases (setR s.u c.r c.N).2<;>rfl
def zrX (h:storeP s) (c:As):zeF s c=some ((quotaS s c).2,(quotaS s c).1):=by
 unfold zeF quotaS;simp only[zs0,no_R,zld s.u _ _ h.small.shares,An];cases Dc (0<=c.N/\c.N<=40) with
 | false=>rfl
 | true=>cases (setR s.u c.r c.N).2<;>rfl
def zuY (a b:Bool):((if a=true then (some true) else (some b)):Option Bool)=some (a||b):=by cases a<;>rfl
def zqx (h:storeP s) (j:Nat) (b:j<s.a.length) (id:Int) (c:s.a[j].p=id):zd4 s id=some ((removeS s id).2,(removeS s id).1):=by
 have hs:=h.small;have i:=h.boot;obtain ⟨y,d,e⟩:=h.slot (Bf b);unfold zd4 removeS;simp only[zuY,An,no_R,ge_iff_le];by_cases f:1000<=s.A
 ·simp_all
 ·by_cases g:1000000<=s.j.H
  ·simp_all
  ·rw[decide_eq_false f,decide_eq_false g];simp only[El,Ba,if_false,cond_false,zqv h.keys ⟨y,d,e.trans c⟩ (by omega),zoP s.u id hs.shares,zxz s.a id hs.tens,An];rw[zkt]
   ·simp only[An];rw[za (n:=s.A+1) (by omega) (by omega)];rfl
   ·exact hs.rows
def zqy (h:storeP s) (j:Nat) (b:j<s.a.length) (id:Int) (c:s.a[j].p=id) (d:atE s.a id=(j:Int)):zd5 s id=some ((rotateS s (j:Int)).2,(rotateS s (j:Int)).1):=by
 subst c;have f:=(h.tens _ (Bf b)).ep;unfold zd5 rotateS;rw[zr _ j b];simp only[zju h,d,zb s.a j b,no_R,zd2,An,Bh];by_cases e:s.a[j].I>=1000000
 ·simp_all
 ·rw[decide_eq_false e,za (n:=s.a[j].I+1) (by omega) (by omega)];rfl
def zuz (h:storeP s) (c:As):zdE s c=some ((ownS s c).2,(ownS s c).1):=by
 unfold zdE ownS;simp only[zju h,no_R,An];rcases zdA s.a c.r with ⟨j,b,e,d,_⟩ | ⟨e,_⟩
 ·rw[e,decide_eq_false (by omega)];simp only[Ba,if_false,cond_false];cases Dc (c.D=2) with
  | true=>
    simp only[if_true,zrX h c,An,cond_true];unfold quotaS;cases Dc (0<=c.N/\c.N<=40) with
    | false=>rfl
    | true=>cases (setR s.u c.r c.N).2<;>rfl
  | false=>
    cases Dc (c.D=3) with
    | true=>simp only[Ba,if_false,if_true,zqx h j b c.r d,An,cond_true,cond_false];unfold removeS;cases Dc (1000<=s.A)||decide (1000000<=s.j.H)<;>rfl
    | false=>
      cases Dc (c.D=4) with
      | true=>simp only[Ba,if_false,if_true,zqy h j b c.r d e,An,cond_true,cond_false];unfold rotateS;cases Dc ((tenE s.a (j:Int)).I>=1000000)<;>rfl
      | false=>simp only[Ba,if_false,znv h j b c.r d e,An,cond_false];rfl
 ·simp_all
def ztK (h:storeP s):zfi s=some (codeR 0,syncS s):=by
 have b:=h.rlen;unfold zfi syncS;refine set_loop markL s.B (by omega) (λk us c a=>?_) (λus a=>?_) rfl
 ·simp only;rw[if_pos (by simp_all)];rfl
 ·simp
theorem zo8 (h:storeP s) (j:Nat) (b:j<s.a.length) (m: ¬1000<=s.A) (o: ¬1000000<=s.j.H):zgk s (j:Int)=some (removeS s s.a[j].p).1:=by
 have hs:=h.small;have q:=h.boot;obtain ⟨t,v,w⟩:=h.lens;obtain ⟨y,c,d⟩:=h.slot (Bf b);have x:noTE s.a[j].p s.a=s.a.take j++s.a.drop (j+1):=by unfold noTE;refine zjW s.a _ j b (by simp) λi hi e=>?_;have:=h.ne hi b e;simp_all
 obtain ⟨B,f⟩:=zvx s.a j b;have g:(Dq j (none:Option Ae)++(s.a.drop j).map some).length=s.a.length:=by grind
 have k: ∃ps,piece (Dq j (none:Option Ae)++(s.a.drop j).map some) ((j:Int)+1) (s.a.length:Int)=some ps:=⟨_,zZ _ (j+1) s.a.length _ _ (by omega) rfl (by omega) (by omega)⟩;obtain ⟨ps,l⟩:=k;unfold zgk;rw[zb _ j b,An,zo7 s.u _ hs.shares,An,zrj h.keys ⟨y,c,d⟩ (by omega),An,zZ s.a 0 j 0 (j:Int) rfl rfl (by omega) (by omega),An,zwC s.a j (by omega),An];rw[zg (by grind) (by grind)];simp only[An,Cv];rw[za (n:=(j:Int)+1) (by omega) (by omega),g,l,An,f,An,zg (by grind) (by grind),An,zly _ _ hs.rows,An,za (n:=s.A+1) (by omega) (by omega)];unfold removeS;grind
def keepJ:Int->List Ah->List Ah
 | _,[]=>[]
 | n,r::l=>bif r.T then markL r::keepJ n l else bif Dc (n - 1>=0) then markL r::keepJ (n - 1) l else keepJ (n - 1) l
def zmE: ∀(l:List Ah) (n k:Int),(k=n/\0<=n)\/(n<1/\k<1)->keepJ k l=keepL n l
 | [],_,_,_=>rfl
 | r::l,n,k,h=>by
   unfold keepJ keepL;cases r.T with
   | true=>simp only[cond_true];rw[zmE l n k h]
   | false=>
     simp only[cond_false];by_cases a:n<1
     ·have b:k<1:=by omega
      rw[decide_eq_true a,decide_eq_false (by omega)];simp only[cond_true,cond_false];exact zmE l n (k - 1) (.inr ⟨a,by omega⟩)
     ·have b:k=n:=by omega
      subst b;rw[decide_eq_false a,decide_eq_true (by omega)];simp only[cond_true,cond_false];rw[zmE l (k - 1) (k - 1) (.inl ⟨rfl,by omega⟩)]
theorem zn3 (l:List Ah) (n:Int):(keepL n l).length<=l.length:=by obtain ⟨q,h,e⟩:=zll l n;grind
theorem zwN (l:List Ah) (n:Int) (hl:l.length<=1000000) (u: -9223372036854775808<=n/\n<=9223372036854775807) {body:Int × Int × List Ah->Option (Ctl (Int × Int × List Ah) (Ctl (List Ah) R))} {f:List Ah->Option R} (o:body=λ(D:Int × Int × List Ah)=>if (Dc (D.2.1<(l.length:Int)))=true then ((idx l D.2.1).bind λB=>
 bindC (if (!B.T)=true then (some (.go (I6.wrap (D.1 - (1:Int)))))
 else (some (.go D.1)))
 (λ(F:Int)=>(if B.T=true then (some true)
 else (some (Dc (F>=(0:Int))))).bind (λ(I:Bool)=>
 bindC (if I=true then ((app 48 D.2.2 ([(⟨B.r,B.A,B.b,B.L,true⟩:Ah)])).bind λG=>
 some (.go G))
 else (some (.go D.2.2)))
 (λ(J:List Ah)=>some (.go (F,I6.wrap (D.2.1+(1:Int)),J))))))
 else (some (.done (.go D.2.2)))) (p:f (keepL n l)=some z):bindC (loopO body (goMax n 0,(0:Int),([]:List Ah))) f=some z:=by
 have v:keepJ (max n 0) l=keepL n l:=zmE l n (max n 0) (by omega);have q:goMax n 0=max n 0:=by unfold goMax;omega
 rw[q];refine zW (λk (S:Int × Int × List Ah)=>(-(k:Int)<=S.1/\S.1<=9223372036854775807)/\S.2.1=(k:Int)/\S.2.2.length<=k/\S.2.2++keepJ S.1 (l.drop k)=keepL n l) l.length
  (λr=>r= .go (keepL n l)) ⟨by omega,rfl,by simp,by trivial⟩ ?_ ?_ (λr s=>by rw[s];exact p)
 ·rintro k ⟨c,i,E⟩ e ⟨g,d,h,a⟩;simp only at g d h a;subst d;left;have t:I6.wrap ((k:Int)+(1:Int))=((k+1:Nat):Int):=by rw[za (by omega) (by omega)];omega
  have j: ∀x:Ah,app 48 E [x]=some (E++ [x]):=λx=>zg (by grind) (by grind);rw[Bo e,keepJ]at a;rw[o];simp only[zb l k e,An];rw[if_pos (by simp_all),t];cases hs:l[k].T with
  | true=>rw[hs]at a;simp only[Bl,Ba,if_false,zd,if_true,An,j];exact ⟨_,rfl,by omega,rfl,by simp_all,by simpa[markL] using a⟩
  | false=>
    rw[hs]at a;rw[za (n:=c - 1) (by omega) (by omega)];simp only[Cq,if_true,zd,Ba,if_false,An];simp only[cond_false]at a;cases m:Dc (c - 1>=0) with
    | true=>rw[m]at a;simp only[if_true,j,An,zd];exact ⟨_,rfl,by omega,rfl,by simp_all,by simpa[markL] using a⟩
    | false=>rw[m]at a;simp_all;omega
 ·rintro ⟨c,i,E⟩ ⟨g,d,h,a⟩;simp only at d a;subst d;rw[Du,keepJ,Da]at a;simp_all
theorem zxe (l:List Ah) (n:Int) (hl:l.length<=1000000) (o: -9223372036854775808<=n/\n<=9223372036854775807) {body:Int × Int × List Ah->Option (Ctl (Int × Int × List Ah) (Ctl (List Ah) R))} {f:List Ah->Option R} (p:body=λ(D:Int × Int × List Ah)=>if (Dc (D.2.1<(l.length:Int)))=true then (bindC ((idx l D.2.1).bind λB=>
 bindC (if (!B.T)=true then (if (Dc (D.1<(1:Int)))=true then (some (.done (.go (D.1,D.2.2))))
 else (some (.go (I6.wrap (D.1 - (1:Int))))))
 else (some (.go D.1)))
 (λ(G:Int)=>(app 48 D.2.2 ([(⟨B.r,B.A,B.b,B.L,true⟩:Ah)])).bind λF=>
 some (.go (G,F))))
 (λ(I:Int × List Ah)=>some (.go (I.1,I6.wrap (D.2.1+(1:Int)),I.2))))
 else (some (.done (.go D.2.2)))) (s:f (keepL n l)=some z):bindC (loopO body (n,(0:Int),([]:List Ah))) f=some z:=by
 refine zW (λk (S:Int × Int × List Ah)=>(-9223372036854775808<=S.1/\S.1<=9223372036854775807)/\S.2.1=(k:Int)/\S.2.2.length<=k/\S.2.2++keepL S.1 (l.drop k)=keepL n l) l.length
  (λr=>r= .go (keepL n l)) ⟨o,rfl,by simp,by simp⟩ ?_ ?_ (λr t=>by simp_all)
 ·rintro k ⟨c,i,E⟩ g ⟨e,d,h,a⟩;simp only at e d h a;subst d;left;have q:I6.wrap ((k:Int)+(1:Int))=((k+1:Nat):Int):=by rw[za (by omega) (by omega)];omega
  have j: ∀x:Ah,app 48 E [x]=some (E++ [x]):=λx=>zg (by grind) (by grind);rw[Bo g,keepL]at a;rw[p];simp only[zb l k g,An];rw[if_pos (by simp_all),q];cases hs:l[k].T with
  | true=>rw[hs]at a;simp only[Bl,Ba,if_false,zd,An,j];exact ⟨_,rfl,e,rfl,by simp_all,by simpa[markL] using a⟩
  | false=>
    rw[hs]at a;simp only[cond_false]at a;cases m:Dc (c<1) with
    | true=>simp_all;omega
    | false=>rw[m]at a;have u:=of_decide_eq_false m;rw[za (n:=c - 1) (by omega) (by omega)];simp only[Cq,if_true,Ba,if_false,zd,An,j];exact ⟨_,rfl,by omega,rfl,by simp_all,by simpa[markL] using a⟩
 ·rintro ⟨c,i,E⟩ ⟨e,d,h,a⟩;simp only at d a;subst d;rw[Du,keepL,Da]at a;simp_all
def zqm (h:storeP s) (n:Int) (b:t∈s.a):(repS (keyOfV s.j t.p) (rep0 t) (ofLR t.p (keepL n s.B))).2=true:=by obtain ⟨q,c,e⟩:=zll s.B n;rw[e,zs9];have hs:(ofLR t.p q).Sublist (rowsV s t.p):=c.filter _;exact (h.tens t b).part hs
def zqn (h:storeP s) (n:Int): ∀r∈keepL n s.B,r.L.length<=1048576:=by intro r a;obtain ⟨q,b,rfl⟩:=zs1 _ _ _ a;exact h.small.text q b
theorem set_loopP (g:α->α) (l:List α) (hl:l.length<=1000000) (b: ∀k (us:List α) (a:k<l.length),us.length=l.length->idx us (k:Int)=some l[k]->body ((k:Int),us)=some (.go (I6.wrap ((k:Int)+(1:Int)),us.set ((k:Nat):Int).toNat (g l[k])))) (e: ∀us:List α,us.length=l.length->body ((l.length:Int),us)=some (.done (.go us))) (h:f (l.map g)=some z):bindC (loopO body ((0:Int),l)) f=some z:=by
 refine zW (λk (S:Int × List α)=>S=((k:Int),(l.take k).map g++l.drop k)) l.length (λr=>r= .go (l.map g)) rfl ?_ ?_ (λr i=>by simp_all)
 ·rintro k _ a rfl;left;refine ⟨_,?_,rfl⟩;have c:((l.take k).map g++l.drop k).length=l.length:=by grind
  have d:((l.take k).map g++l.drop k)[k]'(by omega)=l[k]:=by rw[List.getElem_append_right (by grind),Dm];congr 1;grind
  rw[b k _ a c (by rw[zb _ k (by omega),d]),Bh,za (n:=(k:Int)+1) (by omega) (by omega)];congr 3;rw[zbc l k a,Dd,Eo _ _ (by grind),Dy,Ei,show k - min k l.length=0 by omega,Bo a,Ey];simp
 ·simp_all
theorem zrW (h:storeP s) (n:Int) (b: -9223372036854775808<=n/\n<=9223372036854775807):zeD s n=some ((crashS s n).2,(crashS s n).1):=by
 have hs:=h.small;have i:=h.boot;have l:=h.rlen;have m:=zn3 s.B n;obtain ⟨o,q,v⟩:=h.lens;unfold zeD crashS;simp only[no_R,ge_iff_le];by_cases c:1000<=s.A
 ·simp_all
 ·rw[decide_eq_false c];simp only[Ba,if_false,cond_false];refine zwN s.B n (by omega) b rfl ?_;refine set_loopP (λt=>crashT (keyOfV s.j t.p) (ofLR t.p (keepL n s.B)) t) s.a (by omega) (λk us d e hi=>?_) (λus e=>?_) ?_
  ·have D:=h.tens _ (Bf d);simp only[hi,An];have f:=zgB ⟨s.C,s.j,s.u,us,keepL n s.B,s.J,s.A⟩ s.a[k] (ofLR s.a[k].p (keepL n s.B)) (Df (Bw _ _) (by omega)) (λr g=>zqn h n r (Ct.1 g).1) hs.slots D.eng D.start;have E:rowsV ⟨s.C,s.j,s.u,us,keepL n s.B,s.J,s.A⟩ s.a[k].p=ofLR s.a[k].p (keepL n s.B):=rfl;rw[if_pos (by grind),zeG _ _ (by grind),An,E,f];rfl
  ·simp
  ·rw[za (n:=s.A+1) (by omega) (by omega)];rfl
theorem zvP (T:List Ah) (id:Int) (keys:Ar) (g:Aa) (V:T.length<=1000000) (u: ∀r∈T,r.L.length<=1048576) (v:keys.x.length<=1048576) (w:engV g=true) (m:(repS (keyOfV keys id) g (ofLR id T)).2=true) {body:Int × Int × List Ac × List Int × List (List Ac)->Option (Ctl (Int × Int × List Ac × List Int × List (List Ac)) (Ctl (Int × List Ac × List Int × List (List Ac)) R))} {f:Int × List Ac × List Int × List (List Ac)->Option R} (y:body=λ(I:Int × Int × List Ac × List Int × List (List Ac))=>if (Dc (I.2.1<(T.length:Int)))=true then (bindC ((idx T I.2.1).bind λJ=>
 if (!(Dc (J.r=id)))=true then (some (.go (I.1,I.2.2.1,I.2.2.2.1,I.2.2.2.2)))
 else ((zdO keys id).bind λO=>
 (zcA O J.A J.b J.L).bind λU=>
 (zcc (⟨I.2.2.1,I.2.2.2.2,I.1,I.2.2.2.1⟩:Aa) U.1).bind λM=>
 some (.go (M.1.b,M.1.s,M.1.t,M.1.q))))
 (λ(N:Int × List Ac × List Int × List (List Ac))=>some (.go (N.1,I6.wrap (I.2.1+(1:Int)),N.2.1,N.2.2.1,N.2.2.2))))
 else (some (.done (.go (I.1,I.2.2.1,I.2.2.2.1,I.2.2.2.2))))) (H:f ((repS (keyOfV keys id) g (ofLR id T)).1.b,(repS (keyOfV keys id) g (ofLR id T)).1.s,(repS (keyOfV keys id) g (ofLR id T)).1.t,(repS (keyOfV keys id) g (ofLR id T)).1.q)=some z):
  bindC (loopO body (g.b,(0:Int),g.s,g.t,g.q)) f=some z:=by
 have i: ∀k,(repS (keyOfV keys id) g (ofLR id (T.take k))).2=true:=by
  intro k;have B:ofLR id T=ofLR id (T.take k)++ofLR id (T.drop k):=by rw[<-zp1,Dk]
  rw[B,zi6]at m;grind
 refine zW (λk (S:Int × Int × List Ac × List Int × List (List Ac))=>S=((repS (keyOfV keys id) g (ofLR id (T.take k))).1.b,(k:Int),(repS (keyOfV keys id) g (ofLR id (T.take k))).1.s,(repS (keyOfV keys id) g (ofLR id (T.take k))).1.t,(repS (keyOfV keys id) g (ofLR id (T.take k))).1.q)) T.length
  (λr=>r= .go ((repS (keyOfV keys id) g (ofLR id T)).1.b,(repS (keyOfV keys id) g (ofLR id T)).1.s,(repS (keyOfV keys id) g (ofLR id T)).1.t,(repS (keyOfV keys id) g (ofLR id T)).1.q)) rfl ?_ ?_ (λr m=>by simp_all)
 ·rintro k _ j rfl;left;refine ⟨_,?_,rfl⟩;have o:=zl7 (keyOfV keys id) _ _ w (i k);obtain ⟨a,b,c,d,_⟩:=zbC o;have l:ofLR id (T.take (k+1))=ofLR id (T.take k)++(if Dc (T[k].r=id)=true then [T[k]] else []):=zdB _ T k j;have h:=i (k+1);rw[y];simp only[zb T k j,An];rw[if_pos (by simp_all),za (n:=(k:Int)+1) (by omega) (by omega),show (k:Int)+1=((k+1:Nat):Int) by omega];cases C:Dc (T[k].r=id) with
  | false=>simp_all
  | true=>
    rw[C]at l;simp only[if_true]at l;rw[l,zi6,i k]at h |-
    simp only[cond_true,repS]at h |-
    simp only[Bl,Ba,if_false,zg1 keys id v,zjP _ _ _ _ (u _ (Bf j)),An];have D:(openB (keyOfV keys id) T[k].A T[k].b T[k].L).1.length<=1048576:=by
     rcases zp2 (keyOfV keys id) T[k].A T[k].b T[k].L with ⟨_,p⟩ | p
     ·have:=(zcd p).1;omega
     ·simp_all
    generalize (repS (keyOfV keys id) g (ofLR id (T.take k))).1=e at o a b c d h |-
    have E:=zgg e _ a b c d D;have F:zcc ⟨e.s,e.q,e.b,e.t⟩ (openB (keyOfV keys id) T[k].A T[k].b T[k].L).1=some (putR e (openB (keyOfV keys id) T[k].A T[k].b T[k].L).1):=E;rw[F];cases G:(openB (keyOfV keys id) T[k].A T[k].b T[k].L).2&&(putR e (openB (keyOfV keys id) T[k].A T[k].b T[k].L).1).2 with
    | false=>rw[G]at h;cases h
    | true=>rfl
 ·simp_all
theorem zsw (h:storeP s) (n:Int) (i: -9223372036854775808<=n/\n<=9223372036854775807) (l: ¬1000<=s.A):zg3 s n=some (crashS s n).1:=by
 have hs:=h.small;have u:=h.boot;have v:=h.rlen;have w:=zn3 s.B n;obtain ⟨x,y,z⟩:=h.lens;unfold zg3 crashS;rw[decide_eq_false l];simp only[cond_false];refine zxe s.B n (by omega) i rfl ?_;refine set_loopP (λt=>crashT (keyOfV s.j t.p) (ofLR t.p (keepL n s.B)) t) s.a (by omega) (λk us f m hi=>?_) (λus m=>?_) ?_
 ·have F:=h.tens _ (Bf f);have g:=zqm h n (Bf f);obtain ⟨a,b,c,d,e⟩:=zbC (zl7 _ _ _ F.start g);simp only[hi,An];rw[if_pos (by grind)];refine zvP (keepL n s.B) s.a[k].p s.j (rep0 s.a[k]) (by omega) (zqn h n) hs.slots F.start g rfl ?_;have q:=zcj (repS (keyOfV s.j s.a[k].p) (rep0 s.a[k]) (ofLR s.a[k].p (keepL n s.B))).1 a b e d;exact (congrArg (λo:Option Aa=>o.bind λD=>some (Ctl.go (I6.wrap ((k:Int)+(1:Int)),us.set ((k:Nat):Int).toNat (⟨s.a[k].p,s.a[k].I,s.a[k].E,D⟩:Ae)))) q)
 ·simp_all
 ·rw[za (n:=s.A+1) (by omega) (by omega)]
def zsx (h:storeP s) (c:As) (i: -9223372036854775808<=c.N/\c.N<=9223372036854775807):zg4 s c=some
    (bif Dc (c.D=1) then createS s c else bif Dc (c.D=12) then (syncS s,codeR 0) else bif Dc (c.D=14) then crashS s c.N else ownS s c):=by
 have hs:=h.small;have o:=h.rlen;unfold zg4;cases Dc (c.D=1) with
 | true=>simp only[if_true,zrl h c,An,cond_true]
 | false=>
 cases Dc (c.D=12) with
 | true=>
   simp only[Ba,if_false,if_true,cond_true,cond_false];unfold syncS;refine set_loop markL s.B (by omega) (λk us p l=>?_) (λus l=>?_) rfl
   ·simp only;rw[if_pos (by simp_all)];rfl
   ·simp_all
 | false=>
 cases Dc (c.D=14) with
 | true=>
   simp only[Ba,if_false,if_true,cond_true,cond_false,ge_iff_le,zfC];by_cases b:1000<=s.A
   ·unfold crashS;simp_all
   ·rw[zsw h c.N i b];unfold crashS;rw[decide_eq_false b];rfl
 | false=>
 simp only[Ba,if_false,cond_false,zr8 h,zfC,An];unfold ownS;rcases zdA s.a c.r with ⟨j,d,e,f,_⟩ | ⟨e,_⟩
 ·rw[e,decide_eq_false (by omega)];simp only[Ba,if_false,cond_false];cases Dc (c.D=2) with
  | true=>
    simp only[if_true,zbm,zir s.u _ _ hs.shares,An,cond_true];unfold quotaS;cases Dc (0<=c.N/\c.N<=40) with
    | false=>rfl
    | true=>cases (setR s.u c.r c.N).2<;>rfl
  | false=>
    cases Dc (c.D=3) with
    | true=>
      simp only[Ba,if_false,if_true,zuY,An,cond_true,cond_false,ge_iff_le];by_cases b:1000<=s.A
      ·unfold removeS;simp_all
      ·by_cases g:1000000<=s.j.H
       ·unfold removeS;simp_all
       ·rw[zo8 h j d b g,f];unfold removeS;rw[decide_eq_false b,decide_eq_false g];rfl
    | false=>
      cases Dc (c.D=4) with
      | true=>
        have q:=(h.tens _ (Bf d)).ep;simp only[Ba,if_false,if_true,zb s.a j d,An,cond_true,cond_false,zgx];unfold rotateS;rw[zr _ j d,f];by_cases m:s.a[j].I>=1000000
        ·simp_all
        ·rw[decide_eq_false m,za (n:=s.a[j].I+1) (by omega) (by omega)];rfl
      | false=>simp only[Ba,if_false,zkY h j d,An,cond_false];rfl
 ·simp_all
def zps (s:Af) (i:Int) (ops:List Op):(writeS s i ops).1.j=s.j/\(writeS s i ops).1.u=s.u:=by
 unfold writeS;cases Dc (120<=s.J.length) with
 | true=>exact ⟨rfl,rfl⟩
 | false=>
 cases batchV ops with
 | false=>exact ⟨rfl,rfl⟩
 | true=>
 cases Dc ((bytesN (applyK (mapR (tenE s.a i).c (tenE s.a i).c.b) ops):Int)>quoV (-1) s.u (tenE s.a i).p) with
 | true=>exact ⟨rfl,rfl⟩
 | false=>
 have d:(roomS s i).j=s.j/\(roomS s i).u=s.u:=by unfold roomS;cases Dc (6<=(ofLR (tenE s.a i).p s.B).length)<;>exact ⟨rfl,rfl⟩
 cases okB (tenE (roomS s i).a i).c ops&& !Dc (sealB (keyOfV s.j (tenE s.a i).p) s.A ((tenE s.a i).c.b+1) ops= []) with
 | false=>exact ⟨rfl,rfl⟩
 | true=>exact d
theorem ztJ (h:storeP s) (j:Nat) (d:j<s.a.length):zcu s.a (j:Int)=some ((snapS s (j:Int)).2,(snapS s (j:Int)).1.a):=by
 have A:=h.tens _ (Bf d);have f:=A.snaps;unfold zcu snapS;rw[zr _ j d,zb s.a j d];simp only[An,zvw s.a[j].c.t s.a[j].c.b (by omega),no_R];cases Dc (s.a[j].c.b∈s.a[j].c.t) with
 | true=>rfl
 | false=>
   simp only[Ba,if_false,cond_false];by_cases e:2<=s.a[j].c.t.length
   ·grind
   ·rw[decide_eq_false (by omega),decide_eq_false e];simp only[Ba,if_false,cond_false];rw[zg (by grind) (by grind)];unfold withE withT;rw[zr _ j d];rfl
def zrd (s:Af) (i:Int):(snapS s i).1=⟨s.C,s.j,s.u,(snapS s i).1.a,s.B,s.J,s.A⟩:=by
 unfold snapS;cases Dc ((tenE s.a i).c.b∈(tenE s.a i).c.t) with
 | true=>rfl
 | false=>cases Dc (2<=(tenE s.a i).c.t.length)<;>rfl
def zsO (s:Af) (c:As) (j:Nat) (b:j<s.a.length) (d:atE s.a (tokR s.C c.P).1=(j:Int)):
    callS s c=(bif !(tokR s.C c.P).2.2|| !Dc (s.a[j].I=(tokR s.C c.P).2.1) then (s,codeR 2) else tenS s (j:Int) c):=by unfold callS;rw[d,zr _ j b,decide_eq_false (by omega),Ev]
def zql (s:Af) (c:As) (b:atE s.a (tokR s.C c.P).1= -1):callS s c=(s,codeR 2):=by unfold callS;simp_all
theorem ztI (h:storeP s) (c:As) (p:c.P.length<=1048576) (l:c.O.length<=1048576):zdn s c=some ((callS s c).2,(callS s c).1):=by
 unfold zdn;rw[zoO s.C c.P (by omega)];simp only[An,zju h,no_R];rcases zdA s.a (tokR s.C c.P).1 with ⟨j,d,e,_,_⟩ | ⟨e,_⟩
 ·rw[zsO s c j d e,e,decide_eq_false (by omega)];simp only[zb s.a j d,An];cases (tokR s.C c.P).2.2 with
  | false=>rfl
  | true=>
    cases Dc (s.a[j].I=(tokR s.C c.P).2.1) with
    | false=>rfl
    | true=>
      simp only[Bl,Ba,if_false,An,El,cond_false];have A:=h.tens _ (Bf d);have q:=A.snaps;have u:=zkO s.a[j].c s.a[j].c.b;have m:=zoB A.eng s.a[j].c.b;unfold tenS;rw[zr _ j d];cases Dc (c.D=5) with
      | true=>simp only[if_true,zrZ h j d c l,An,cond_true];obtain ⟨n,o⟩:=zps s (j:Int) c.O;rw[<-n,<-o]
      | false=>
        cases Dc (c.D=6) with
        | true=>simp only[Ba,if_false,if_true,ztw s.a j d A.eng,An,cond_true,cond_false]
        | false=>
          cases Dc (c.D=7) with
          | true=>simp only[Ba,if_false,if_true,zn8 s.a j d A.eng,zqC _ _ _ (show (mapR s.a[j].c s.a[j].c.b).length<=1048576 by omega),An,cond_true,cond_false]
          | false=>
            cases Dc (c.D=8) with
            | true=>simp only[Ba,if_false,if_true,ztJ h j d,An,cond_true,cond_false];rw[<-zrd s (j:Int)]
            | false=>
              cases Dc (c.D=11) with
              | true=>simp only[Ba,if_false,if_true,zn8 s.a j d A.eng,zlf _ m (show (mapR s.a[j].c s.a[j].c.b).length<=1048576 by omega),An,cond_true,cond_false]
              | false=>
                simp only[Ba,if_false,cond_false];unfold heldS;rw[zr _ j d];rcases zvF s.a[j].c.t c.N (by omega) with ⟨k,f,i,g⟩ | ⟨i,g⟩
                ·rw[i];simp only[An];rw[decide_eq_false (by omega),decide_eq_true (g ▸ Bf f:c.N∈s.a[j].c.t)];simp only[Ba,if_false,cond_true];cases Dc (c.D=10) with
                 | true=>simp only[if_true,ztw s.a j d A.eng,An,cond_true]
                 | false=>simp only[Ba,if_false,cond_false];rw[zwD s.a[j].c.t k f (by omega),<-zpx (zjV A.eng).2 k f,g];unfold withE withT;rw[zr _ j d];rfl
                ·grind
 ·rw[zql s c e,e];simp
theorem zrm (h:storeP s) (c:As) (v:c.O.length<=1048576) (j:Nat) (d:j<s.a.length):zgl s (j:Int) c=some (tenS s (j:Int) c):=by
 have M:=h.tens _ (Bf d);have H:=M.snaps;have J:=zkO s.a[j].c s.a[j].c.b;have w:=zoB M.eng s.a[j].c.b;have y:srtK (mapR s.a[j].c s.a[j].c.b):=zpW M.eng _;obtain ⟨e,f,i,l,K⟩:=zbC M.eng;unfold zgl tenS;rw[zr _ j d,zb s.a j d];simp only[An];cases Dc (c.D=5) with
 | true=>simp only[if_true,zqh h j d c.O v,An,cond_true]
 | false=>
 cases Dc (c.D=6) with
 | true=>simp only[Ba,if_false,if_true,zmn M.eng,An,cond_true,cond_false]
 | false=>
 cases Dc (c.D=7) with
 | true=>simp only[Ba,if_false,if_true,ziP _ _ e f i l,zrq _ _ _ (show (mapR s.a[j].c s.a[j].c.b).length<=1048576 by omega),An,cond_true,cond_false]
 | false=>
 by_cases o:c.D=8
 ·have A: ¬c.D=11:=by omega
  rw[decide_eq_true o,decide_eq_false A];simp only[Ba,if_false,if_true,cond_true,cond_false];have B:((if (Dc (((s.a[j].c.t.length:Nat):Int)>=(2:Int)))=true then ((idx s.a[j].c.t (I6.wrap (((s.a[j].c.t.length:Nat):Int) - (1:Int)))).bind λT=>some (!(Dc (T=s.a[j].c.b)))) else (some false)):Option Bool)=some (Dc (2<=s.a[j].c.t.length)&& !Dc (s.a[j].c.b∈s.a[j].c.t)):=by
   by_cases C:2<=s.a[j].c.t.length
   ·rw[if_pos (decide_eq_true (by omega)),za (by omega) (by omega),show ((s.a[j].c.t.length:Nat):Int) - 1=((s.a[j].c.t.length - 1:Nat):Int) by omega,zb _ _ (by omega),decide_eq_true C];simp only[An,Cg];rw[decide_eq_decide.2 (zre (zjV M.eng).2 (by omega))]
   ·grind
  rw[B];unfold snapS;rw[zr _ j d];simp only[An,zfC,zri _ e f i l];unfold snapR;by_cases m:s.a[j].c.b∈s.a[j].c.t
  ·rw[decide_eq_true m,if_pos M.eng,if_pos m];simp only[Bl,Bool.and_false,Ba,if_false,cond_true,Bh];have:s.a.set j ⟨s.a[j].p,s.a[j].I,s.a[j].E,s.a[j].c⟩=s.a:=List.set_getElem_self _;simp_all
  ·by_cases F:2<=s.a[j].c.t.length
   ·simp_all
   ·rw[decide_eq_false m,decide_eq_false F,if_pos M.eng,if_neg m,if_neg (show ¬s.a[j].c.t.length=4 by omega)];simp only[Bool.false_and,Ba,if_false,cond_false];unfold withE withT;rw[zr _ j d]
 ·rw[decide_eq_false o];cases Dc (c.D=11) with
  | true=>simp only[Ba,if_false,if_true,ziP _ _ e f i l,znh _ y w (show (mapR s.a[j].c s.a[j].c.b).length<=1000000 by omega),An,cond_true,cond_false]
  | false=>
    simp only[Ba,if_false,cond_false];rw[zhb (λx:Int=>decide (x=c.N)) s.a[j].c.t (by omega) (λ_=>bif Dc (c.D=10) then (s,valR s.a[j].c c.g c.N) else (withE s (j:Int) (dropS s.a[j].c.t c.N),codeR 0)) (z:=(s,codeR 5)) rfl (λk q=>?_) (by simp)]
    ·unfold heldS;rw[zr _ j d];grind
    ·simp only[zb s.a[j].c.t k q,An];rw[if_pos (by simp_all),za (n:=(k:Int)+1) (by omega) (by omega)];by_cases u:s.a[j].c.t[k]=c.N
     ·have G:c.N∈s.a[j].c.t:=u ▸ Bf q;rw[decide_eq_true u];simp only[Bl,Ba,if_false,if_true,zmn M.eng,zrf _ _ e f i l,An];unfold engDropR withE withT;rw[if_pos M.eng,if_pos G,zr _ j d];cases Dc (c.D=10)<;>rfl
     ·simp_all
theorem zpK (h:storeP s) (c:As) (b:smC c):zdF s c=some ((doS s c).2,(doS s c).1):=by
 unfold zdF doS;simp only[z6,no_R,An];cases i:Dc (c.D=1) with
 | true=>
   simp only[if_true,zqw h c,An,cond_true];unfold createS;cases !Dc (1<=c.r/\c.r<=99)||(!Dc (0<=c.N/\c.N<=40)||(!Dc (c.g.length=32)||decide (atE s.a c.r>=0))) with
   | true=>rfl
   | false=>
     cases Dc (4<=s.a.length) with
     | true=>rfl
     | false=>cases (setR s.u c.r c.N).2<;>rfl
 | false=>
   simp only[Ba,if_false,cond_false];have l:=of_decide_eq_false i;by_cases d:c.D=12
   ·rw[decide_eq_true d,decide_eq_false (by omega),decide_eq_false (by omega: ¬c.D=13),decide_eq_false (by omega)];simp only[Ba,if_false,if_true,An,ztK h,cond_true];rfl
   ·by_cases e:c.D=14
    ·rw[decide_eq_false d,decide_eq_true e,decide_eq_false (by omega),decide_eq_false (by omega: ¬c.D=13),decide_eq_false (by omega)];simp only[Ba,if_false,if_true,An,zrW h c.N b.num,cond_true,cond_false];unfold crashS;cases Dc (1000<=s.A)<;>rfl
    ·rw[decide_eq_false d,decide_eq_false e];simp only[zuY,An,cond_false];cases Dc (2<=c.D/\c.D<=4)||decide (c.D=13) with
     | true=>
       simp only[if_true,zuz h c,An,cond_true];have k:(ownS s c).1.J=s.J:=by
        unfold ownS;cases Dc (atE s.a c.r<0) with
        | true=>rfl
        | false=>
        cases Dc (c.D=2) with
        | true=>simp only[cond_true,cond_false];unfold quotaS;grind
        | false=>
        cases Dc (c.D=3) with
        | true=>simp only[cond_true,cond_false];unfold removeS;grind
        | false=>
        cases Dc (c.D=4) with
        | true=>simp only[cond_true,cond_false];unfold rotateS;cases Dc ((tenE s.a (atE s.a c.r)).I>=1000000)<;>rfl
        | false=>rfl
       rw[<-k]
     | false=>
       simp only[Ba,if_false,cond_false];cases Dc (5<=c.D/\c.D<=11) with
       | true=>
         have f:(callS s c).1.j=s.j/\(callS s c).1.u=s.u:=by
          unfold callS;cases (!(tokR s.C c.P).2.2||(Dc (atE s.a (tokR s.C c.P).1<0)|| !Dc ((tenE s.a (atE s.a (tokR s.C c.P).1)).I=(tokR s.C c.P).2.1))) with
          | true=>exact ⟨rfl,rfl⟩
          | false=>
            unfold tenS;cases Dc (c.D=5) with
            | true=>exact zps _ _ _
            | false=>
            cases Dc (c.D=6) with
            | true=>exact ⟨rfl,rfl⟩
            | false=>
            cases Dc (c.D=7) with
            | true=>exact ⟨rfl,rfl⟩
            | false=>
            cases Dc (c.D=8) with
            | true=>simp only[cond_true,cond_false];rw[zrd];exact ⟨rfl,rfl⟩
            | false=>
            cases Dc (c.D=11) with
            | true=>exact ⟨rfl,rfl⟩
            | false=>simp only[cond_false];unfold heldS;cases Dc (c.N∈(tenE s.a (atE s.a (tokR s.C c.P).1)).c.t)<;>cases Dc (c.D=10)<;>exact ⟨rfl,rfl⟩
         simp only[if_true,ztI h c b.tok b.ops,An,cond_true];rw[<-f.1,<-f.2]
       | false=>rfl
theorem zt7 (h:storeP s) (c:As) (b:smC c):zkf s c=some (doS s c):=by
 unfold zkf doS;have g:(((zy c.D (1:Int) (4:Int)).bind λB=>if B=true then (some true) else ((zy c.D (12:Int) (14:Int)).bind λA=>some A)):Option Bool)=some (Dc (1<=c.D/\c.D<=4)||decide (12<=c.D/\c.D<=14)):=by simp only[zbm,An];grind
 rw[g];simp only[zbm,An,zfC];by_cases i:(1<=c.D/\c.D<=4)\/(12<=c.D/\c.D<=14)
 ·have d:(Dc (1<=c.D/\c.D<=4)||decide (12<=c.D/\c.D<=14))=true:=by simp_all
  rw[d];simp only[if_true,zsx h c b.num,An];grind
 ·have d:(Dc (1<=c.D/\c.D<=4)||decide (12<=c.D/\c.D<=14))=false:=by simp_all
  rw[d,decide_eq_false (by omega: ¬c.D=1),decide_eq_false (by omega: ¬c.D=12),decide_eq_false (by omega: ¬c.D=14),decide_eq_false (by omega: ¬(2<=c.D/\c.D<=4)),decide_eq_false (by omega: ¬c.D=13)];simp only[Ba,if_false,El,cond_false];cases Dc (5<=c.D/\c.D<=11) with
  | false=>rfl
  | true=>
    rw[zo6 s.C c.P (by have:=b.tok;omega)];simp only[Bl,Ba,if_false,An,zr8 h,cond_true];rcases zdA s.a (tokR s.C c.P).1 with ⟨j,f,e,_,_⟩ | ⟨e,_⟩
    ·rw[zsO s c j f e,e,decide_eq_false (by omega: ¬(j:Int)<0)];simp only[zb s.a j f,An];cases (tokR s.C c.P).2.2 with
     | false=>rfl
     | true=>
       cases Dc (s.a[j].I=(tokR s.C c.P).2.1) with
       | false=>rfl
       | true=>simp only[Bl,Ba,if_false,An,zrm h c b.ops j f,El,cond_false]
    ·rw[zql s c e,e];cases (tokR s.C c.P).2.2<;>rfl
theorem zun (h:storeP s) (n:Int):boundS (crashS s n).1:=by
 unfold crashS;cases Dc (1000<=s.A) with
 | true=>exact h.bound
 | false=>have a:=h.bound;have d:=zn3 s.B n;have e:=a.rows;refine ⟨a.slots,a.shares,by simpa using a.tens,λt c=>?_,by grind,a.hist⟩;obtain ⟨u,b,rfl⟩:=Fc.1 c;exact zl7 _ _ _ (h.tens u b).start (zqm h n b)
def zsQ (h:storeP s) (c:As):boundS (doS s c).1:=by
 unfold doS;cases Dc (c.D=1) with
 | true=>exact (zwB h c).bound
 | false=>
 cases Dc (c.D=12) with
 | true=>exact (zy5 h).bound
 | false=>
 cases Dc (c.D=14) with
 | true=>exact zun h _
 | false=>
 cases Dc (2<=c.D/\c.D<=4)||decide (c.D=13) with
 | true=>exact (zzH h c).bound
 | false=>
 cases Dc (5<=c.D/\c.D<=11) with
 | false=>exact h.bound
 | true=>exact (zyt h c).bound
def ztu (e:Aa) (key:List UInt8) (seq:Int):(valR e key seq).m= []:=by unfold valR;cases (getR e key seq).2<;>rfl
def zyj (s:Af) (i:Int) (c:As):(tenS s i c).2.m.length<=400:=by
 unfold tenS;cases Dc (c.D=5) with
 | true=>
   simp only[cond_true];unfold writeS;cases Dc (120<=s.J.length) with
   | true=>exact Bm _
   | false=>
   cases batchV c.O with
   | false=>exact Bm _
   | true=>
   cases Dc ((bytesN (applyK (mapR (tenE s.a i).c (tenE s.a i).c.b) c.O):Int)>quoV (-1) s.u (tenE s.a i).p) with
   | true=>exact Bm _
   | false=>
   cases okB (tenE (roomS s i).a i).c c.O&& !Dc (sealB (keyOfV s.j (tenE s.a i).p) s.A ((tenE s.a i).c.b+1) c.O= [])<;>exact Bm _
 | false=>
 cases Dc (c.D=6) with
 | true=>simp only[cond_true,cond_false];rw[ztu];exact Bm _
 | false=>
 cases Dc (c.D=7) with
 | true=>exact Df (Bw _ _) (zkO _ _)
 | false=>
 cases Dc (c.D=8) with
 | true=>simp only[cond_true,cond_false];unfold snapS;cases Dc ((tenE s.a i).c.b∈(tenE s.a i).c.t)<;>cases Dc (2<=(tenE s.a i).c.t.length)<;>exact Bm _
 | false=>
 cases Dc (c.D=11) with
 | true=>exact Bm _
 | false=>
   simp only[cond_false];unfold heldS;cases Dc (c.N∈(tenE s.a i).c.t) with
   | false=>exact Bm _
   | true=>
     cases Dc (c.D=10) with
     | true=>simp only[cond_true];rw[ztu];exact Bm _
     | false=>exact Bm _
def zyA (s:Af) (c:As):(doS s c).2.m.length<=400:=by
 unfold doS;cases Dc (c.D=1) with
 | true=>simp only[cond_true];unfold createS;cases !Dc (1<=c.r/\c.r<=99)||(!Dc (0<=c.N/\c.N<=40)||(!Dc (c.g.length=32)||decide (atE s.a c.r>=0)))<;>cases Dc (4<=s.a.length)<;>cases (setR s.u c.r c.N).2<;>exact Bm _
 | false=>
 cases Dc (c.D=12) with
 | true=>exact Bm _
 | false=>
 cases Dc (c.D=14) with
 | true=>simp only[cond_true,cond_false];unfold crashS;cases Dc (1000<=s.A)<;>exact Bm _
 | false=>
 cases Dc (2<=c.D/\c.D<=4)||decide (c.D=13) with
 | true=>
   simp only[cond_true,cond_false];unfold ownS;cases Dc (atE s.a c.r<0) with
   | true=>exact Bm _
   | false=>
   cases Dc (c.D=2) with
   | true=>simp only[cond_true,cond_false];unfold quotaS;cases Dc (0<=c.N/\c.N<=40)<;>cases (setR s.u c.r c.N).2<;>exact Bm _
   | false=>
   cases Dc (c.D=3) with
   | true=>simp only[cond_true,cond_false];unfold removeS;cases Dc (1000<=s.A)||decide (1000000<=s.j.H)<;>exact Bm _
   | false=>
   cases Dc (c.D=4) with
   | true=>simp only[cond_true,cond_false];unfold rotateS;cases Dc ((tenE s.a (atE s.a c.r)).I>=1000000)<;>exact Bm _
   | false=>exact Bm _
 | false=>
 cases Dc (5<=c.D/\c.D<=11) with
 | false=>exact Bm _
 | true=>
   simp only[cond_true,cond_false];unfold callS;cases !(tokR s.C c.P).2.2||(Dc (atE s.a (tokR s.C c.P).1<0)|| !Dc ((tenE s.a (atE s.a (tokR s.C c.P).1)).I=(tokR s.C c.P).2.1)) with
   | true=>exact Bm _
   | false=>exact zyj _ _ _
def noStore:Af:=⟨[],⟨[],[],0⟩,⟨0,[]⟩,[],[],[],0⟩
def oneS (s:Af) (c:As):Af × At:=bif storeV s then doS s c else (noStore,codeR 1)
def zqz (s:Af) (hs:smallS s) (c:As) (a:smC c):zhJ s c=some (oneS s c):=by
 unfold zhJ oneS;rw[zqA s hs,An];cases b:storeV s with
 | false=>rfl
 | true=>have h:=(zm1 s).1 b;simp only[Bl,Ba,if_false,cond_true,zoU h,zpK h c a,An]
def zrn (s:Af) (hs:smallS s) (c:As) (a:smC c):zis s c=some (oneS s c):=by
 unfold zis oneS;rw[zro s hs,An];cases b:storeV s with
 | false=>rfl
 | true=>have h:=(zm1 s).1 b;simp only[Bl,Ba,if_false,cond_true,zlw h,zt7 h c a,zml (zsQ h c),An]
def zw0 (s:Af) (c:As):boundS (oneS s c).1/\(oneS s c).2.m.length<=400:=by
 unfold oneS;cases a:storeV s with
 | false=>exact ⟨⟨Bm _,Bm _,Bm _,λt b=>(by trivial),Bm _,Bm _⟩,Bm _⟩
 | true=>exact ⟨zsQ ((zm1 s).1 a) c,zyA s c⟩
theorem zxr (h:boundS s):zbv s<=1000000000/\zjf s:=by
 have i:=h.slots;have k:=h.shares;have n:=h.tens;have o:=h.rows;have p:=h.hist;have v:(s.j.x.map zm).sum<=2*s.j.x.length:=zb9 zm 2 λ_ _=>Bp _;have w:(s.u.m.map zx).sum<=2*s.u.m.length:=zb9 zx 2 λ_ _=>Bp _;have z:(s.B.map zo).sum<=5*s.B.length:=zb9 zo 5 λ_ _=>Bp _;have A:(s.J.map zo).sum<=5*s.J.length:=zb9 zo 5 λ_ _=>Bp _;have C:(s.a.map zJ).sum<=20000*s.a.length:=zb9 zJ 20000 λt f=>by obtain ⟨D,E,F,G,H,I,K,L⟩:=zbe (h.each t f);have M:(t.c.s.map zj).sum<=4*t.c.s.length:=zb9 zj 4 λ_ _=>Bp _;have N:(t.c.t.map (λ_=>1)).sum<=1*t.c.t.length:=zb9 _ 1 λ_ _=>Bp _;have O:(t.c.q.map (λl=>(l.map zj).sum)).sum<=1600*t.c.q.length:=zb9 _ 1600 λy g=>Df (zb9 zj 4 λ_ _=>Bp _) (by have:=zor g;omega);unfold zJ;omega
 refine ⟨by unfold zbv;omega,?_,?_,⟨by omega,λt f=>?_⟩,by omega,by omega⟩
 ·unfold zjT;omega
 ·unfold zjU;omega
 ·obtain ⟨a,b,c,d,e⟩:=zbC (h.each t f);exact ⟨by omega,⟨by omega,λy g=>by grind⟩,by omega⟩
theorem zyc (h:zdT s<=1048576):zbv s<=1000000000000000:=by
 have v:s.C.length+(zX s.j+(zbh s.u+(wS zbg s.a+(wS zD s.B+(wS zD s.J+0)))))<=1048576:=h;have hs:=zpn s h;have z:=hs.slots;have A:=hs.shares;have D:=hs.tens;have E:=hs.rows;have F:=hs.hist;have G:(s.j.x.map zm).sum<=2*s.j.x.length:=zb9 zm 2 λ_ _=>Bp _;have H:(s.u.m.map zx).sum<=2*s.u.m.length:=zb9 zx 2 λ_ _=>Bp _;have I:(s.B.map zo).sum<=5*s.B.length:=zb9 zo 5 λ_ _=>Bp _;have K:(s.J.map zo).sum<=5*s.J.length:=zb9 zo 5 λ_ _=>Bp _;have L:(s.a.map zJ).sum<=20000000*s.a.length:=zb9 zJ 20000000 λt d=>by
  have b:=zsK (w:=zbg) (n:=1048576) (by omega) t d;have e:zdz t.c+0<=1048576:=b;obtain ⟨f,g,i,k⟩:=zut t.c (by omega);have o:(t.c.s.map zj).sum<=4*t.c.s.length:=zb9 zj 4 λ_ _=>Bp _;have p:(t.c.t.map (λ_=>1)).sum<=1*t.c.t.length:=zb9 _ 1 λ_ _=>Bp _;have M:(t.c.q.map (λl=>(l.map zj).sum)).sum<=4*totalV t.c.q:=by
   unfold totalV;clear o p f g i k b e;induction t.c.q with
   | nil=>simp
   | cons y ys ih=>have:=zb9 (l:=y) zj 4 λ_ _=>Bp _;grind
  unfold zJ;omega
 unfold zbv;omega
def znq (a:Af) (c:As) (h:Dec.ok a) (j:Dec.ok c):zcz a c=some true:=by
 unfold zcz;rw[zy9 a 1048576 (by omega) (by omega) h];simp only[An];by_cases hl:szV 1048576 (zdT a)<0
 ·simp_all
 ·have v:=zry hl;have b:zdT a<=1048576:=by omega
  have hs:=zpn a b;have s:szV 1048576 (zdT a)<=1048576:=(zz7 (by omega) (by omega)).2;rw[if_neg (by simp_all),zzQ c _ (by omega) s j];simp only[An];by_cases t:szV (szV 1048576 (zdT a)) (zk3 c)<0
  ·simp_all
  ·have z:=zry t;have d:zk3 c<=1048576:=by omega
   have A:c.P.length+(c.g.length+(c.R.length+(wS zev c.O+0)))<=1048576:=d;have u:=zbJ (w:=zev) (l:=c.O) (n:=1048576) (by omega);have k:smC c:=⟨by omega,u,(show okI c.N from j.2.2.2.1)⟩;rw[if_neg (by simp_all),to_Store a b,to_Call c d];simp only[An,zrn a hs c k,zqz a hs c k];obtain ⟨e,o⟩:=zw0 a c;generalize oneS a c=r at e o;obtain ⟨x,y⟩:=r;simp only at e o;obtain ⟨B,f⟩:=zxr e;have C:=zyc b;have p:=zuh a b;have q:=zvt c d;have D:zcT y<=2*y.m.length:=zb9 zce 2 λ_ _=>Bp _;have i:zje y:=by unfold zje;omega
   have E:zjg c<=3*c.O.length:=zb9 zgz 3 λ_ _=>Bp _;simp only[eq_Store x x f,eq_Reply y y i,eq_Store a a p,eq_Call c c q,zqZ a 1 (by omega) (by omega) p,zxU c (1+((zbv a:Nat):Int)) (by omega) (by omega) q,zqZ x 1 (by omega) (by omega) f,zwX y (1+((zbv x:Nat):Int)) (by omega) (by omega) i,zwK x 1 (by omega) (by omega) f,zwI y (1+((zbv x:Nat):Int)) (by omega) (by omega) i,An];rfl
theorem FnExactStoreDo_proved:Rows.FnExactStoreDoSaid:=znp λa c h b=>znq a c h b
end Go.Proofs.YtdpainahgcdflaaGreat
