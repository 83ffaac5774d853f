/-
  The plain laws: what the pure functions come to, and the statements. Conditions: none.
-/
import Derived.Test.YtfgjhefhlabpkaaGreatPm
import Derived.Test.YtfgjhefhlabpkaaGreatQ7
set_option linter.unusedVariables false
set_option linter.unusedSimpArgs false
namespace Go.Proofs.YtfgjhefhlabpkaaGreat
open Go Sl
noncomputable def zhK (a:Ent) (b:Ent):Option Bool:=
 (if (sLt a.Key b.Key)=true then (some true)
 else (if (decide (a.Key=b.Key))=true then (some (decide (a.Seq>b.Seq)))
 else (some false))).bind (fun (T3:Bool)=>
 some T3)
noncomputable def zfk (l:List Ent) (e:Ent):Option (List Ent):=
 bindC (loopO (fun (S3:Bool × Int × List Ent)=>if (decide (S3.2.1<(l.length:Int)))=true then ((if (!S3.1)=true then ((idx l S3.2.1).bind fun E11=>
 (zhK e E11).bind fun R13=>
 some R13)
 else (some false)).bind (fun (T8:Bool)=>
 bindC (if T8=true then ((app 48 S3.2.2 ([e])).bind fun E21=>
 some (.go (true,E21)))
 else (some (.go (S3.1,S3.2.2))))
 (fun (T16:Bool × List Ent)=>(idx l S3.2.1).bind fun E23=>
 (app 48 T16.2 ([E23])).bind fun E27=>
 some (.go (T16.1,IntKind.i64.wrap (S3.2.1+(1:Int)),E27)))))
 else (some (.done (.go (S3.1,S3.2.2)))))
 (false,(0:Int),([]:List Ent)))
 (fun (T5:Bool × List Ent)=>bindC (if (!T5.1)=true then ((app 48 T5.2 ([e])).bind fun E34=>
 some (.go E34))
 else (some (.go T5.2)))
 (fun (T29:List Ent)=>some T29))
noncomputable def zdM (d:KeyDev):Option Bool:=
 (if (!(decide ((d.Master.length:Int)=(32:Int))))=true then (some true)
 else (if (decide ((d.Slots.length:Int)>(4:Int)))=true then (some true)
 else ((zbd d.Wiped (0:Int) (1000000:Int)).bind fun R6=>
 some (!R6)))).bind (fun (T2:Bool)=>
 if T2=true then (some false)
 else (bindC (loopO (fun (S10:Int)=>if (decide (S10<(d.Slots.length:Int)))=true then ((idx d.Slots S10).bind fun E15=>
 ((zbd E15.Tenant (1:Int) (99:Int)).bind fun R20=>
 if (!R20)=true then (some true)
 else (if (!(decide ((E15.Key.length:Int)=(32:Int))))=true then (some true)
 else (if (decide (S10>(0:Int)))=true then ((idx d.Slots (IntKind.i64.wrap (S10 - (1:Int)))).bind fun E26=>
 some (decide (E26.Tenant≥E15.Tenant)))
 else (some false)))).bind (fun (T18:Bool)=>
 if T18=true then (some (.done (.done false)))
 else (some (.go (IntKind.i64.wrap (S10+(1:Int)))))))
 else (some (.done (.go ()))))
 (0:Int))
 (fun (T12:Unit)=>some true)))
noncomputable def zfS (quota:Int):Option Int:=
 (zbd quota (0:Int) (1000:Int)).bind fun R1=>
 if (!R1)=true then (some (0:Int))
 else (some (IntKind.i64.wrap ((2:Int)+(IntKind.i64.wrap ((2:Int)*(IntKind.i64.wrap (Int.tdiv (IntKind.i64.wrap (quota+(49:Int))) (50:Int))))))))
noncomputable def zin (s:Shares):Option Int:=
 bindC (loopO (fun (S2:Int × Int)=>if (decide (S2.2<(s.List.length:Int)))=true then ((idx s.List S2.2).bind fun E7=>
 (zfS E7.Quota).bind fun R9=>
 some (.go (IntKind.i64.wrap (S2.1+R9),IntKind.i64.wrap (S2.2+(1:Int)))))
 else (some (.done (.go S2.1))))
 ((0:Int),(0:Int)))
 (fun (T4:Int)=>bindC (if (decide ((s.List.length:Int)>(0:Int)))=true then (some (.go (IntKind.i64.wrap (T4+(4:Int)))))
 else (some (.go T4)))
 (fun (T12:Int)=>some T12))
noncomputable def zcM (s:Shares):Option Bool:=
 ((zbd s.Size (0:Int) (1000:Int)).bind fun R4=>
 if (!R4)=true then (some true)
 else (some (decide ((s.List.length:Int)>(4:Int))))).bind (fun (T2:Bool)=>
 if T2=true then (some false)
 else (bindC (loopO (fun (S9:Int)=>if (decide (S9<(s.List.length:Int)))=true then ((idx s.List S9).bind fun E14=>
 ((zbd E14.Tenant (1:Int) (99:Int)).bind fun R19=>
 if (!R19)=true then (some true)
 else ((zbd E14.Quota (0:Int) (1000:Int)).bind fun R23=>
 if (!R23)=true then (some true)
 else (if (decide (S9>(0:Int)))=true then ((idx s.List (IntKind.i64.wrap (S9 - (1:Int)))).bind fun E28=>
 some (decide (E28.Tenant≥E14.Tenant)))
 else (some false)))).bind (fun (T17:Bool)=>
 if T17=true then (some (.done (.done false)))
 else (some (.go (IntKind.i64.wrap (S9+(1:Int)))))))
 else (some (.done (.go ()))))
 (0:Int))
 (fun (T11:Unit)=>(zin s).bind fun R31=>
 some (decide (R31≤s.Size)))))
noncomputable def zhJ (s:Shares):Option Shares:=
 (app 16 ([]:List Share) s.List).bind fun E5=>
 some (⟨s.Size,E5⟩:Shares)
noncomputable def zcL (s:Shares) (tenant:Int) (quota:Int):Option (Shares × Bool):=
 (zcM s).bind fun R3=>
 if (!R3)=true then (some ((⟨0,[]⟩:Shares),false))
 else (bindC (loopO (fun (S9:Bool × Int × List Share)=>if (decide (S9.2.1<(s.List.length:Int)))=true then ((if (!S9.1)=true then ((idx s.List S9.2.1).bind fun E17=>
 some (decide (E17.Tenant≥tenant)))
 else (some false)).bind (fun (T14:Bool)=>
 bindC (if T14=true then ((app 16 S9.2.2 ([(⟨tenant,quota⟩:Share)])).bind fun E24=>
 some (.go (true,E24)))
 else (some (.go (S9.1,S9.2.2))))
 (fun (T19:Bool × List Share)=>(idx s.List S9.2.1).bind fun E26=>
 bindC (if (!(decide (E26.Tenant=tenant)))=true then ((app 16 T19.2 ([E26])).bind fun E34=>
 some (.go E34))
 else (some (.go T19.2)))
 (fun (T28:List Share)=>some (.go (T19.1,IntKind.i64.wrap (S9.2.1+(1:Int)),T28))))))
 else (some (.done (.go (S9.1,S9.2.2)))))
 (false,(0:Int),([]:List Share)))
 (fun (T11:Bool × List Share)=>bindC (if (!T11.1)=true then ((app 16 T11.2 ([(⟨tenant,quota⟩:Share)])).bind fun E44=>
 some (.go E44))
 else (some (.go T11.2)))
 (fun (T39:List Share)=>(zcM (⟨s.Size,T39⟩:Shares)).bind fun R46=>
 if (!R46)=true then ((zhJ s).bind fun R50=>
 some (R50,false))
 else (some ((⟨s.Size,T39⟩:Shares),true)))))
theorem zY (n a b:Int):zB n a b=some (decide (a≤n∧n≤b)):=by
 unfold zB
 by_cases h:n≥a<;>simp[h]
theorem zcq (n a b:Int):zbd n a b=some (decide (a≤n∧n≤b)):=by
 unfold zbd
 by_cases h:n≥a<;>simp[h]
theorem ztd (q:Int):zeK q=zfS q:=by
 unfold zeK zfS
 rw[zY,zcq]
 simp only[Option.bind_some]
 by_cases h:0≤q∧q≤1000
 ·simp only[h,decide_true,Bool.not_true,Bool.false_eq_true,if_false,and_self]
  rw[zb (n:=q+50) (by omega) (by omega),zb (n:=q+50 - 1) (by omega) (by omega),zb (n:=q+49) (by omega) (by omega),show q+50 - 1=q+49 by omega]
 ·simp[h]
theorem zhZ {α:Type} {l:List α} {i:Int} (h0:0≤i) (h1:i<l.length):idx l i=some (l[i.toNat]'(by omega)):=by
 unfold idx;rw[if_pos h0,List.getElem?_eq_getElem]
def needV (q:Int):Int:=if 0≤q∧q≤1000 then 2+2*((q+49) / 50) else 0
theorem zgy (q:Int):0≤needV q∧needV q≤42:=by
 unfold needV;split<;>omega
theorem zkk (q:Int):zfS q=some (needV q):=by
 unfold zfS needV
 rw[zcq]
 simp only[Option.bind_some]
 by_cases h:0≤q∧q≤1000
 ·have w1:IntKind.i64.wrap (q+49)=q+49:=zb (by omega) (by omega)
  have t1:Int.tdiv (q+49) 50=(q+49) / 50:=Int.tdiv_eq_ediv_of_nonneg (by omega)
  have w2:IntKind.i64.wrap ((q+49) / 50)=(q+49) / 50:=zb (by omega) (by omega)
  have w3:IntKind.i64.wrap (2*((q+49) / 50))=2*((q+49) / 50):=zb (by omega) (by omega)
  have w4:IntKind.i64.wrap (2+2*((q+49) / 50))=2+2*((q+49) / 50):=zb (by omega) (by omega)
  simp only[w1,t1,w2,w3,w4,h]
  rfl
 ·simp[h]
theorem zom (q:Int):zeK q=some (needV q):=by rw[ztd,zkk]
theorem zkY (n:Int):zbp n=some (decide (1≤n∧n≤99)):=by
 unfold zbp;rw[zY];rfl
theorem zqP (l:List Share) (h:l.length≤1048576):0≤(l.map fun x=>needV x.Quota).sum∧(l.map fun x=>needV x.Quota).sum≤42*l.length:=by
 clear h
 induction l with
 | nil=>simp
 | cons x l ih=>have:=zgy x.Quota;simp only[List.map_cons,List.sum_cons,List.length_cons];omega
theorem ziS (s:Shares) (h:s.List.length≤1048576):zin s=some ((s.List.map fun x=>needV x.Quota).sum+if s.List.length>0 then 4 else 0):=by
 unfold zin
 rw[zoU (ρ:=Int) s.List (fun x=>zfS x.Quota) (fun x=>needV x.Quota) (fun x _=>zkk _) (fun x _=>by have:=zgy x.Quota;omega) h 0 (by omega) (by omega)]
 have:=zqP s.List h
 simp only[zf,Int.zero_add]
 by_cases h0:(s.List.length:Int)>0
 ·rw[if_pos (by simpa using h0),zb (by omega) (by omega),if_pos (by omega)];rfl
 ·rw[if_neg (by simpa using h0),if_neg (by omega)];simp
theorem zmN (s:Shares) (h:s.List.length≤1048576):zft s=some (4+(s.List.map fun x=>needV x.Quota).sum):=by
 unfold zft
 rw[zoU (ρ:=Int) s.List (fun x=>zeK x.Quota) (fun x=>needV x.Quota) (fun x _=>zom _) (fun x _=>by have:=zgy x.Quota;omega) h 4 (by omega) (by omega)]
 rfl
theorem zb4 (s:Shares) (h:s.List.length≤1048576):zcH s=zcM s:=by
 unfold zcM zcH
 simp only[zcq,zY,zkY,Option.bind_some,ziS s h,zmN s h,ge_iff_le]
 by_cases h0:0≤s.Size∧s.Size≤1000
 ·by_cases h4:(s.List.length:Int)>4
  ·simp[h0,h4]
  ·simp only[h0,h4,and_self,decide_true,decide_false,Bool.not_true,Bool.false_eq_true,if_false,Option.bind_some]
   congr 1
   funext _
   by_cases hz:s.List.length=0
   ·have:s.List= []:=List.eq_nil_of_length_eq_zero hz
    simp[this,h0.1]
   ·have hz': ¬(s.List.length:Int)=0:=by omega
    simp only[hz',decide_false,Bool.false_eq_true,if_false,Option.bind_some,show s.List.length>0 by omega,if_true]
    rw[Int.add_comm]
 ·simp[h0]
theorem zgH: ∀a b:List UInt8,(sLt b a||decide (b=a))= !sLt a b
 | [],[]=>rfl
 | [],b::y=>by simp[sLt,Op.bytesLess]
 | a::x,[]=>by simp[sLt,Op.bytesLess]
 | a::x,b::y=>by
   have ih:=zgH x y
   simp only[sLt]at ih
   simp only[sLt,Op.bytesLess]
   by_cases h1:a<b
   ·have h2: ¬b<a:=fun h=>absurd (UInt8.lt_trans h1 h) (UInt8.lt_irrefl _)
    have h3: ¬b=a:=fun h=>by subst h;exact UInt8.lt_irrefl _ h1
    simp[h1,h2,h3]
   ·by_cases h2:b<a
    ·have h3: ¬a=b:=fun h=>by subst h;exact UInt8.lt_irrefl _ h2
     simp[h1,h2,h3]
    ·have h3:a=b:=by
      rw[UInt8.lt_iff_toNat_lt]at h1 h2
      apply UInt8.toNat_inj.1
      omega
     subst h3
     simp only[h1,decide_false,Bool.false_or,beq_self_eq_true,Bool.true_and,List.cons.injEq,true_and]
     exact ih
theorem zod {body:Int→Option (Ctl Int (Ctl Unit Bool))} (pass:Nat→Bool) (n:Nat) (h: ∀k,k<n→body (k:Int)=some (if pass k=true then .go ((k:Int)+1) else .done (.done false))) (hn:body (n:Int)=some (.done (.go ()))):
 loopO body 0=some (if (List.range n).all pass=true then .go () else .done false):=by
 have key: ∀d k,k+d=n→loopO body (k:Int)=some (if ((List.range n).drop k).all pass=true then .go () else .done false):=by
  intro d
  induction d with
  | zero=>
    intro k hk
    obtain rfl:k=n:=by omega
    rw[zR,hn,List.drop_of_length_le (by simp)]
    rfl
  | succ d ih=>
    intro k hk
    have hd:(List.range n).drop k=k::(List.range n).drop (k+1):=by rw[List.drop_eq_getElem_cons (by simp;omega)];simp
    rw[zR,h k (by omega),hd,List.all_cons]
    cases hp:pass k with
    | true=>
      have:=ih (k+1) (by omega)
      rw[show ((k+1:Nat):Int)=(k:Int)+1 by omega]at this
      simpa using this
    | false=>simp
 have:=key n 0 (by omega)
 simpa using this
theorem ztg (x y:Int):zcP x y=some (if x<y then -1 else if x>y then 1 else 0):=by
 unfold zcP zdD
 by_cases h1:x<y<;>by_cases h2:x>y<;>simp[h1,h2]
theorem zth (x y:List UInt8):zcQ x y=some (if sLt x y=true then -1 else if (!(sLt x y||decide (x=y)))=true then 1 else 0):=by
 unfold zcQ zdE
 simp only[decide_true,Bool.not_true,Option.bind_some,Bool.false_eq_true,if_false]
 split
 ·rfl
 ·split<;>rfl
theorem zej: ∀{a b c:List UInt8},sLt a b=true→sLt b c=true→sLt a c=true
 | [],[],_,h,_=>by simp[sLt,Op.bytesLess]at h
 | [],_::_,[],_,h=>by simp[sLt,Op.bytesLess]at h
 | [],_::_,_::_,_,_=>rfl
 | _::_,[],_,h,_=>by simp[sLt,Op.bytesLess]at h
 | _::_,_::_,[],_,h=>by simp[sLt,Op.bytesLess]at h
 | x::a,y::b,z::c,h1,h2=>by
   simp only[sLt,Op.bytesLess,Bool.or_eq_true,decide_eq_true_eq,Bool.and_eq_true,beq_iff_eq]at h1 h2 ⊢
   rcases h1 with h1 | ⟨rfl,h1⟩
   ·rcases h2 with h2 | ⟨rfl,_⟩
    ·exact .inl (UInt8.lt_trans h1 h2)
    ·exact .inl h1
   ·rcases h2 with h2 | ⟨rfl,h2⟩
    ·exact .inl h2
    ·exact .inr ⟨rfl,zej h1 h2⟩
theorem zcZ (a:List UInt8):sLt a a=false:=by
 have:=zgH a a
 simpa using this
def entV (e:Ent):Bool:=decide (1≤(e.Key.length:Int)∧(e.Key.length:Int)≤10)&&(decide (0≤e.Seq∧e.Seq≤1000000)&&(decide ((e.Val.length:Int)≤16)&&(!e.Del||decide (e.Val= []))))
def entLt (a b:Ent):Bool:=sLt a.Key b.Key||(decide (a.Key=b.Key)&&decide (a.Seq>b.Seq))
def entP (l:List Ent) (k:Nat):Bool:=match l[k]? with
 | some e=>entV e&&(match k with | 0=>true | j+1=>match l[j]? with | some d=>entLt d e | none=>true)
 | none=>true
theorem zir (l:List Ent) (k:Nat) (h:k<l.length):entP l k=(entV l[k]&&(if h0:0<k then entLt (l[k - 1]'(by omega)) l[k] else true)):=by
 unfold entP
 rw[List.getElem?_eq_getElem h]
 cases k with
 | zero=>rfl
 | succ j=>
   simp only[Nat.zero_lt_succ,dif_pos,Nat.add_sub_cancel]
   rw[List.getElem?_eq_getElem (by omega)]
def entsV (l:List Ent):Bool:=(List.range l.length).all (entP l)
theorem zif (a b:Ent):zhK a b=some (entLt a b):=by
 unfold zhK entLt
 cases sLt a.Key b.Key<;>by_cases h:a.Key=b.Key<;>simp[h]
theorem zsj (x y:Int):zeH [x,y]=some (if x≠0 then x else y):=by
 unfold zeH
 by_cases hx:x=0
 ·by_cases hy:y=0
  ·rw[zo (fun k=>(k:Int)) 2 (r:=Ctl.go ()) ?h0]
   case h0=>rfl
   ·simp[hx,hy]
   ·intro k hk
    have:k=0∨k=1:=by omega
    rcases this with rfl | rfl
    ·simp[idx,hx];rfl
    ·simp[idx,hy];rfl
   ·rfl
  ·rw[zR]
   simp only[idx,hx]
   simp
   rw[zR]
   have:IntKind.i64.wrap 1=1:=by decide
   simp[this,hy]
 ·rw[zR]
  simp[idx,hx]
theorem zks {l:List Ent} (hv:entsV l=true): ∀(j:Nat) (hj:j<l.length) (i:Nat) (hi:i<j),sLt (l[i]'(by omega)).Key l[j].Key=true∨((l[i]'(by omega)).Key=l[j].Key∧(l[i]'(by omega)).Seq>l[j].Seq):=by
 intro j
 induction j with
 | zero=>intro _ i hi;omega
 | succ j ih=>
   intro hj i hi
   have hp:entLt (l[j]'(by omega)) l[j+1]=true:=by
    unfold entsV at hv
    rw[List.all_eq_true]at hv
    have:=hv (j+1) (by simp;omega)
    rw[zir l (j+1) hj,dif_pos (by omega),Bool.and_eq_true]at this
    exact this.2
   unfold entLt at hp
   simp only[Bool.or_eq_true,Bool.and_eq_true,decide_eq_true_eq]at hp
   by_cases e:i=j
   ·subst e;exact hp
   ·rcases ih (by omega) i (by omega) with h1 | ⟨h1,h2⟩
    ·rcases hp with h3 | ⟨h3,_⟩
     ·exact .inl (zej h1 h3)
     ·rw[←h3];exact .inl h1
    ·rcases hp with h3 | ⟨h3,h4⟩
     ·rw[h1];exact .inl h3
     ·exact .inr ⟨h1.trans h3,by omega⟩
def visE (l:List Ent) (seq:Int) (k:Nat):Bool:=match l[k]? with
 | some e=>decide (e.Seq≤seq)&&(l.take k).all fun d=>!(decide (d.Key=e.Key)&&decide (d.Seq≤seq))
 | none=>false
theorem zhm (l:List Ent) (seq:Int) (k:Nat) (h:k<l.length):visE l seq k=(decide (l[k].Seq≤seq)&&(l.take k).all fun d=>!(decide (d.Key=l[k].Key)&&decide (d.Seq≤seq))):=by
 unfold visE;rw[List.getElem?_eq_getElem h]
def visL (l:List Ent) (seq:Int):Nat→List KV
 | 0=>[]
 | k+1=>visL l seq k++(match l[k]? with | some e=>if visE l seq k=true∧e.Del=false then [⟨e.Key,e.Val⟩] else [] | none=>[])
theorem zkq (l:List Ent) (seq:Int) (k:Nat) (h:k<l.length):visL l seq (k+1)=visL l seq k++if visE l seq k=true∧l[k].Del=false then [⟨l[k].Key,l[k].Val⟩] else []:=by
 show visL l seq k++(match l[k]? with | some e=>_ | none=>_)=_
 rw[List.getElem?_eq_getElem h]
theorem zo0 (l:List Ent) (seq:Int): ∀k,k≤l.length→(visL l seq k).length≤k:=by
 intro k
 induction k with
 | zero=>intro _;simp[visL]
 | succ k ih=>
   intro h
   have:=ih (by omega)
   rw[zkq l seq k (by omega),List.length_append]
   split
   ·simp only[List.length_cons,List.length_nil];omega
   ·simp only[List.length_nil];omega
def lastS (l:List Ent) (seq:Int):Nat→List UInt8 × Bool
 | 0=>([],false)
 | k+1=>match l[k]? with | some e=>if visE l seq k=true then (e.Key,true) else lastS l seq k | none=>lastS l seq k
theorem zi8 (l:List Ent) (seq:Int) (k:Nat) (h:k<l.length):lastS l seq (k+1)=if visE l seq k=true then (l[k].Key,true) else lastS l seq k:=by
 show (match l[k]? with | some e=>_ | none=>_)=_
 rw[List.getElem?_eq_getElem h]
theorem zqx (l:List Ent) (seq:Int): ∀k,k≤l.length→(lastS l seq k).2=true∧(∃i,∃h:i<l.length,i<k∧visE l seq i=true∧l[i].Key=(lastS l seq k).1∧∀j,i<j→j<k→visE l seq j=false)∨(lastS l seq k).2=false∧∀j,j<k→visE l seq j=false:=by
 intro k
 induction k with
 | zero=>intro _;exact .inr ⟨rfl,fun j hj=>by omega⟩
 | succ k ih=>
   intro hk
   rw[zi8 l seq k (by omega)]
   cases hv:visE l seq k with
   | true=>exact .inl ⟨rfl,k,by omega,by omega,hv,rfl,fun j h1 h2=>by omega⟩
   | false=>
     simp only[Bool.false_eq_true,if_false]
     have hx: ∀j,j<k+1→(j<k→visE l seq j=false)→visE l seq j=false:=by
      intro j hj hjk
      by_cases e:j=k
      ·subst e;exact hv
      ·exact hjk (by omega)
     rcases ih (by omega) with ⟨h1,i,hi,h2,h3,h4,h5⟩ | ⟨h1,h2⟩
     ·exact .inl ⟨h1,i,hi,by omega,h3,h4,fun j h6 h7=>hx j h7 (h5 j h6)⟩
     ·exact .inr ⟨h1,fun j hj=>hx j hj (h2 j)⟩
theorem zmq (l:List Ent) (seq:Int): ∀(n j:Nat) (hn:j≤n) (hj:j<l.length),l[j].Seq≤seq→∃i,∃h:i<l.length,i≤j∧visE l seq i=true∧l[i].Key=l[j].Key:=by
 intro n
 induction n with
 | zero=>
   intro j hn hj hs
   obtain rfl:j=0:=by omega
   exact ⟨0,hj,Nat.le_refl _,by rw[zhm l seq 0 hj];simp[hs],rfl⟩
 | succ n ih=>
   intro j hn hj hs
   cases hv:visE l seq j with
   | true=>exact ⟨j,hj,Nat.le_refl _,hv,rfl⟩
   | false=>
     rw[zhm l seq j hj,decide_eq_true hs,Bool.true_and,←Bool.not_eq_true,List.all_eq_true]at hv
     simp only[Classical.not_forall]at hv
     obtain ⟨e,he,h2⟩:=hv
     obtain ⟨i,hi,rfl⟩:=List.getElem_of_mem he
     have hij:i<j:=by simp at hi;omega
     simp only[List.getElem_take]at h2
     have h3:(l[i]'(by omega)).Key=l[j].Key∧(l[i]'(by omega)).Seq≤seq:=by simpa using h2
     obtain ⟨q,hq,h4,h5,h6⟩:=ih i (by omega) (by omega) h3.2
     exact ⟨q,hq,by omega,h5,h6.trans h3.1⟩
theorem zoO {l:List Ent} {seq:Int} {k:Nat} (ho:entsV l=true) (hk:k<l.length) (hs:l[k].Seq≤seq):visE l seq k= !((lastS l seq k).2&&decide (l[k].Key=(lastS l seq k).1)):=by
 rw[zhm l seq k hk,decide_eq_true hs,Bool.true_and]
 rcases zqx l seq k (by omega) with ⟨h1,i,hi,h2,h3,h4,h5⟩ | ⟨h1,h2⟩
 ·rw[h1,Bool.true_and]
  by_cases hkey:l[k].Key=(lastS l seq k).1
  ·rw[decide_eq_true hkey]
   show _=false
   rw[←Bool.not_eq_true,List.all_eq_true]
   intro hall
   have hm:l[i]∈l.take k:=by
    have:(l.take k)[i]'(by simp;omega)=l[i]:=by simp
    rw[←this];exact List.getElem_mem _
   have:=hall _ hm
   rw[zhm l seq i hi,Bool.and_eq_true]at h3
   simp[h4,hkey]at this
   have h6:=of_decide_eq_true h3.1
   omega
  ·rw[decide_eq_false hkey,Bool.not_false,List.all_eq_true]
   intro d hd
   obtain ⟨j,hj,rfl⟩:=List.getElem_of_mem hd
   have hjk:j<k:=by simp at hj;omega
   simp only[List.getElem_take]
   cases hb:(decide ((l[j]'(by omega)).Key=l[k].Key)&&decide ((l[j]'(by omega)).Seq≤seq)) with
   | false=>rfl
   | true=>
     exfalso
     simp only[Bool.and_eq_true,decide_eq_true_eq]at hb
     obtain ⟨q,hq,h6,h7,h8⟩:=zmq l seq j j (Nat.le_refl _) (by omega) hb.2
     have hqi:q≤i:=by
      rcases Nat.lt_or_ge i q with h | h
      ·have:=h5 q h (by omega);rw[h7]at this;cases this
      ·exact h
     have hqk:l[q].Key=l[k].Key:=h8.trans hb.1
     refine hkey ?_
     rw[←h4]
     by_cases e:q=i
     ·subst e;exact hqk.symm
     ·rcases zks ho i hi q (by omega) with h9 | ⟨h9,_⟩
      ·rcases zks ho k hk i h2 with h10 | ⟨h10,_⟩
       ·have:=zej h9 h10
        rw[hqk,zcZ]at this;cases this
       ·exact h10.symm
      ·exact hqk.symm.trans h9
 ·rw[h1,Bool.false_and,Bool.not_false,List.all_eq_true]
  intro d hd
  obtain ⟨j,hj,rfl⟩:=List.getElem_of_mem hd
  have hjk:j<k:=by simp at hj;omega
  simp only[List.getElem_take]
  cases hb:(decide ((l[j]'(by omega)).Key=l[k].Key)&&decide ((l[j]'(by omega)).Seq≤seq)) with
  | false=>rfl
  | true=>
    exfalso
    simp only[Bool.and_eq_true,decide_eq_true_eq]at hb
    obtain ⟨q,hq,h6,h7,h8⟩:=zmq l seq j j (Nat.le_refl _) (by omega) hb.2
    have:=h2 q (by omega)
    rw[h7]at this;cases this
theorem zlY (l:List Ent) (seq:Int) (ho:entsV l=true) (h:l.length≤1048576):zeR l seq=some (visL l seq l.length):=by
 unfold zeR
 rw[zo (fun k=>((lastS l seq k).1,(lastS l seq k).2,(k:Int),visL l seq k)) l.length (r:=Ctl.go (visL l seq l.length)) ?h0]
 case h0=>rfl
 ·rfl
 ·intro k hk
  have hlen:=zo0 l seq k (by omega)
  simp only[ze l k hk,Option.bind_some,zkq l seq k hk,zi8 l seq k hk]
  rw[if_pos (by simpa using hk),zb (n:=(k:Int)+1) (by omega) (by omega)]
  by_cases hs:l[k].Seq≤seq
  ·have hsk:=zoO ho hk hs
   generalize lastS l seq k=ls at hsk ⊢
   obtain ⟨last,seen⟩:=ls
   simp only at hsk ⊢
   rw[decide_eq_false (by omega: ¬l[k].Seq>seq)]
   simp only[Bool.false_eq_true,if_false]
   cases seen with
   | false=>
     rw[Bool.false_and,Bool.not_false]at hsk
     rw[hsk]
     cases hd:l[k].Del with
     | true=>simp
     | false=>
       simp only[Bool.false_eq_true,if_false,if_true,Option.bind_some,Bool.not_false,and_self]
       rw[zm (by simp;omega) (by simp;omega)]
       simp
   | true=>
     rw[Bool.true_and]at hsk
     by_cases hkey:l[k].Key=last
     ·rw[decide_eq_true hkey]at hsk
      rw[hsk,decide_eq_true hkey]
      simp
     ·rw[decide_eq_false hkey]at hsk
      rw[hsk,decide_eq_false hkey]
      cases hd:l[k].Del with
      | true=>simp
      | false=>
        simp only[Bool.false_eq_true,if_false,if_true,Option.bind_some,Bool.not_false,and_self]
        rw[zm (by simp;omega) (by simp;omega)]
        simp
  ·have hv:visE l seq k=false:=by rw[zhm l seq k hk,decide_eq_false hs,Bool.false_and]
   rw[hv,decide_eq_true (by omega:l[k].Seq>seq)]
   simp
 ·simp
def rangeV (l:List Ent):Int × Int:=l.foldl (fun s e=>(goMin s.1 e.Seq,goMax s.2 e.Seq)) (1000001,-1)
def memV (l:List Ent):Bool:=decide (l.length≤60)&&entsV l
def tabsV (seq:Int):Int→List (List Ent)→Bool
 | _,[]=>true
 | low,t::r=>(decide (t≠[])&&(entsV t&&(decide ((rangeV t).2<low)&&decide ((rangeV t).2≤seq))))&&tabsV seq (rangeV t).1 r
def snapP (seq:Int) (l:List Int) (k:Nat):Bool:=match l[k]? with
 | some s=>decide (0≤s∧s≤seq)&&(match k with | 0=>true | j+1=>match l[j]? with | some d=>decide (d<s) | none=>true)
 | none=>true
theorem zlB (seq:Int) (l:List Int) (k:Nat) (h:k<l.length):snapP seq l k=(decide (0≤l[k]∧l[k]≤seq)&&(if h0:0<k then decide (l[k - 1]'(by omega)<l[k]) else true)):=by
 unfold snapP
 rw[List.getElem?_eq_getElem h]
 cases k with
 | zero=>rfl
 | succ j=>
   simp only[Nat.zero_lt_succ,dif_pos,Nat.add_sub_cancel]
   rw[List.getElem?_eq_getElem (by omega)]
def snapsV (seq:Int) (l:List Int):Bool:=(List.range l.length).all (snapP seq l)
def totalV (l:List (List Ent)):Nat:=(l.map List.length).sum
def engV (e:Eng):Bool:=(decide (0≤e.Seq∧e.Seq≤1000000)&&(decide (e.Snaps.length≤4)&&(decide (e.Tables.length≤6)&&(decide (totalV e.Tables+e.Mem.length≤400)&&(memV e.Mem&&(decide ((rangeV e.Mem).2≤e.Seq)&&tabsV e.Seq (rangeV e.Mem).1 e.Tables))))))&&snapsV e.Seq e.Snaps
theorem zqV (l:List (List Ent)) (k:Nat) (h:k<l.length):totalV (l.take (k+1))=totalV (l.take k)+l[k].length:=by
 unfold totalV
 rw[show l.take (k+1)=l.take k++ [l[k]] by rw[List.take_add_one,List.getElem?_eq_getElem h];rfl,List.map_append,List.sum_append]
 simp
theorem zs8 (l:List (List Ent)) (k:Nat):totalV (l.take k)≤totalV l:=by
 unfold totalV
 conv=>rhs;rw[←List.take_append_drop k l]
 rw[List.map_append,List.sum_append]
 omega
theorem zh9 (l:List (List Ent)) (h:l.length≤1048576) (ht:totalV l≤1048576):zd9 l=some (totalV l:Int):=by
 unfold zd9
 rw[zo (fun k=>((totalV (l.take k):Int),(k:Int))) l.length (r:=Ctl.go (totalV l:Int)) ?h0]
 case h0=>rfl
 ·rfl
 ·intro k hk
  have h1:=zqV l k hk
  have h2:=zs8 l (k+1)
  simp only[ze l k hk,Option.bind_some,h1]
  rw[if_pos (by simpa using hk),zb (n:=(k:Int)+1) (by omega) (by omega),zb (by omega) (by omega)]
  rfl
 ·simp
theorem zjP (s:List Ent) (h:s.length≤1048576):zb8 s=some s:=by
 unfold zb8
 rw[zm (by simp;omega) (by simp;omega)]
 rfl
theorem zog (s:List Int) (h:s.length≤1048576):zcC s=some s:=by
 unfold zcC
 rw[zm (by simp;omega) (by simp;omega)]
 rfl
theorem zh3 (e:Eng) (h1:e.Mem.length≤1048576) (h2:e.Tables.length≤1048576) (h3: ∀t∈e.Tables,t.length≤1048576) (h4:e.Snaps.length≤1048576):zd4 e=some e:=by
 unfold zd4
 simp only[zjP _ h1,zog _ h4,Option.bind_some]
 rw[zo (fun k=>((k:Int),e.Tables.take k)) e.Tables.length (r:=Ctl.go e.Tables) ?h0]
 case h0=>rfl
 ·rfl
 ·intro k hk
  have ht:e.Tables.take (k+1)=e.Tables.take k++ [e.Tables[k]]:=by rw[List.take_add_one,List.getElem?_eq_getElem hk];rfl
  simp only[ze e.Tables k hk,Option.bind_some,zjP _ (h3 _ (List.getElem_mem hk))]
  rw[if_pos (by simpa using hk),zb (n:=(k:Int)+1) (by omega) (by omega),zm (by simp;omega) (by simp;omega),ht]
  rfl
 ·simp
theorem zo7 (s:List Int) (v:Int) (h:s.length≤1048576):zb9 s v=some (decide (v∈s)):=by
 unfold zb9 zbn
 have key: ∃c,loopO (ρ:=Ctl Unit Int) (fun (S1:Int)=>if (decide (S1<(s.length:Int)))=true then ((idx s S1).bind fun E6=>
  if (decide (v=E6))=true then (some (.done (.done S1))) else (some (.go (IntKind.i64.wrap (S1+(1:Int)))))) else (some (.done (.go ())))) (0:Int)=some c∧
  ((∃j:Int,c= .done j∧0≤j∧v∈s)∨(c= .go ()∧v∉s)):=by
  refine zbi (fun i t=>t=(i:Int)∧∀q (h:q<s.length),q<i→s[q]≠v) s.length _ ⟨rfl,fun q h h2=>by omega⟩ ?_ ?_
  ·rintro i t hi ⟨rfl,h2⟩
   simp only[ze s i hi,Option.bind_some]
   rw[if_pos (by simpa using hi),zb (by omega) (by omega)]
   by_cases c:v=s[i]
   ·right
    exact ⟨_,by rw[if_pos (by simpa using c)],.inl ⟨_,rfl,by omega,by rw[c];exact List.getElem_mem hi⟩⟩
   ·left
    refine ⟨(i:Int)+1,by rw[if_neg (by simpa using c)],by omega,fun q h h3=>?_⟩
    by_cases e:q=i
    ·subst e;exact fun e2=>c e2.symm
    ·exact h2 q h (by omega)
  ·rintro t ⟨rfl,h2⟩
   refine ⟨.go (),by simp,.inr ⟨rfl,fun hm=>?_⟩⟩
   obtain ⟨q,hq,rfl⟩:=List.getElem_of_mem hm
   exact h2 q hq hq rfl
 obtain ⟨c,hc,h2⟩:=key
 rw[hc]
 rcases h2 with ⟨j,rfl,h3,h4⟩ | ⟨rfl,h4⟩
 ·simp[h3,h4]
 ·simp[h4]
theorem zgv {seq:Int} {l:List Int} (hv:snapsV seq l=true) (k:Nat) (hk:k<l.length):(0≤l[k]∧l[k]≤seq)∧(0<k→l[k - 1]'(by omega)<l[k]):=by
 unfold snapsV at hv
 rw[List.all_eq_true]at hv
 have:=hv k (by simpa using hk)
 rw[zlB seq l k hk,Bool.and_eq_true]at this
 refine ⟨of_decide_eq_true this.1,fun h0=>?_⟩
 have h2:=this.2
 rw[dif_pos h0]at h2
 exact of_decide_eq_true h2
def snapR (e:Eng):Eng × Int × Bool:=
 if engV e=true then (if e.Seq∈e.Snaps then (e,e.Seq,true) else if e.Snaps.length=4 then (e,0,false) else ({e with Snaps:=e.Snaps++ [e.Seq]},e.Seq,true))
 else (⟨[],[],0,[]⟩,0,false)
theorem zqn {e:Eng} (h:engV e=true):e.Snaps.length≤4∧snapsV e.Seq e.Snaps=true:=by
 unfold engV at h
 simp only[Bool.and_eq_true,decide_eq_true_eq]at h
 exact ⟨h.1.2.1,h.2⟩
theorem zbb {α:Type} (l:List α) (a b:Nat) (lo hi:Int) (h1:lo=(a:Int)) (h2:hi=(b:Int)) (h3:a≤b) (h4:b≤l.length):piece l lo hi=some ((l.drop a).take (b - a)):=by
 subst h1 h2
 unfold piece
 rw[if_pos ⟨by omega,by omega,by omega⟩,Int.toNat_natCast,Int.toNat_natCast]
theorem ziY {α:Type} (l:List α) (p:α→Bool) (j:Nat) (hj:j<l.length) (h1:p l[j]=false) (h2: ∀i (h:i<l.length),i≠j→p l[i]=true):l.filter p=l.take j++l.drop (j+1):=by
 have hs:l=l.take j++l[j]::l.drop (j+1):=by rw[←List.drop_eq_getElem_cons hj,List.take_append_drop]
 have ha:(l.take j).filter p=l.take j:=by
  rw[List.filter_eq_self]
  intro x hx
  obtain ⟨i,hi,rfl⟩:=List.getElem_of_mem hx
  have hi':i<j:=by simp at hi;omega
  simp only[List.getElem_take]
  exact h2 i (by omega) (by omega)
 have hb:(l.drop (j+1)).filter p=l.drop (j+1):=by
  rw[List.filter_eq_self]
  intro x hx
  obtain ⟨i,hi,rfl⟩:=List.getElem_of_mem hx
  have hi':j+1+i<l.length:=by simp at hi;omega
  simp only[List.getElem_drop]
  exact h2 (j+1+i) hi' (by omega)
 conv=>lhs;rw[hs]
 rw[List.filter_append,List.filter_cons_of_neg (by simpa using h1),ha,hb]
theorem zig {α:Type} (p:α→Bool) (l:List α) (k:Nat) (h:k<l.length):(l.take (k+1)).filter p=(l.take k).filter p++if p l[k]=true then [l[k]] else []:=by
 rw[show l.take (k+1)=l.take k++ [l[k]] by rw[List.take_add_one,List.getElem?_eq_getElem h];rfl,List.filter_append]
 congr 1
 by_cases c:p l[k]=true
 ·rw[if_pos c,List.filter_cons_of_pos c];rfl
 ·rw[if_neg c,List.filter_cons_of_neg c];rfl
theorem ziX {α:Type} (p:α→Bool) (l:List α) (k:Nat):((l.take k).filter p).length≤k:=Nat.le_trans (List.length_filter_le _ _) (by simp;omega)
theorem zqj (l:List Int) (j:Nat) (hj:j<l.length) (h:l.length≤1048576):zcm l (j:Int) (IntKind.i64.wrap ((j:Int)+1))=some (l.take j++l.drop (j+1)):=by
 unfold zcm
 have hw:IntKind.i64.wrap ((j:Int)+1)=((j+1:Nat):Int):=by rw[zb (by omega) (by omega)];omega
 rw[hw,zbb l j (j+1) _ _ rfl rfl (by omega) (by omega),zbb l 0 j 0 (j:Int) rfl rfl (by omega) (by omega),zbb l (j+1) l.length _ _ rfl rfl (by omega) (by omega)]
 simp only[Option.bind_some]
 rw[if_neg (by simp;omega)]
 simp
 exact List.take_of_length_le (by simp)
theorem zpe (s:List Int) (v:Int) (h:s.length≤1048576):(∃j,∃hj:j<s.length,zbn s v=some (j:Int)∧s[j]=v)∨(zbn s v=some (-1)∧∀x∈s,¬x=v):=by
 unfold zbn
 have key: ∃c,loopO (ρ:=Ctl Unit Int) (fun (S1:Int)=>if (decide (S1<(s.length:Int)))=true then ((idx s S1).bind fun E6=>
  if (decide (v=E6))=true then (some (.done (.done S1))) else (some (.go (IntKind.i64.wrap (S1+(1:Int)))))) else (some (.done (.go ())))) (0:Int)=some c∧
  ((∃j,∃hj:j<s.length,c= .done (j:Int)∧s[j]=v)∨(c= .go ()∧∀x∈s,¬x=v)):=by
  refine zbi (fun i t=>t=(i:Int)∧∀q (h:q<s.length),q<i→¬s[q]=v) s.length _ ⟨rfl,fun q h h2=>by omega⟩ ?_ ?_
  ·rintro i t hi ⟨rfl,h2⟩
   simp only[ze s i hi,Option.bind_some]
   rw[if_pos (by simpa using hi),zb (by omega) (by omega)]
   by_cases c:v=s[i]
   ·right
    exact ⟨_,by rw[if_pos (by simpa using c)],.inl ⟨i,hi,rfl,c.symm⟩⟩
   ·left
    refine ⟨(i:Int)+1,by rw[if_neg (by simpa using c)],by omega,fun q h h3=>?_⟩
    by_cases e:q=i
    ·subst e;exact fun e2=>c e2.symm
    ·exact h2 q h (by omega)
  ·rintro t ⟨rfl,h2⟩
   refine ⟨.go (),by simp,.inr ⟨rfl,fun x hx=>?_⟩⟩
   obtain ⟨q,hq,rfl⟩:=List.getElem_of_mem hx
   exact h2 q hq hq
 obtain ⟨c,hc,h2⟩:=key
 rw[hc]
 rcases h2 with ⟨j,hj,rfl,h3⟩ | ⟨rfl,h3⟩
 ·exact .inl ⟨j,hj,rfl,h3⟩
 ·exact .inr ⟨rfl,h3⟩
theorem zjn {seq:Int} {l:List Int} (hv:snapsV seq l=true): ∀(j:Nat) (hj:j<l.length) (i:Nat) (hi:i<j),l[i]'(by omega)<l[j]:=by
 intro j
 induction j with
 | zero=>intro _ i hi;omega
 | succ j ih=>
   intro hj i hi
   have h1:=(zgv hv (j+1) hj).2 (by omega)
   simp only[Nat.add_sub_cancel]at h1
   by_cases e:i=j
   ·subst e;exact h1
   ·have:=ih (by omega) i (by omega);omega
def dropS (l:List Int) (x:Int):List Int:=l.filter fun s=>!decide (s=x)
theorem zok {seq:Int} {l:List Int} (hv:snapsV seq l=true) (j:Nat) (hj:j<l.length):dropS l l[j]=l.take j++l.drop (j+1):=by
 unfold dropS
 refine ziY l _ j hj (by simp) fun i hi hij=>?_
 have: ¬l[i]=l[j]:=by
  rcases Nat.lt_or_ge i j with h | h
  ·have:=zjn hv j hj i h;omega
  ·have:=zjn hv i hi j (by omega);omega
 simp[this]
def engDropR (e:Eng) (x:Int):Eng × Bool:=if engV e=true then (if x∈e.Snaps then ({e with Snaps:=dropS e.Snaps x},true) else (e,false)) else (⟨[],[],0,[]⟩,false)
def shareP (l:List Share) (k:Nat):Bool:=match l[k]? with
 | some x=>decide (1≤x.Tenant∧x.Tenant≤99)&&(decide (0≤x.Quota∧x.Quota≤1000)&&(match k with | 0=>true | j+1=>match l[j]? with | some d=>decide (d.Tenant<x.Tenant) | none=>true))
 | none=>true
theorem zid (l:List Share) (k:Nat) (h:k<l.length):shareP l k=(decide (1≤l[k].Tenant∧l[k].Tenant≤99)&&(decide (0≤l[k].Quota∧l[k].Quota≤1000)&&(if h0:0<k then decide ((l[k - 1]'(by omega)).Tenant<l[k].Tenant) else true))):=by
 unfold shareP
 rw[List.getElem?_eq_getElem h]
 cases k with
 | zero=>rfl
 | succ j=>
   simp only[Nat.zero_lt_succ,dif_pos,Nat.add_sub_cancel]
   rw[List.getElem?_eq_getElem (by omega)]
def allNeed (s:Shares):Int:=(s.List.map fun x=>needV x.Quota).sum+if s.List.length>0 then 4 else 0
def sharesV (s:Shares):Bool:=decide (0≤s.Size∧s.Size≤1000)&&(decide (s.List.length≤4)&&((List.range s.List.length).all (shareP s.List)&&decide (allNeed s≤s.Size)))
theorem zbo (s:Shares) (h:s.List.length≤1048576):zcM s=some (sharesV s):=by
 unfold zcM sharesV
 simp only[zcq,Option.bind_some,ziS s h]
 by_cases h0:0≤s.Size∧s.Size≤1000
 ·by_cases h4:s.List.length≤4
  ·rw[decide_eq_true h0,decide_eq_true h4,decide_eq_false (by omega: ¬(s.List.length:Int)>4)]
   simp only[Bool.not_true,Bool.false_eq_true,if_false,Option.bind_some,Bool.true_and]
   rw[zod (shareP s.List) s.List.length ?hp ?hq]
   case hq=>simp
   case hp=>
    intro k hk
    simp only[ze s.List k hk,Option.bind_some]
    rw[if_pos (by simpa using hk),zb (n:=(k:Int)+1) (by omega) (by omega),zid s.List k hk]
    by_cases d1:1≤s.List[k].Tenant∧s.List[k].Tenant≤99
    ·by_cases d2:0≤s.List[k].Quota∧s.List[k].Quota≤1000
     ·rw[decide_eq_true d1,decide_eq_true d2]
      by_cases hk0:0<k
      ·have hw:IntKind.i64.wrap ((k:Int) - 1)=((k - 1:Nat):Int):=by rw[zb (by omega) (by omega)];omega
       rw[dif_pos hk0,if_neg (by simp),if_neg (by simp),if_pos (by simp;omega)]
       simp only[hw,ze s.List (k - 1) (by omega),Option.bind_some]
       by_cases d3:(s.List[k - 1]'(by omega)).Tenant<s.List[k].Tenant
       ·simp[d3,show ¬s.List[k].Tenant≤(s.List[k - 1]'(by omega)).Tenant by omega]
       ·simp[d3,show s.List[k].Tenant≤(s.List[k - 1]'(by omega)).Tenant by omega]
      ·obtain rfl:k=0:=by omega
       simp
     ·rw[decide_eq_true d1,decide_eq_false d2]
      simp
    ·rw[decide_eq_false d1]
     simp
   cases (List.range s.List.length).all (shareP s.List) with
   | false=>rfl
   | true=>rfl
  ·rw[decide_eq_true h0,decide_eq_false h4,decide_eq_true (by omega:(s.List.length:Int)>4)]
   rfl
 ·rw[decide_eq_false h0]
  rfl
theorem znE {s:Shares} (hv:sharesV s=true): ∀(j:Nat) (hj:j<s.List.length) (i:Nat) (hi:i<j),(s.List[i]'(by omega)).Tenant<s.List[j].Tenant:=by
 intro j
 induction j with
 | zero=>intro _ i hi;omega
 | succ j ih=>
   intro hj i hi
   have h1:(s.List[j]'(by omega)).Tenant<s.List[j+1].Tenant:=by
    unfold sharesV at hv
    simp only[Bool.and_eq_true,List.all_eq_true]at hv
    have:=hv.2.2.1 (j+1) (by simpa using hj)
    rw[zid s.List (j+1) hj,dif_pos (by omega)]at this
    simp only[Bool.and_eq_true]at this
    exact of_decide_eq_true this.2.2
   by_cases e:i=j
   ·subst e;exact h1
   ·have:=ih (by omega) i (by omega);omega
theorem zmy (s:List Share) (h:s.length≤1048576):zcB s=some s:=by
 unfold zcB
 rw[zm (by simp;omega) (by simp;omega)]
 rfl
theorem zgK (s:Shares) (h:s.List.length≤1048576):zcG s=some s:=by
 unfold zcG
 rw[zmy _ h]
 rfl
theorem zie (s:Shares) (h:s.List.length≤1048576):zhJ s=some s:=by
 unfold zhJ
 rw[zm (by simp;omega) (by simp;omega)]
 rfl
theorem zgQ (s:Shares) (t:Int) (hv:sharesV s=true) (h:s.List.length≤1048576):
 ∃j,j≤s.List.length∧(∀i (hi:i<s.List.length),i<j→s.List[i].Tenant<t)∧(∀i (hi:i<s.List.length),j<i→t<s.List[i].Tenant)∧
  ((∃hj:j<s.List.length,zdi s t=some ((j:Int),true)∧s.List[j].Tenant=t)∨(zdi s t=some ((j:Int),false)∧∀i (hi:i<s.List.length),j≤i→t<s.List[i].Tenant)):=by
 unfold zdi
 have key: ∃c,loopO (ρ:=Ctl Int (Int × Bool)) (fun (S2:Int)=>(if (decide (S2<(s.List.length:Int)))=true then ((idx s.List S2).bind fun E9=>some (decide (E9.Tenant<t))) else (some false)).bind (fun (T6:Bool)=>
  if T6=true then (some (.go (IntKind.i64.wrap (S2+(1:Int))))) else (some (.done (.go S2))))) (0:Int)=some c∧
  ∃j,c= .go ((j:Nat):Int)∧j≤s.List.length∧(∀i (hi:i<s.List.length),i<j→s.List[i].Tenant<t)∧∀hj:j<s.List.length,t≤s.List[j].Tenant:=by
  refine zbi (fun i q=>q=(i:Int)∧∀q (h:q<s.List.length),q<i→s.List[q].Tenant<t) s.List.length _ ⟨rfl,fun q h h2=>by omega⟩ ?_ ?_
  ·rintro i q hi ⟨rfl,h2⟩
   simp only[ze s.List i hi,Option.bind_some]
   rw[if_pos (by simpa using hi),zb (by omega) (by omega)]
   by_cases c:s.List[i].Tenant<t
   ·left
    refine ⟨(i:Int)+1,by simp[c],by omega,fun q h h3=>?_⟩
    by_cases e:q=i
    ·subst e;exact c
    ·exact h2 q h (by omega)
   ·right
    exact ⟨.go (i:Int),by simp[c],i,rfl,by omega,fun q h h3=>h2 q h h3,fun _=>by omega⟩
  ·rintro q ⟨rfl,h2⟩
   exact ⟨.go (s.List.length:Int),by simp,s.List.length,rfl,Nat.le_refl _,fun q h h3=>h2 q h h3,fun hj=>by omega⟩
 obtain ⟨c,hc,j,rfl,h1,h2,h3⟩:=key
 rw[hc]
 have h4: ∀i (hi:i<s.List.length),j<i→t<s.List[i].Tenant:=fun i hi hji=>by
  have:=h3 (by omega)
  have:=znE hv i hi j hji
  omega
 refine ⟨j,h1,h2,h4,?_⟩
 by_cases hj:j<s.List.length
 ·by_cases e:s.List[j].Tenant=t
  ·refine .inl ⟨hj,?_,e⟩
   simp[ze s.List j hj,hj,e]
  ·refine .inr ⟨?_,fun i hi hji=>?_⟩
   ·simp[ze s.List j hj,hj,e]
   ·by_cases e2:i=j
    ·subst e2
     have:=h3 hi
     omega
    ·exact h4 i hi (by omega)
 ·refine .inr ⟨?_,fun i hi hji=>by omega⟩
  simp[hj]
theorem zoj (l:List Share) (j:Nat) (hj:j<l.length) (h:l.length≤1048576):zcl l (j:Int) (IntKind.i64.wrap ((j:Int)+1))=some (l.take j++l.drop (j+1)):=by
 unfold zcl
 have hw:IntKind.i64.wrap ((j:Int)+1)=((j+1:Nat):Int):=by rw[zb (by omega) (by omega)];omega
 rw[hw,zbb l j (j+1) _ _ rfl rfl (by omega) (by omega),zbb l 0 j 0 (j:Int) rfl rfl (by omega) (by omega),zbb l (j+1) l.length _ _ rfl rfl (by omega) (by omega)]
 simp only[Option.bind_some]
 rw[if_neg (by simp;omega)]
 simp
 exact List.take_of_length_le (by simp)
def dropT (l:List Share) (t:Int):List Share:=l.filter fun x=>!decide (x.Tenant=t)
def shareDropR (s:Shares) (t:Int):Shares × Bool:=if sharesV s=true then (if (dropT s.List t).length=s.List.length then (s,false) else ({s with List:=dropT s.List t},true)) else (⟨0,[]⟩,false)
theorem zkL (s:Shares) (t:Int) (h:s.List.length≤1048576):zdZ s t=some (shareDropR s t):=by
 unfold zdZ shareDropR
 rw[zb4 s h,zbo s h]
 cases hv:sharesV s with
 | false=>rfl
 | true=>
   simp only[Option.bind_some,Bool.not_true,Bool.false_eq_true,if_false,if_true,zgK s h]
   obtain ⟨j,hj,h1,h2,h3⟩:=zgQ s t hv h
   rcases h3 with ⟨hjl,h4,h5⟩ | ⟨h4,h5⟩
   ·rw[h4]
    simp only[Option.bind_some,Bool.not_true,Bool.false_eq_true,if_false,zoj s.List j hjl h]
    have hd:dropT s.List t=s.List.take j++s.List.drop (j+1):=by
     unfold dropT
     refine ziY s.List _ j hjl (by simp[h5]) fun i hi hij=>?_
     have: ¬s.List[i].Tenant=t:=by
      rcases Nat.lt_or_ge i j with h6 | h6
      ·have:=h1 i hi h6;omega
      ·have:=h2 i hi (by omega);omega
     simp[this]
    have hl: ¬(s.List.take j++s.List.drop (j+1)).length=s.List.length:=by simp;omega
    rw[hd,if_neg hl]
   ·rw[h4]
    have hd:dropT s.List t=s.List:=by
     unfold dropT
     rw[List.filter_eq_self]
     intro x hx
     obtain ⟨i,hi,rfl⟩:=List.getElem_of_mem hx
     have: ¬s.List[i].Tenant=t:=by
      rcases Nat.lt_or_ge i j with h6 | h6
      ·have:=h1 i hi h6;omega
      ·have:=h5 i hi h6;omega
     simp[this]
    rw[hd]
    simp
def setF (l:List Share) (t q:Int) (j D k:Nat):Bool × Int × List Share:=bif Nat.ble k j then (false,(k:Int),l.take k) else (true,(k:Int),l.take j++(⟨t,q⟩::(l.drop D).take (k - D)))
theorem zkC (l:List Share) (t q:Int) (j D k:Nat) (h:k≤j):setF l t q j D k=(false,(k:Int),l.take k):=by
 unfold setF
 rw[Nat.ble_eq_true_of_le h]
 rfl
theorem zkB (l:List Share) (t q:Int) (j D k:Nat) (h:j<k):setF l t q j D k=(true,(k:Int),l.take j++(⟨t,q⟩::(l.drop D).take (k - D))):=by
 unfold setF
 have:Nat.ble k j=false:=by
  cases hb:Nat.ble k j
  ·rfl
  ·exact absurd (Nat.le_of_ble_eq_true hb) (by omega)
 rw[this]
 rfl
theorem zen (s:Shares) (t q:Int) (j D:Nat) (hv:sharesV s=true) (hs4:s.List.length≤4) (hj:j≤s.List.length) (hD:D=j∨D=j+1) (hDl:D≤s.List.length)
 (h1: ∀i (hi:i<s.List.length),i<j→s.List[i].Tenant<t) (h2: ∀i (hi:i<s.List.length),D≤i→t<s.List[i].Tenant) (h3:D=j+1→∀hi:j<s.List.length,s.List[j].Tenant=t):
 zcL s t q=some (if sharesV ⟨s.Size,s.List.take j++(⟨t,q⟩::s.List.drop D)⟩=true then (⟨s.Size,s.List.take j++(⟨t,q⟩::s.List.drop D)⟩,true) else (s,false)):=by
 unfold zcL
 rw[zbo s (by omega),hv]
 simp only[Option.bind_some,Bool.not_true,Bool.false_eq_true,if_false]
 have hrl:(s.List.take j++(⟨t,q⟩::s.List.drop D):List Share).length≤1048576:=by simp;omega
 have hfin:zcM ⟨s.Size,s.List.take j++(⟨t,q⟩::s.List.drop D)⟩=some (sharesV ⟨s.Size,s.List.take j++(⟨t,q⟩::s.List.drop D)⟩):=zbo _ hrl
 by_cases hjl:j=s.List.length
 ·have hDj:D=j:=by omega
  rw[zo (fun k=>(false,(k:Int),s.List.take k)) s.List.length (r:=Ctl.go (false,s.List)) ?h0]
  case h0=>rfl
  ·simp only[zf,Bool.not_false,if_true]
   rw[zm (by simp;omega) (by simp;omega)]
   simp only[Option.bind_some,zf]
   have hl:s.List++ [⟨t,q⟩]=s.List.take j++(⟨t,q⟩::s.List.drop D):=by rw[hDj,hjl];simp
   rw[hl,hfin]
   simp only[Option.bind_some,zie s (by omega)]
   cases sharesV ⟨s.Size,s.List.take j++(⟨t,q⟩::s.List.drop D)⟩<;>rfl
  ·intro k hk
   have hk1:=h1 k hk (by omega)
   have ht:s.List.take (k+1)=s.List.take k++ [s.List[k]]:=by rw[List.take_add_one,List.getElem?_eq_getElem hk];rfl
   simp only[ze s.List k hk,Option.bind_some,Bool.not_false,if_true]
   rw[if_pos (by simpa using hk),zb (n:=(k:Int)+1) (by omega) (by omega),decide_eq_false (by omega: ¬s.List[k].Tenant≥t),decide_eq_false (by omega: ¬s.List[k].Tenant=t)]
   simp only[Bool.false_eq_true,if_false,zf,Bool.not_false,if_true]
   rw[zm (by simp;omega) (by simp;omega),ht]
   rfl
  ·simp
 ·have hjl':j<s.List.length:=by omega
  rw[zo (setF s.List t q j D) s.List.length (r:=Ctl.go (true,s.List.take j++(⟨t,q⟩::s.List.drop D))) ?h0]
  case h0=>rw[zkC _ _ _ _ _ _ (Nat.zero_le _)];simp
  ·simp only[zf,Bool.not_true,Bool.false_eq_true,if_false,hfin,Option.bind_some,zie s (by omega)]
   cases sharesV ⟨s.Size,s.List.take j++(⟨t,q⟩::s.List.drop D)⟩<;>rfl
  ·intro k hk
   have hw:=zb (n:=(k:Int)+1) (by omega) (by omega)
   rcases Nat.lt_trichotomy k j with hkj | hkj | hkj
   ·have hk1:=h1 k hk hkj
    have ht:s.List.take (k+1)=s.List.take k++ [s.List[k]]:=by rw[List.take_add_one,List.getElem?_eq_getElem hk];rfl
    rw[zkC _ _ _ _ _ _ (by omega),zkC _ _ _ _ _ _ (by omega)]
    simp only[ze s.List k hk,Option.bind_some,Bool.not_false,if_true,hw]
    rw[if_pos (by simpa using hk),decide_eq_false (by omega: ¬s.List[k].Tenant≥t),decide_eq_false (by omega: ¬s.List[k].Tenant=t)]
    simp only[Bool.false_eq_true,if_false,zf,Bool.not_false,if_true]
    rw[zm (by simp;omega) (by simp;omega),ht]
    rfl
   ·subst hkj
    rw[zkC _ _ _ _ _ _ (Nat.le_refl _),zkB _ _ _ _ _ _ (by omega)]
    simp only[ze s.List k hk,Option.bind_some,Bool.not_false,if_true,hw]
    rw[if_pos (by simpa using hk)]
    rcases hD with rfl | rfl
    ·have hk2:=h2 D hk (Nat.le_refl _)
     rw[decide_eq_true (by omega:s.List[D].Tenant≥t),decide_eq_false (by omega: ¬s.List[D].Tenant=t)]
     simp only[if_true]
     rw[zm (by simp;omega) (by simp;omega)]
     simp only[Option.bind_some,zf,Bool.not_false,if_true]
     rw[zm (by simp;omega) (by simp;omega)]
     have:(s.List.drop D).take (D+1 - D)= [s.List[D]]:=by
      rw[List.drop_eq_getElem_cons hk,show D+1 - D=1 by omega];rfl
     rw[this]
     simp
    ·have hk3:=h3 rfl hk
     rw[decide_eq_true (by omega:s.List[k].Tenant≥t),decide_eq_true hk3]
     simp only[if_true]
     rw[zm (by simp;omega) (by simp;omega)]
     simp
   ·have hk2:=h2 k hk (by omega)
    rw[zkB _ _ _ _ _ _ (by omega),zkB _ _ _ _ _ _ (by omega)]
    simp only[ze s.List k hk,Option.bind_some,Bool.not_true,Bool.false_eq_true,if_false,hw]
    rw[if_pos (by simpa using hk),decide_eq_false (by omega: ¬s.List[k].Tenant=t)]
    simp only[zf,Bool.not_false,if_true]
    rw[zm (by simp;omega) (by simp;omega)]
    have hkd:k - D<(s.List.drop D).length:=by simp;omega
    have ht:(s.List.drop D).take (k+1 - D)=(s.List.drop D).take (k - D)++ [s.List[k]]:=by
     rw[show k+1 - D=(k - D)+1 by omega,List.take_add_one,List.getElem?_eq_getElem hkd,List.getElem_drop]
     congr 2
     simp only[Option.toList_some]
     congr 2
     omega
    rw[ht]
    simp
  ·rw[zkB _ _ _ _ _ _ (by omega)]
   have:(s.List.drop D).take (s.List.length - D)=s.List.drop D:=List.take_of_length_le (by simp)
   simp[this]
theorem zot (l:List Share) (x:Share) (j:Nat) (hj:j≤l.length) (h:l.length≤1048576):zbz l (j:Int) [x]=some (l.take j++(x::l.drop j)):=by
 unfold zbz ins
 rw[if_pos ⟨by omega,by omega,by simp;omega,by simp;omega⟩,Int.toNat_natCast]
 rfl
theorem zjs (s:Shares) (t q:Int) (h:s.List.length≤1048576): ∃r,zcL s t q=some r∧zb3 s t q=some r∧r.1.List.length≤1048576:=by
 by_cases hv:sharesV s=true
 ·have hs4:s.List.length≤4:=by
   unfold sharesV at hv
   simp only[Bool.and_eq_true,decide_eq_true_eq]at hv
   exact hv.2.1
  obtain ⟨j,hj,h1,h2,h3⟩:=zgQ s t hv h
  have hend: ∀D,(D=j∨D=j+1)→D≤s.List.length→∀b:Bool,((if b=true then (⟨s.Size,s.List.take j++(⟨t,q⟩::s.List.drop D)⟩,true) else (s,false):Shares × Bool)).1.List.length≤1048576:=by
   intro D _ _ b
   cases b
   ·simp;omega
   ·simp;omega
  rcases h3 with ⟨hjl,h4,h5⟩ | ⟨h4,h5⟩
  ·have hsp:=zen s t q j (j+1) hv hs4 hj (.inr rfl) (by omega) h1 (fun i hi hji=>h2 i hi (by omega)) (fun _ _=>h5)
   refine ⟨_,hsp,?_,hend (j+1) (.inr rfl) (by omega) _⟩
   unfold zb3
   rw[zb4 s h,zbo s h,hv]
   simp only[Option.bind_some,Bool.not_true,Bool.false_eq_true,if_false,if_true,zgK s h,h4,ze s.List j hjl,Int.toNat_natCast,zf]
   have hset:s.List.set j ⟨t,q⟩=s.List.take j++(⟨t,q⟩::s.List.drop (j+1)):=by rw[List.set_eq_take_append_cons_drop,if_pos hjl]
   have hrl:(s.List.take j++(⟨t,q⟩::s.List.drop (j+1)):List Share).length≤1048576:=by simp;omega
   rw[hset,zb4 _ hrl,zbo _ hrl]
   simp only[Option.bind_some]
   cases sharesV ⟨s.Size,s.List.take j++(⟨t,q⟩::s.List.drop (j+1))⟩<;>rfl
  ·have hsp:=zen s t q j j hv hs4 hj (.inl rfl) hj h1 h5 (fun e=>by omega)
   refine ⟨_,hsp,?_,hend j (.inl rfl) hj _⟩
   unfold zb3
   rw[zb4 s h,zbo s h,hv]
   simp only[Option.bind_some,Bool.not_true,Bool.false_eq_true,if_false,zgK s h,h4,zot s.List _ j hj h,zf]
   have hrl:(s.List.take j++(⟨t,q⟩::s.List.drop j):List Share).length≤1048576:=by simp;omega
   rw[zb4 _ hrl,zbo _ hrl]
   simp only[Option.bind_some]
   cases sharesV ⟨s.Size,s.List.take j++(⟨t,q⟩::s.List.drop j)⟩<;>rfl
 ·have hv':sharesV s=false:=by simpa using hv
  refine ⟨(⟨0,[]⟩,false),?_,?_,by simp⟩
  ·unfold zcL
   rw[zbo s h,hv']
   rfl
  ·unfold zb3
   rw[zb4 s h,zbo s h,hv']
   rfl
theorem znB {a b:List UInt8} (h:sLt a b=true):sLt b a=false:=by
 have:=zgH a b
 rw[h]at this
 simp only[Bool.not_true,Bool.or_eq_false_iff]at this
 exact this.1
theorem zoL {a b:List UInt8} (h1:sLt a b=false) (h2:sLt b a=false):a=b:=by
 have:=zgH a b
 rw[h1,h2]at this
 have h:decide (b=a)=true:=by simpa using this
 exact (of_decide_eq_true h).symm
theorem zse {α:Type} {body:Int→Option (Ctl Int (Ctl Unit Bool))} (l:List α) (p:α→Bool) (h: ∀k (hk:k<l.length),body (k:Int)=some (if p l[k]=true then .done (.done true) else .go ((k:Int)+1))) (hn:body (l.length:Int)=some (.done (.go ()))):
 bindC (loopO body 0) (fun (_:Unit)=>some false)=some (l.any p):=by
 rw[zgt (fun k s=>s=(k:Int)∧l.any p=(l.drop k).any p) l.length (if l.any p=true then Ctl.done true else Ctl.go ()) ?h0 ?h1 ?h2]
 ·cases l.any p<;>rfl
 case h0=>exact ⟨rfl,rfl⟩
 ·rintro k s hk ⟨rfl,he⟩
  rw[h k hk,he,List.drop_eq_getElem_cons hk,List.any_cons]
  cases hp:p l[k] with
  | true=>right;rfl
  | false=>
    left
    refine ⟨(k:Int)+1,rfl,by omega,?_⟩
    rw[Bool.false_or]
 ·rintro s ⟨rfl,he⟩
  rw[he,List.drop_length,hn]
  rfl
def stayV (snaps:List Int) (l:List Ent):Nat→Bool
 | 0=>true
 | j+1=>match l[j]?,l[j+1]? with
   | some d,some e=>!decide (d.Key=e.Key)||snaps.any (fun s=>decide (e.Seq≤s)&&decide (s<d.Seq))
   | _,_=>false
theorem zmo (snaps:List Int) (l:List Ent) (j:Nat) (h:j+1<l.length):stayV snaps l (j+1)=(!decide ((l[j]'(by omega)).Key=l[j+1].Key)||snaps.any (fun s=>decide (l[j+1].Seq≤s)&&decide (s<(l[j]'(by omega)).Seq))):=by
 show (match l[j]?,l[j+1]? with | some d,some e=>_ | _,_=>false)=_
 rw[List.getElem?_eq_getElem h,List.getElem?_eq_getElem (by omega:j<l.length)]
theorem zrr (l:List Ent) (snaps:List Int) (k:Nat) (hk:k<l.length) (h:l.length≤1048576) (hs:snaps.length≤1048576):zfs l (k:Int) snaps=some (stayV snaps l k):=by
 unfold zfs
 cases k with
 | zero=>rfl
 | succ j=>
   have hw:IntKind.i64.wrap (((j+1:Nat):Int) - 1)=(j:Int):=by rw[zb (by omega) (by omega)];omega
   rw[if_neg (by simp;omega),hw,ze l j (by omega),ze l (j+1) hk,zmo snaps l j hk]
   simp only[Option.bind_some]
   by_cases c:(l[j]'(by omega)).Key=l[j+1].Key
   ·rw[decide_eq_true c]
    simp only[Bool.not_true,Bool.false_eq_true,if_false,Bool.false_or]
    refine zse snaps _ ?_ (by simp)
    intro m hm
    simp only[ze snaps m hm,Option.bind_some]
    rw[if_pos (by simpa using hm),zb (n:=(m:Int)+1) (by omega) (by omega)]
    by_cases c1:l[j+1].Seq≤snaps[m]
    ·by_cases c2:snaps[m]<(l[j]'(by omega)).Seq<;>simp[c1,c2]
    ·simp[c1]
   ·rw[decide_eq_false c]
    rfl
def keepT (snaps:List Int) (l:List Ent) (a:Nat):Nat→List Ent
 | 0=>[]
 | n+1=>keepT snaps l a n++(if stayV snaps l (a+n)=true then l[a+n]?.toList else [])
theorem zl1 (snaps:List Int) (l:List Ent) (a n:Nat) (h:a+n<l.length):keepT snaps l a (n+1)=keepT snaps l a n++(if stayV snaps l (a+n)=true then [l[a+n]] else []):=by
 show keepT snaps l a n++(if stayV snaps l (a+n)=true then l[a+n]?.toList else [])=_
 rw[List.getElem?_eq_getElem h]
 rfl
theorem znn (snaps:List Int) (l:List Ent) (a:Nat): ∀n,(keepT snaps l a n).length≤n:=by
 intro n
 induction n with
 | zero=>simp[keepT]
 | succ n ih=>
   show (keepT snaps l a n++(if stayV snaps l (a+n)=true then l[a+n]?.toList else [])).length≤n+1
   rw[List.length_append]
   split
   ·cases l[a+n]?<;>simp<;>omega
   ·simp;omega
theorem zru (snaps:List Int) (l:List Ent) (a n:Nat): ∀m,keepT snaps l a (n+m)=keepT snaps l a n++keepT snaps l (a+n) m:=by
 intro m
 induction m with
 | zero=>simp[keepT]
 | succ m ih=>
   show keepT snaps l a (n+m)++(if stayV snaps l (a+(n+m))=true then l[a+(n+m)]?.toList else [])=keepT snaps l a n++(keepT snaps l (a+n) m++(if stayV snaps l (a+n+m)=true then l[a+n+m]?.toList else []))
   rw[ih,Nat.add_assoc a n m,List.append_assoc]
def sameK (e:Ent):List Ent→Bool
 | y::_=>decide (e.Key=y.Key)
 | []=>false
def tid:List Ent→Bool × List Ent
 | []=>(false,[])
 | e::t=>bif (((tid t).1&&sameK e t)|| !e.Del) then (true,e::(tid t).2) else (false,(tid t).2)
theorem zlF (e:Ent) (t:List Ent):tid (e::t)=bif (((tid t).1&&sameK e t)|| !e.Del) then (true,e::(tid t).2) else (false,(tid t).2):=rfl
theorem zp7: ∀l:List Ent,(tid l).2.length≤l.length:=by
 intro l
 induction l with
 | nil=>simp[tid]
 | cons e t ih=>
   rw[zlF]
   cases (((tid t).1&&sameK e t)|| !e.Del)
   ·simp;omega
   ·simp;omega
def finE (bottom:Bool) (A:List Ent):List Ent:=bif bottom then (tid A).2 else A
theorem zqL (l:List Ent) (h:l.length≤1048576):zcc l=some l.reverse:=by
 unfold zcc
 rw[zgt (fun m s=>s.1=(m:Int)∧s.2.1=(l.length:Int) - 1 - m∧∃hl:s.2.2.length=l.length,∀k (hk:k<l.length),s.2.2[k]'(by omega)=if k<m∨l.length≤k+m then l[l.length - 1 - k]'(by omega) else l[k]) (l.length / 2) (Ctl.go l.reverse) ?h0 ?h1 ?h2]
 ·rfl
 case h0=>
  refine ⟨rfl,?_,rfl,fun k hk=>?_⟩
  ·show IntKind.i64.wrap ((l.length:Int) - 1)=(l.length:Int) - 1 - ((0:Nat):Int)
   rw[zb (by omega) (by omega)];omega
  ·rw[if_neg (by omega)]
 ·rintro m ⟨i,j,s⟩ hm ⟨h1,h2,hl,h3⟩
  simp only at h1 h2 hl h3
  subst h1
  have hj:j=((l.length - 1 - m:Nat):Int):=by omega
  subst hj
  clear h2
  left
  have hm1:m<s.length:=by omega
  have hm2:l.length - 1 - m<s.length:=by omega
  refine ⟨((m:Int)+1,((l.length - 1 - m:Nat):Int) - 1,(s.set m (s[l.length - 1 - m]'hm2)).set (l.length - 1 - m) (s[m]'hm1)),?_,by simp,?_,by simp[hl],?_⟩
  ·simp only[ze s _ hm2,ze s _ hm1,Option.bind_some,Int.toNat_natCast]
   rw[if_pos (by simp;omega),ze _ _ (by simp;omega)]
   simp only[Option.bind_some,zf]
   rw[zb (by omega) (by omega),zb (by omega) (by omega)]
  ·simp only;omega
  ·intro k hk
   simp only[List.getElem_set]
   by_cases c1:l.length - 1 - m=k
   ·rw[if_pos c1,h3 m (by omega),if_neg (by omega),if_pos (by omega)]
    congr 1
    omega
   ·rw[if_neg c1]
    by_cases c2:m=k
    ·rw[if_pos c2,h3 _ (by omega),if_neg (by omega),if_pos (by omega)]
     congr 1
     omega
    ·rw[if_neg c2,h3 k hk]
     by_cases c3:k<m∨l.length≤k+m
     ·rw[if_pos c3,if_pos (by omega)]
     ·rw[if_neg c3,if_neg (by omega)]
 ·rintro ⟨i,j,s⟩ ⟨h1,h2,hl,h3⟩
  simp only at h1 h2 hl h3
  subst h1 h2
  simp only
  rw[if_neg (by simp;omega)]
  congr 3
  refine List.ext_getElem (by simp[hl]) fun k hk1 hk2=>?_
  rw[h3 k (by omega),List.getElem_reverse]
  by_cases c:k<l.length / 2∨l.length≤k+l.length / 2
  ·rw[if_pos c]
  ·rw[if_neg c]
   congr 1
   omega
theorem zkP (l:List Ent) (snaps:List Int) (bottom:Bool) (h:l.length≤1048576) (hs:snaps.length≤1048576):zbQ l snaps bottom=some (finE bottom (keepT snaps l 0 l.length)):=by
 unfold zbQ
 rw[zo (fun k=>((k:Int),keepT snaps l 0 k)) l.length (r:=Ctl.go (keepT snaps l 0 l.length)) ?h0]
 case h0=>rfl
 ·simp only[zf]
  cases bottom with
  | false=>rfl
  | true=>
    simp only[Bool.not_true,Bool.false_eq_true,if_false]
    have hKl:(keepT snaps l 0 l.length).length≤1048576:=Nat.le_trans (znn snaps l 0 _) h
    generalize keepT snaps l 0 l.length=K at hKl
    rw[zo (fun m=>((tid (K.drop (K.length - m))).1,(K.length:Int) - 1 - m,(tid (K.drop (K.length - m))).2.reverse)) K.length (r:=Ctl.go (tid K).2.reverse) ?g0]
    case g0=>
     rw[Nat.sub_zero,List.drop_length,zb (by omega) (by omega)]
     simp[tid]
    ·simp only[zf]
     rw[zqL _ (by rw[List.length_reverse];exact Nat.le_trans (zp7 K) hKl),List.reverse_reverse]
     rfl
    ·intro m hm
     have hi:(K.length:Int) - 1 - m=((K.length - 1 - m:Nat):Int):=by omega
     have hi1:(K.length:Int) - 1 - ((m+1:Nat):Int)=((K.length - 1 - m:Nat):Int) - 1:=by omega
     have hk1:K.length - 1 - m<K.length:=by omega
     have hdr:K.drop (K.length - (m+1))=K[K.length - 1 - m]::K.drop (K.length - m):=by
      rw[show K.length - (m+1)=K.length - 1 - m by omega,List.drop_eq_getElem_cons hk1,show K.length - 1 - m+1=K.length - m by omega]
     have hlen:=zp7 (K.drop (K.length - m))
     rw[List.length_drop]at hlen
     rw[hdr,zlF,hi,hi1]
     have hc:(if decide (((K.length - 1 - m:Nat):Int)=IntKind.i64.wrap ((K.length:Int) - (1:Int)))=true then (some true)
 else ((idx K ((K.length - 1 - m:Nat):Int)).bind fun E28=>
 (idx K (IntKind.i64.wrap (((K.length - 1 - m:Nat):Int)+(1:Int)))).bind fun E30=>
 some (!(decide (E28.Key=E30.Key)))))=some (!sameK K[K.length - 1 - m] (K.drop (K.length - m))):=by
      by_cases h0:m=0
      ·subst h0
       rw[if_pos (by rw[zb (by omega) (by omega)];simp;omega),show K.drop (K.length - 0)= [] by simp]
       rfl
      ·rw[if_neg (by rw[zb (by omega) (by omega)];simp;omega),ze K _ hk1,zb (by omega) (by omega)]
       rw[show ((K.length - 1 - m:Nat):Int)+1=((K.length - m:Nat):Int) by omega,ze K (K.length - m) (by omega),List.drop_eq_getElem_cons (by omega:K.length - m<K.length)]
       rfl
     simp only[hc]
     rw[if_pos (by simp),zb (n:=((K.length - 1 - m:Nat):Int) - 1) (by omega) (by omega)]
     simp only[ze K _ hk1,Option.bind_some]
     generalize sameK K[K.length - 1 - m] (K.drop (K.length - m))=q
     generalize tid (K.drop (K.length - m))=tt at hlen ⊢
     obtain ⟨nd,o⟩:=tt
     simp only at hlen ⊢
     have happ:app 48 o.reverse [K[K.length - 1 - m]]=some (o.reverse++ [K[K.length - 1 - m]]):=zm (by simp;omega) (by simp;omega)
     cases q<;>cases nd<;>cases hd:K[K.length - 1 - m].Del<;>simp[happ,hd]
    ·rw[Nat.sub_self,List.drop_zero]
     simp
     omega
 ·intro k hk
  have hlen:=znn snaps l 0 k
  simp only[ze l k hk,Option.bind_some,zrr l snaps k hk h hs,zl1 snaps l 0 k (by omega),Nat.zero_add]
  rw[if_pos (by simpa using hk),zb (n:=(k:Int)+1) (by omega) (by omega)]
  cases stayV snaps l k with
  | true=>
    simp only[if_true]
    rw[zm (by simp;omega) (by simp;omega)]
    rfl
  | false=>simp
 ·simp
theorem ztk {l:List Ent} (hv:entsV l=true) (k:Nat) (hk:k<l.length):entP l k=true:=by
 unfold entsV at hv
 rw[List.all_eq_true]at hv
 exact hv k (by simpa using hk)
def compactR (l:List Ent) (snaps:List Int) (bottom:Bool):List Ent:=if l.length≤400∧entsV l=true then finE bottom (keepT snaps l 0 l.length) else []
def flushS (e:Eng):Bool × Eng:=bif decide (e.Mem.length=0∨6≤e.Tables.length) then (false,e) else (true,⟨[],e.Mem::e.Tables,e.Seq,e.Snaps⟩)
theorem zfX {e:Eng} (h:e.Mem.length=0∨6≤e.Tables.length):flushS e=(false,e):=by unfold flushS;rw[decide_eq_true h];rfl
theorem zg2 {e:Eng} (h: ¬(e.Mem.length=0∨6≤e.Tables.length)):flushS e=(true,⟨[],e.Mem::e.Tables,e.Seq,e.Snaps⟩):=by unfold flushS;rw[decide_eq_false h];rfl
theorem zjv (e:Eng) (h2:e.Tables.length≤1048576):ze7 e=some (flushS e):=by
 unfold ze7 zV ins
 by_cases c1:e.Mem.length=0
 ·have d1:(e.Mem.length:Int)=0:=by omega
  rw[zfX (Or.inl c1),if_pos (decide_eq_true d1)]
  rfl
 ·have d1: ¬(e.Mem.length:Int)=0:=by omega
  rw[if_neg (by simpa using d1)]
  by_cases c2:6≤e.Tables.length
  ·have d2:(e.Tables.length:Int)≥6:=by omega
   rw[zfX (Or.inr c2),decide_eq_true d2]
   rfl
  ·have d2: ¬(e.Tables.length:Int)≥6:=by omega
   rw[zg2 (by omega),decide_eq_false d2]
   simp only[Option.bind_some,Bool.false_eq_true,if_false]
   rw[if_pos ⟨by omega,by omega,by simp;omega,by simp;omega⟩]
   rfl
theorem zpK {a:Int} (h0:0≤a) (h1:a≤4611686018427387904):IntKind.i64.wrap (ishr .u64 (IntKind.u64.wrap (IntKind.i64.wrap a)) (1:Int))=a / 2:=by
 have hu:IntKind.u64.wrap a=a:=by simp[IntKind.wrap,IntKind.bits,IntKind.signed];omega
 have hs:ishr .u64 a (1:Int)=a / 2:=by
  unfold ishr
  show a.fdiv (2 ^ 1)=a / 2
  rw[Int.fdiv_eq_ediv_of_nonneg a (by decide)]
  rfl
 rw[zb (n:=a) (by omega) (by omega),hu,hs,zb (by omega) (by omega)]
theorem bisect {α ρ:Type} (x:List α) (cf:α→Option Int) (c:α→Int) (hcf: ∀e∈x,cf e=some (c e)) (hx:x.length≤1048576):
 ∃j,j≤x.length∧loopO (ρ:=Ctl Int ρ) (fun (S2:Int × Int)=>if (decide (S2.1<S2.2))=true then ((idx x (IntKind.i64.wrap (ishr .u64 (IntKind.u64.wrap (IntKind.i64.wrap (S2.1+S2.2))) (1:Int)))).bind fun E7=>
 (cf E7).bind fun R9=>
 bindC (if (decide (R9<(0:Int)))=true then (some (.go (IntKind.i64.wrap (IntKind.i64.wrap (ishr .u64 (IntKind.u64.wrap (IntKind.i64.wrap (S2.1+S2.2))) (1:Int))+(1:Int)),S2.2)))
 else (some (.go (S2.1,IntKind.i64.wrap (ishr .u64 (IntKind.u64.wrap (IntKind.i64.wrap (S2.1+S2.2))) (1:Int))))))
 (fun (T12:Int × Int)=>some (.go (T12.1,T12.2))))
 else (some (.done (.go S2.1)))) ((0:Int),(x.length:Int))=some (.go (j:Int))∧(∀i (hi:i<x.length),i+1=j→c x[i]<0)∧(∀hj:j<x.length,0≤c x[j]):=by
 obtain ⟨r,hr,j,rfl,h1,h2,h3⟩:=zbi (ρ:=Ctl Int ρ) (s0:=((0:Int),(x.length:Int))) (body:=fun (S2:Int × Int)=>if (decide (S2.1<S2.2))=true then ((idx x (IntKind.i64.wrap (ishr .u64 (IntKind.u64.wrap (IntKind.i64.wrap (S2.1+S2.2))) (1:Int)))).bind fun E7=>
 (cf E7).bind fun R9=>
 bindC (if (decide (R9<(0:Int)))=true then (some (.go (IntKind.i64.wrap (IntKind.i64.wrap (ishr .u64 (IntKind.u64.wrap (IntKind.i64.wrap (S2.1+S2.2))) (1:Int))+(1:Int)),S2.2)))
 else (some (.go (S2.1,IntKind.i64.wrap (ishr .u64 (IntKind.u64.wrap (IntKind.i64.wrap (S2.1+S2.2))) (1:Int))))))
 (fun (T12:Int × Int)=>some (.go (T12.1,T12.2))))
 else (some (.done (.go S2.1))))
  (fun k s=>∃a b:Nat,s=((a:Int),(b:Int))∧a≤b∧b≤x.length∧b - a+k≤x.length∧(∀i (hi:i<x.length),i+1=a→c x[i]<0)∧(∀hj:b<x.length,0≤c x[b])) x.length
  (fun r=>∃j:Nat,r= .go (j:Int)∧j≤x.length∧(∀i (hi:i<x.length),i+1=j→c x[i]<0)∧(∀hj:j<x.length,0≤c x[j]))
  ⟨0,x.length,rfl,Nat.zero_le _,Nat.le_refl _,by omega,fun i hi h=>by omega,fun h=>by omega⟩ (by
    rintro k s hk ⟨a,b,rfl,hab,hb,hd,h1,h2⟩
    by_cases hlt:a<b
    ·left
     have hm:((a:Int)+(b:Int)) / 2=(((a+b) / 2:Nat):Int):=by omega
     have hmx:(a+b) / 2<x.length:=by omega
     simp only[zpK (a:=(a:Int)+(b:Int)) (by omega) (by omega),hm,ze x _ hmx,Option.bind_some,hcf _ (List.getElem_mem hmx)]
     rw[if_pos (by simpa using hlt)]
     by_cases hc:c x[(a+b) / 2]<0
     ·rw[if_pos (by simpa using hc),zb (by omega) (by omega)]
      refine ⟨_,rfl,(a+b) / 2+1,b,rfl,by omega,hb,by omega,fun i hi h=>?_,h2⟩
      obtain rfl:i=(a+b) / 2:=by omega
      exact hc
     ·rw[if_neg (by simpa using hc)]
      exact ⟨_,rfl,a,(a+b) / 2,rfl,by omega,by omega,by omega,h1,fun _=>by omega⟩
    ·right
     obtain rfl:a=b:=by omega
     exact ⟨.go (a:Int),by simp,a,rfl,hb,h1,h2⟩) (by
 rintro s ⟨a,b,rfl,hab,hb,hd,h1,h2⟩
 obtain rfl:a=b:=by omega
 exact ⟨.go (a:Int),by simp,a,rfl,hb,h1,h2⟩)
 exact ⟨j,h1,hr,h2,h3⟩
theorem zgx {a b c:Ent} (h1:entLt a b=true) (h2:entLt b c=true):entLt a c=true:=by
 unfold entLt at h1 h2 ⊢
 simp only[Bool.or_eq_true,Bool.and_eq_true,decide_eq_true_eq]at h1 h2 ⊢
 rcases h1 with h1 | ⟨h1,h3⟩
 ·rcases h2 with h2 | ⟨h2,_⟩
  ·exact .inl (zej h1 h2)
  ·rw[←h2];exact .inl h1
 ·rcases h2 with h2 | ⟨h2,h4⟩
  ·rw[h1];exact .inl h2
  ·exact .inr ⟨h1.trans h2,by omega⟩
theorem zkV {a b:Ent} (h: ¬(a.Key=b.Key∧a.Seq=b.Seq)) (h2:entLt a b=false):entLt b a=true:=by
 unfold entLt at h2 ⊢
 simp only[Bool.or_eq_false_iff,Bool.and_eq_false_iff,decide_eq_false_iff_not]at h2
 simp only[Bool.or_eq_true,Bool.and_eq_true,decide_eq_true_eq]
 have hc:=zgH a.Key b.Key
 rw[h2.1]at hc
 simp only[Bool.not_false]at hc
 by_cases hk:a.Key=b.Key
 ·right
  refine ⟨hk.symm,?_⟩
  rcases h2.2 with h3 | h3
  ·exact absurd hk h3
  ·have: ¬a.Seq=b.Seq:=fun e=>h ⟨hk,e⟩
   omega
 ·left
  have h5:decide (b.Key=a.Key)=false:=decide_eq_false fun e=>hk e.symm
  rw[h5,Bool.or_false]at hc
  exact hc
theorem zde (a b:Ent): ∃r,zu a b=some r∧decide (r<0)=entLt a b∧(r=0↔(a.Key=b.Key∧a.Seq=b.Seq)):=by
 unfold zu entLt
 rw[zth,ztg]
 simp only[Option.bind_some,zsj]
 refine ⟨_,rfl,?_⟩
 by_cases c:sLt a.Key b.Key=true
 ·have hne: ¬a.Key=b.Key:=fun e=>by rw[e,zcZ]at c;cases c
  simp[c,hne]
 ·have c':sLt a.Key b.Key=false:=by simpa using c
  rw[if_neg c,c']
  by_cases c2:a.Key=b.Key
  ·rw[decide_eq_true c2]
   by_cases c3:b.Seq<a.Seq
   ·have: ¬a.Seq=b.Seq:=by omega
    simp[c2,c3,this]
   ·by_cases c4:b.Seq>a.Seq
    ·have: ¬a.Seq=b.Seq:=by omega
     simp[c2,c3,c4,this]
    ·have:a.Seq=b.Seq:=by omega
     simp[c2,this]
  ·rw[decide_eq_false c2]
   simp[c2]
def insE (l:List Ent) (e:Ent) (j:Nat):List Ent:=l.take j++(e::l.drop j)
theorem zos {l:List Ent} {e x:Ent} {j:Nat} :x∈insE l e j↔x=e∨x∈l:=by
 unfold insE
 rw[List.mem_append,List.mem_cons]
 conv=>rhs;rw[←List.take_append_drop j l,List.mem_append]
 constructor
 ·rintro (h | h | h)
  ·exact .inr (.inl h)
  ·exact .inl h
  ·exact .inr (.inr h)
 ·rintro (h | h | h)
  ·exact .inr (.inl h)
  ·exact .inl h
  ·exact .inr (.inr h)
theorem zor (l:List Ent) (e:Ent) (j:Nat) (h:j≤l.length):(insE l e j).length=l.length+1:=by
 unfold insE;simp;omega
def ordE (l:List Ent):Prop:=l.Pairwise fun a b=>entLt a b=true
theorem zsN {l:List Ent} {e:Ent} {j:Nat} (hl:ordE l) (h1: ∀i (hi:i<l.length),i<j→entLt l[i] e=true) (h2: ∀i (hi:i<l.length),j≤i→entLt e l[i]=true):ordE (insE l e j):=by
 unfold ordE insE at*
 have hl2:=hl
 rw[←List.take_append_drop j l,List.pairwise_append]at hl2
 have m1: ∀x∈l.take j,entLt x e=true:=by
  intro x hx
  obtain ⟨i,hi,rfl⟩:=List.getElem_of_mem hx
  rw[List.getElem_take]
  exact h1 i _ (by simp at hi;omega)
 have m2: ∀x∈l.drop j,entLt e x=true:=by
  intro x hx
  obtain ⟨i,hi,rfl⟩:=List.getElem_of_mem hx
  rw[List.getElem_drop]
  exact h2 _ _ (by omega)
 rw[List.pairwise_append,List.pairwise_cons]
 refine ⟨hl2.1,⟨m2,hl2.2.1⟩,fun x hx y hy=>?_⟩
 rcases List.mem_cons.1 hy with rfl | hy
 ·exact m1 x hx
 ·exact hl2.2.2 x hx y hy
theorem zbk (l:List Ent):entsV l=true↔(∀x∈l,entV x=true)∧ordE l:=by
 constructor
 ·intro h
  refine ⟨fun x hx=>?_,?_⟩
  ·obtain ⟨k,hk,rfl⟩:=List.getElem_of_mem hx
   unfold entsV at h
   rw[List.all_eq_true]at h
   have:=h k (by simpa using hk)
   rw[zir l k hk,Bool.and_eq_true]at this
   exact this.1
  ·unfold ordE
   rw[List.pairwise_iff_getElem]
   intro i j hi hj hij
   unfold entLt
   simp only[Bool.or_eq_true,Bool.and_eq_true,decide_eq_true_eq]
   exact zks h j hj i hij
 ·rintro ⟨h1,h2⟩
  unfold ordE at h2
  rw[List.pairwise_iff_getElem]at h2
  unfold entsV
  rw[List.all_eq_true]
  intro k hk
  have hk':k<l.length:=by simpa using hk
  rw[zir l k hk',h1 _ (List.getElem_mem hk')]
  by_cases h0:0<k
  ·rw[dif_pos h0,h2 (k - 1) k (by omega) hk' (by omega)]
   rfl
  ·rw[dif_neg h0]
   rfl
def putF (l:List Ent) (f:Ent) (j k:Nat):Bool × Int × List Ent:=bif Nat.ble k j then (false,(k:Int),l.take k) else (true,(k:Int),l.take j++(f::(l.drop j).take (k - j)))
theorem ziI (l:List Ent) (f:Ent) (j k:Nat) (h:k≤j):putF l f j k=(false,(k:Int),l.take k):=by
 unfold putF
 rw[Nat.ble_eq_true_of_le h]
 rfl
theorem zkA (l:List Ent) (f:Ent) (j k:Nat) (h:j<k):putF l f j k=(true,(k:Int),l.take j++(f::(l.drop j).take (k - j))):=by
 unfold putF
 have:Nat.ble k j=false:=by
  cases hb:Nat.ble k j
  ·rfl
  ·exact absurd (Nat.le_of_ble_eq_true hb) (by omega)
 rw[this]
 rfl
theorem zn8 (l:List Ent) (f:Ent) (j:Nat) (hl:l.length≤1048576) (hj:j≤l.length) (h1: ∀i (hi:i<l.length),i<j→entLt f l[i]=false) (h2: ∀hi:j<l.length,entLt f l[j]=true):
 zfk l f=some (insE l f j):=by
 unfold zfk
 rw[zo (putF l f j) l.length (r:=Ctl.go ((putF l f j l.length).1,(putF l f j l.length).2.2)) ?h0]
 case h0=>rw[ziI _ _ _ _ (Nat.zero_le _)];rfl
 ·by_cases hjl:j=l.length
  ·subst hjl
   rw[ziI _ _ _ _ (Nat.le_refl _)]
   simp only[zf,Bool.not_false,if_true]
   rw[zm (by simp;omega) (by simp;omega)]
   simp[insE]
  ·rw[zkA _ _ _ _ (by omega)]
   simp only[zf,Bool.not_true,Bool.false_eq_true,if_false]
   unfold insE
   rw[List.take_of_length_le (l:=l.drop j) (by simp)]
 ·intro k hk
  have hw:=zb (n:=(k:Int)+1) (by omega) (by omega)
  rcases Nat.lt_trichotomy k j with hkj | hkj | hkj
  ·have ht:l.take (k+1)=l.take k++ [l[k]]:=by rw[List.take_add_one,List.getElem?_eq_getElem hk];rfl
   rw[ziI _ _ _ _ (by omega),ziI _ _ _ _ (by omega)]
   simp only[ze l k hk,Option.bind_some,Bool.not_false,if_true,hw,zif,h1 k hk hkj,Bool.false_eq_true,if_false,zf]
   rw[if_pos (by simpa using hk),zm (by simp;omega) (by simp;omega),ht]
   rfl
  ·subst hkj
   rw[ziI _ _ _ _ (Nat.le_refl _),zkA _ _ _ _ (by omega)]
   simp only[ze l k hk,Option.bind_some,Bool.not_false,if_true,hw,zif,h2 hk]
   rw[if_pos (by simpa using hk),zm (by simp;omega) (by simp;omega)]
   simp only[Option.bind_some,zf]
   rw[zm (by simp;omega) (by simp;omega)]
   have:(l.drop k).take (k+1 - k)= [l[k]]:=by
    rw[List.drop_eq_getElem_cons hk,show k+1 - k=1 by omega];rfl
   rw[this]
   simp
  ·rw[zkA _ _ _ _ (by omega),zkA _ _ _ _ (by omega)]
   simp only[ze l k hk,Option.bind_some,Bool.not_true,Bool.false_eq_true,if_false,hw,zf]
   rw[if_pos (by simpa using hk),zm (by simp;omega) (by simp;omega)]
   have hkd:k - j<(l.drop j).length:=by simp;omega
   have ht:(l.drop j).take (k+1 - j)=(l.drop j).take (k - j)++ [l[k]]:=by
    rw[show k+1 - j=(k - j)+1 by omega,List.take_add_one,List.getElem?_eq_getElem hkd,List.getElem_drop]
    congr 2
    simp only[Option.toList_some]
    congr 2
    omega
   rw[ht]
   simp
 ·have hi:(putF l f j l.length).2.1=(l.length:Int):=by unfold putF;cases Nat.ble l.length j<;>rfl
  rw[hi,if_neg (by simp)]
theorem zqr (l:List Ent) (x:Ent) (j:Nat) (hj:j≤l.length) (h:l.length≤1048576):zbB l (j:Int) [x]=some (insE l x j):=by
 unfold zbB ins insE
 rw[if_pos ⟨by omega,by omega,by simp;omega,by simp;omega⟩,Int.toNat_natCast]
 rfl
theorem zlx (l:List Ent) (e:Ent) (hl:ordE l) (h:l.length≤1048576) (hne: ∀x∈l,¬(x.Key=e.Key∧x.Seq=e.Seq)):
 ∃j,j≤l.length∧zfG l e=some (insE l e j,true)∧zfk l e=some (insE l e j)∧ordE (insE l e j):=by
 have hcf: ∀x∈l,zu x e=some ((zu x e).getD 0):=by
  intro x _
  obtain ⟨r,hr,_⟩:=zde x e
  rw[hr];rfl
 have hsg: ∀x:Ent,(((zu x e).getD 0<0)↔entLt x e=true)∧((zu x e).getD 0=0↔(x.Key=e.Key∧x.Seq=e.Seq)):=by
  intro x
  obtain ⟨r,hr,h1,h2⟩:=zde x e
  rw[hr]
  refine ⟨?_,h2⟩
  show r<0↔_
  rw[←h1];simp
 obtain ⟨j,hj,hb,h1,h2⟩:=bisect (ρ:=Int × Bool) l (fun x=>zu x e) (fun x=>(zu x e).getD 0) hcf h
 have hp: ∀a b (ha:a<l.length) (hb:b<l.length),a<b→entLt l[a] l[b]=true:=by
  unfold ordE at hl
  rw[List.pairwise_iff_getElem]at hl
  exact fun a b ha hb hab=>hl a b ha hb hab
 have a1: ∀i (hi:i<l.length),i<j→entLt l[i] e=true:=by
  intro i hi hij
  have h3:=((hsg _).1.1 (h1 (j - 1) (by omega) (by omega)))
  by_cases e1:i=j - 1
  ·subst e1;exact h3
  ·exact zgx (hp i (j - 1) hi (by omega) (by omega)) h3
 have a2: ∀i (hi:i<l.length),j≤i→entLt e l[i]=true:=by
  intro i hi hij
  have hjl:j<l.length:=by omega
  have h3:=h2 hjl
  have h4:entLt e l[j]=true:=by
   refine zkV (hne _ (List.getElem_mem hjl)) ?_
   cases hc:entLt l[j] e with
   | false=>rfl
   | true=>have:=(hsg _).1.2 hc;omega
  by_cases e1:j=i
  ·subst e1;exact h4
  ·exact zgx h4 (hp j i hjl hi (by omega))
 have asym: ∀a b:Ent,entLt a b=true→entLt b a=false:=by
  intro a b hab
  cases hc:entLt b a with
  | false=>rfl
  | true=>
    have:=zgx hab hc
    unfold entLt at this
    rw[zcZ]at this
    simp at this
 refine ⟨j,hj,?_,zn8 l e j h hj (fun i hi hij=>asym _ _ (a1 i hi hij)) (fun hi=>a2 j hi (Nat.le_refl _)),zsN hl a1 a2⟩
 unfold zfG zO
 rw[hb]
 simp only[zf]
 have hfound:(if (decide ((j:Int)<(l.length:Int)))=true then ((idx l (j:Int)).bind fun E18=>(zu E18 e).bind fun R20=>some (decide (R20=(0:Int)))) else (some false))=some false:=by
  by_cases hjl:j<l.length
  ·rw[if_pos (by simpa using hjl),ze l j hjl]
   obtain ⟨r,hr,_,hr2⟩:=zde l[j] e
   simp only[Option.bind_some,hr]
   rw[decide_eq_false fun h0=>hne _ (List.getElem_mem hjl) (hr2.1 h0)]
  ·rw[if_neg (by simpa using hjl)]
 rw[hfound]
 simp only[Option.bind_some,Bool.false_eq_true,if_false,zqr l e j hj h]
def opV (o:Op):Bool:=decide (1≤(o.Key.length:Int)∧(o.Key.length:Int)≤10)&&(decide ((o.Val.length:Int)≤16)&&(!o.Del||decide (o.Val= [])))
theorem zoq (o:Op):((zf6 o.Key).bind fun R11=>if (!R11)=true then (some true) else ((zf7 o.Del o.Val).bind fun R15=>some (!R15)))=some (!opV o):=by
 unfold zf6 zf7 opV
 simp only[zY,Option.bind_some]
 by_cases h1:1≤(o.Key.length:Int)∧(o.Key.length:Int)≤10<;>by_cases h3:(o.Val.length:Int)≤16<;>cases h4:o.Del<;>
  simp only[h1,h3,and_self,decide_true,decide_false,if_true,if_false,Option.bind_some,Bool.true_and,Bool.false_and,Bool.not_true,Bool.not_false,Bool.false_eq_true,Bool.true_or,Bool.false_or,Bool.and_true,Bool.and_false,Bool.not_not]
def batchV (l:List Op):Bool:=decide (1≤l.length∧l.length≤6)&&l.all opV
theorem batchI (l:List Op):decide (1≤(l.length:Int)∧(l.length:Int)≤6)=decide (1≤l.length∧l.length≤6):=decide_eq_decide.2 (by omega)
theorem zez (l:List Op) (h:l.length≤1048576):zcx l=some (batchV l):=by
 unfold zcx batchV
 rw[zgt (fun k s=>s=(k:Int)∧l.all opV=(l.drop k).all opV) l.length (if l.all opV=true then Ctl.go () else Ctl.done false) ?h0 ?h1 ?h2]
 ·cases l.all opV with
  | false=>simp
  | true=>simp only[if_true,zf,zY,Option.bind_some,batchI,Bool.and_true]
 case h0=>exact ⟨rfl,rfl⟩
 ·rintro k s hk ⟨rfl,he⟩
  simp only[ze l k hk,Option.bind_some,zoq]
  rw[if_pos (by simpa using hk),zb (n:=(k:Int)+1) (by omega) (by omega),he,List.drop_eq_getElem_cons hk,List.all_cons]
  cases hc:opV l[k] with
  | false=>right;rfl
  | true=>left;exact ⟨(k:Int)+1,rfl,by omega,by simp⟩
 ·rintro s ⟨rfl,he⟩
  rw[he,List.drop_length]
  simp
def laterV (l:List Op) (k:Nat) (key:List UInt8):Bool:=(l.drop (k+1)).any fun x=>decide (x.Key=key)
theorem zjt (s:List Op) (c:Op) (h:s.length≤1048576):zw s c=some (s.any fun x=>decide (x.Key=c.Key)):=by
 unfold zw
 have key: ∃r:Int,zL s c=some r∧decide (r≥0)=s.any fun x=>decide (x.Key=c.Key):=by
  unfold zL zdS
  obtain ⟨r,hr,hq⟩:=zbi (ρ:=Ctl Unit Int) (s0:=(0:Int)) (body:=fun (S1:Int)=>if (decide (S1<(s.length:Int)))=true then ((idx s S1).bind fun E6=>
   (some (decide (E6.Key=c.Key))).bind fun R8=>
   if R8=true then (some (.done (.done S1)))
   else (some (.go (IntKind.i64.wrap (S1+(1:Int))))))
   else (some (.done (.go ()))))
   (fun k t=>t=(k:Int)∧(s.any fun x=>decide (x.Key=c.Key))=(s.drop k).any fun x=>decide (x.Key=c.Key)) s.length
   (fun r=>(∃i:Nat,r= .done (i:Int)∧(s.any fun x=>decide (x.Key=c.Key))=true)∨(r= .go ()∧(s.any fun x=>decide (x.Key=c.Key))=false))
   ⟨rfl,rfl⟩ (by
     rintro k t hk ⟨rfl,he⟩
     rw[List.drop_eq_getElem_cons hk,List.any_cons]at he
     simp only[ze s k hk,Option.bind_some]
     rw[if_pos (by simpa using hk),zb (n:=(k:Int)+1) (by omega) (by omega)]
     cases hc:decide (s[k].Key=c.Key) with
     | true=>
       right
       rw[hc]at he
       exact ⟨_,rfl,.inl ⟨k,rfl,he⟩⟩
     | false=>
       left
       rw[hc]at he
       exact ⟨(k:Int)+1,rfl,by omega,he⟩) (by
 rintro t ⟨rfl,he⟩
 rw[List.drop_length]at he
 exact ⟨.go (),by simp,.inr ⟨rfl,he⟩⟩)
  rw[hr]
  rcases hq with ⟨i,rfl,h2⟩ | ⟨rfl,h2⟩
  ·exact ⟨(i:Int),rfl,by rw[h2];simp⟩
  ·exact ⟨-1,rfl,by rw[h2];rfl⟩
 obtain ⟨r,hr,h2⟩:=key
 rw[hr]
 simp only[Option.bind_some,h2]
def entO (o:Op) (seq:Int):Ent:=⟨o.Key,seq,o.Del,o.Val⟩
noncomputable def memB (l:List Op) (seq:Int) (m:List Ent):Nat→List Ent
 | 0=>m
 | k+1=>match l[k]? with
   | some o=>bif laterV l k o.Key then memB l seq m k else (zfk (memB l seq m k) (entO o seq)).getD []
   | none=>memB l seq m k
theorem zhc (l:List Op) (seq:Int) (m:List Ent) (k:Nat) (hk:k<l.length) (h:laterV l k l[k].Key=true):memB l seq m (k+1)=memB l seq m k:=by
 show (match l[k]? with | some o=>_ | none=>_)=_
 rw[List.getElem?_eq_getElem hk]
 simp only[h,cond_true]
theorem zlu (l:List Op) (seq:Int) (m:List Ent) (k:Nat) (hk:k<l.length) (h:laterV l k l[k].Key=false):memB l seq m (k+1)=(zfk (memB l seq m k) (entO l[k] seq)).getD []:=by
 show (match l[k]? with | some o=>_ | none=>_)=_
 rw[List.getElem?_eq_getElem hk]
 simp only[h,cond_false]
def invB (l:List Op) (seq:Int) (m:List Ent) (k:Nat) (x:Ent):Prop:=x∈m∨∃i,∃hi:i<l.length,i<k∧laterV l i l[i].Key=false∧x=entO l[i] seq
theorem zlt (l:List Op) (seq:Int) (m M:List Ent) (k:Nat) (hk:k<l.length) (hs: ∀x∈m,x.Seq<seq) (hM: ∀x∈M,invB l seq m k x): ∀x∈M,¬(x.Key=(entO l[k] seq).Key∧x.Seq=(entO l[k] seq).Seq):=by
 rintro x hx ⟨h1,h2⟩
 rcases hM x hx with h | ⟨i,hi,hik,hla,rfl⟩
 ·have:=hs x h
  have h3:x.Seq=seq:=h2
  omega
 ·unfold laterV at hla
  rw[List.any_eq_false]at hla
  have hm:l[k]∈l.drop (i+1):=by
   have:(l.drop (i+1))[k - (i+1)]'(by simp;omega)=l[k]:=by
    rw[List.getElem_drop]
    congr 1
    omega
   rw[←this]
   exact List.getElem_mem _
  refine hla _ hm ?_
  have h3:l[i].Key=l[k].Key:=h1
  rw[h3]
  simp
theorem zgD (l:List Op) (seq:Int) (m:List Ent) (hm:ordE m) (hs: ∀x∈m,x.Seq<seq) (hl:m.length+l.length≤1048576): ∀k,k≤l.length→ordE (memB l seq m k)∧(memB l seq m k).length≤m.length+k∧(∀x∈memB l seq m k,invB l seq m k x)∧(∀x∈m,x∈memB l seq m k):=by
 intro k
 induction k with
 | zero=>intro _;exact ⟨hm,Nat.le_refl _,fun x hx=>.inl hx,fun x hx=>hx⟩
 | succ k ih=>
   intro hk
   obtain ⟨i1,i2,i3,i4⟩:=ih (by omega)
   have hk':k<l.length:=by omega
   cases hla:laterV l k l[k].Key with
   | true=>
     rw[zhc l seq m k hk' hla]
     refine ⟨i1,by omega,fun x hx=>?_,i4⟩
     rcases i3 x hx with h | ⟨i,hi,hik,h⟩
     ·exact .inl h
     ·exact .inr ⟨i,hi,by omega,h⟩
   | false=>
     obtain ⟨j,hj,_,h2,h3⟩:=zlx (memB l seq m k) (entO l[k] seq) i1 (by omega) (zlt l seq m _ k hk' hs i3)
     rw[zlu l seq m k hk' hla,h2]
     refine ⟨h3,?_,fun x hx=>?_,fun x hx=>?_⟩
     ·rw[Option.getD_some,zor _ _ _ hj];omega
     ·rcases zos.1 hx with rfl | hx
      ·exact .inr ⟨k,hk',by omega,hla,rfl⟩
      ·rcases i3 x hx with h | ⟨i,hi,hik,h⟩
       ·exact .inl h
       ·exact .inr ⟨i,hi,by omega,h⟩
     ·exact zos.2 (.inr (i4 x hx))
theorem znq (l:List Op) (seq:Int) (m:List Ent) (hm:ordE m) (hs: ∀x∈m,x.Seq<seq) (hl:m.length+l.length≤1048576) (k:Nat) (hk:k<l.length) (hla:laterV l k l[k].Key=false):
 zfG (memB l seq m k) (entO l[k] seq)=some (memB l seq m (k+1),true)∧zfk (memB l seq m k) (entO l[k] seq)=some (memB l seq m (k+1)):=by
 obtain ⟨i1,i2,i3,_⟩:=zgD l seq m hm hs hl k (by omega)
 obtain ⟨j,hj,h1,h2,_⟩:=zlx (memB l seq m k) (entO l[k] seq) i1 (by omega) (zlt l seq m _ k hk hs i3)
 rw[zlu l seq m k hk hla,h1,h2]
 exact ⟨rfl,rfl⟩
theorem zgP (m:Int): ∀(l:List Ent) (s:Int × Int),(m≤(l.foldl (fun s e=>(goMin s.1 e.Seq,goMax s.2 e.Seq)) s).1↔m≤s.1∧∀x∈l,m≤x.Seq)∧((l.foldl (fun s e=>(goMin s.1 e.Seq,goMax s.2 e.Seq)) s).2≤m↔s.2≤m∧∀x∈l,x.Seq≤m)
 | [],s=>by simp
 | e::l,s=>by
   obtain ⟨h1,h2⟩:=zgP m l (goMin s.1 e.Seq,goMax s.2 e.Seq)
   simp only[List.foldl_cons]
   rw[h1,h2]
   have e1:m≤goMin s.1 e.Seq↔m≤s.1∧m≤e.Seq:=by unfold goMin;split<;>omega
   have e2:goMax s.2 e.Seq≤m↔s.2≤m∧e.Seq≤m:=by unfold goMax;split<;>omega
   rw[e1,e2]
   exact ⟨by simp only[List.mem_cons,forall_eq_or_imp,and_assoc],by simp only[List.mem_cons,forall_eq_or_imp,and_assoc]⟩
theorem zei (l:List Ent) (m:Int):m≤(rangeV l).1↔m≤1000001∧∀x∈l,m≤x.Seq:=(zgP m l _).1
theorem zgE (l:List Ent) (m:Int):(rangeV l).2≤m↔-1≤m∧∀x∈l,x.Seq≤m:=(zgP m l _).2
theorem zs5 {seq seq' low low':Int} (h1:low≤low'∨seq<low') (h2:seq≤seq'): ∀t:List (List Ent),tabsV seq low t=true→tabsV seq' low' t=true:=by
 have go: ∀(t:List (List Ent)) (low:Int),tabsV seq low t=true→tabsV seq' low t=true:=by
  intro t
  induction t with
  | nil=>intro _ _;rfl
  | cons x t ih=>
    intro low h
    simp only[tabsV,Bool.and_eq_true,decide_eq_true_eq]at h ⊢
    exact ⟨⟨h.1.1,h.1.2.1,h.1.2.2.1,by omega⟩,ih _ h.2⟩
 intro t h
 cases t with
 | nil=>rfl
 | cons x t=>
   simp only[tabsV,Bool.and_eq_true,decide_eq_true_eq]at h ⊢
   exact ⟨⟨h.1.1,h.1.2.1,by omega,by omega⟩,go _ _ h.2⟩
theorem zrZ {seq seq':Int} {l:List Int} (h2:seq≤seq') (h:snapsV seq l=true):snapsV seq' l=true:=by
 unfold snapsV
 rw[List.all_eq_true]
 intro k hk
 have hk':k<l.length:=by simpa using hk
 obtain ⟨a,b⟩:=zgv h k hk'
 rw[zlB seq' l k hk',Bool.and_eq_true]
 refine ⟨decide_eq_true ⟨a.1,by omega⟩,?_⟩
 by_cases h0:0<k
 ·rw[dif_pos h0];exact decide_eq_true (b h0)
 ·rw[dif_neg h0]
noncomputable def engB (e:Eng) (l:List Op):Eng:=⟨memB l (e.Seq+1) e.Mem l.length,e.Tables,e.Seq+1,e.Snaps⟩
noncomputable def okB (e:Eng) (l:List Op):Bool:=decide (e.Seq+1≤1000000)&&(decide ((memB l (e.Seq+1) e.Mem l.length).length≤60)&&decide (totalV e.Tables+(memB l (e.Seq+1) e.Mem l.length).length≤400))
theorem zbv {e:Eng} (h:engV e=true):(0≤e.Seq∧e.Seq≤1000000)∧e.Snaps.length≤4∧e.Tables.length≤6∧totalV e.Tables+e.Mem.length≤400∧(e.Mem.length≤60∧entsV e.Mem=true)∧(rangeV e.Mem).2≤e.Seq∧tabsV e.Seq (rangeV e.Mem).1 e.Tables=true∧snapsV e.Seq e.Snaps=true:=by
 unfold engV memV at h
 simp only[Bool.and_eq_true,decide_eq_true_eq]at h
 obtain ⟨⟨h1,h2,h3,h4,h5,h6,h7⟩,h8⟩:=h
 exact ⟨h1,h2,h3,h4,h5,h6,h7,h8⟩
theorem zhq {e:Eng} {l:List Op} (h:engV e=true) (hb:batchV l=true):ordE e.Mem∧(∀x∈e.Mem,x.Seq<e.Seq+1)∧e.Mem.length+l.length≤66:=by
 obtain ⟨h1,h2,h3,h4,h5,h6,h7,h8⟩:=zbv h
 unfold batchV at hb
 rw[Bool.and_eq_true,decide_eq_true_eq]at hb
 refine ⟨((zbk _).1 h5.2).2,fun x hx=>?_,by omega⟩
 have:=((zgE _ _).1 h6).2 x hx
 omega
theorem zmA {e:Eng} {l:List Op} (h:engV e=true) (hb:batchV l=true):engV (engB e l)=okB e l:=by
 obtain ⟨h1,h2,h3,h4,h5,h6,h7,h8⟩:=zbv h
 obtain ⟨g1,g2,g3⟩:=zhq h hb
 obtain ⟨i1,i2,i3,i4⟩:=zgD l (e.Seq+1) e.Mem g1 g2 (by omega) l.length (Nat.le_refl _)
 unfold batchV at hb
 rw[Bool.and_eq_true,decide_eq_true_eq,List.all_eq_true]at hb
 unfold okB engB engV memV
 simp only
 rw[decide_eq_true h2,decide_eq_true h3,zrZ (by omega) h8]
 by_cases c1:e.Seq+1≤1000000
 ·have c1':0≤e.Seq+1∧e.Seq+1≤1000000:=by omega
  rw[decide_eq_true c1,decide_eq_true c1']
  have hents:entsV (memB l (e.Seq+1) e.Mem l.length)=true:=by
   rw[zbk]
   refine ⟨fun x hx=>?_,i1⟩
   rcases i3 x hx with hx | ⟨i,hi,_,_,rfl⟩
   ·exact ((zbk _).1 h5.2).1 x hx
   ·have:=hb.2 _ (List.getElem_mem hi)
    unfold opV at this
    rw[Bool.and_eq_true,Bool.and_eq_true]at this
    unfold entV entO
    simp only
    rw[this.1,this.2.1,this.2.2,decide_eq_true c1']
    rfl
  have hhi:(rangeV (memB l (e.Seq+1) e.Mem l.length)).2≤e.Seq+1:=by
   rw[zgE]
   refine ⟨by omega,fun x hx=>?_⟩
   rcases i3 x hx with hx | ⟨i,hi,_,_,rfl⟩
   ·have:=g2 x hx;omega
   ·exact Int.le_refl _
  have hlo:(rangeV e.Mem).1≤(rangeV (memB l (e.Seq+1) e.Mem l.length)).1∨e.Seq<(rangeV (memB l (e.Seq+1) e.Mem l.length)).1:=by
   by_cases c:(rangeV e.Mem).1≤e.Seq+1
   ·left
    rw[zei]
    have:=(zei e.Mem (rangeV e.Mem).1).1 (Int.le_refl _)
    refine ⟨this.1,fun x hx=>?_⟩
    rcases i3 x hx with hx | ⟨i,hi,_,_,rfl⟩
    ·exact this.2 x hx
    ·exact c
   ·right
    have:e.Seq+1≤(rangeV (memB l (e.Seq+1) e.Mem l.length)).1:=by
     rw[zei]
     have h9:=(zei e.Mem (rangeV e.Mem).1).1 (Int.le_refl _)
     refine ⟨by omega,fun x hx=>?_⟩
     rcases i3 x hx with hx | ⟨i,hi,_,_,rfl⟩
     ·have:=h9.2 x hx;omega
     ·exact Int.le_refl _
    omega
  rw[hents,decide_eq_true hhi,zs5 hlo (by omega) _ h7]
  cases decide ((memB l (e.Seq+1) e.Mem l.length).length≤60)<;>cases decide (totalV e.Tables+(memB l (e.Seq+1) e.Mem l.length).length≤400)<;>rfl
 ·have c1': ¬(0≤e.Seq+1∧e.Seq+1≤1000000):=by omega
  rw[decide_eq_false c1,decide_eq_false c1']
  rfl
noncomputable def putR (e:Eng) (l:List Op):Eng × Bool:=bif engV e then (bif batchV l then (bif okB e l then (engB e l,true) else (e,false)) else (e,false)) else (⟨[],[],0,[]⟩,false)
theorem zmM (e:Eng) (l:List Op) (hv:engV e=true) (hb:batchV l=true):zcF e l=some (okB e l,engB e l):=by
 obtain ⟨hseq,s2,s3,s4,s5,_⟩:=zbv hv
 obtain ⟨g1,g2,g3⟩:=zhq hv hb
 have hw:IntKind.i64.wrap (e.Seq+(1:Int))=e.Seq+1:=zb (by omega) (by omega)
 obtain ⟨i1,i2,i3,i4⟩:=zgD l (e.Seq+1) e.Mem g1 g2 (by omega) l.length (Nat.le_refl _)
 unfold zcF
 simp only[hw]
 rw[zo (fun k=>(true,(k:Int),memB l (e.Seq+1) e.Mem k)) l.length (r:=Ctl.go (true,memB l (e.Seq+1) e.Mem l.length)) ?h0]
 case h0=>rfl
 ·simp only[zf,if_true,zh9 e.Tables (by omega) (by omega),Option.bind_some]
  rw[zb (by omega) (by omega)]
  unfold okB engB
  have d1:decide ((((memB l (e.Seq+1) e.Mem l.length).length:Nat):Int)≤60)=decide ((memB l (e.Seq+1) e.Mem l.length).length≤60):=decide_eq_decide.2 (by omega)
  have d2:decide ((totalV e.Tables:Int)+(((memB l (e.Seq+1) e.Mem l.length).length:Nat):Int)≤400)=decide (totalV e.Tables+(memB l (e.Seq+1) e.Mem l.length).length≤400):=decide_eq_decide.2 (by omega)
  rw[d1,d2]
  cases decide (e.Seq+1≤1000000)<;>cases decide ((memB l (e.Seq+1) e.Mem l.length).length≤60)<;>cases decide (totalV e.Tables+(memB l (e.Seq+1) e.Mem l.length).length≤400)<;>rfl
 ·intro k hk
  have hpc:piece l (IntKind.i64.wrap ((k:Int)+(1:Int))) (l.length:Int)=some (l.drop (k+1)):=by
   rw[zb (by omega) (by omega),zbb l (k+1) l.length _ _ (by omega) rfl (by omega) (Nat.le_refl _),List.take_of_length_le (by simp)]
  simp only[ze l k hk,Option.bind_some,hpc,zjt _ l[k] (by simp;omega:(l.drop (k+1)).length≤1048576)]
  rw[if_pos (by simpa using hk),zb (n:=(k:Int)+1) (by omega) (by omega)]
  have hlv:((l.drop (k+1)).any fun x=>decide (x.Key=l[k].Key))=laterV l k l[k].Key:=rfl
  rw[hlv]
  cases hla:laterV l k l[k].Key with
  | true=>
    rw[zhc l _ _ k hk hla]
    rfl
  | false=>
    have hp:=(znq l (e.Seq+1) e.Mem g1 g2 (by omega) k hk hla).1
    unfold entO at hp
    simp only[Bool.not_false,if_true,hp,Option.bind_some,zf]
    rfl
 ·simp
theorem iand64 {a b:Nat} (ha:a<2 ^ 63) (hb:b<2 ^ 63):iand .i64 (a:Int) (b:Int)=((a &&& b:Nat):Int):=by
 unfold iand
 have h1:a &&& b≤a:=Nat.and_le_left
 have e:(BitVec.ofInt IntKind.i64.bits (a:Int) &&& BitVec.ofInt IntKind.i64.bits (b:Int)).toNat=a &&& b:=by
  show (BitVec.ofInt 64 (a:Int) &&& BitVec.ofInt 64 (b:Int)).toNat=a &&& b
  rw[BitVec.ofInt_natCast,BitVec.ofInt_natCast,BitVec.toNat_and,BitVec.toNat_ofNat,BitVec.toNat_ofNat,Nat.mod_eq_of_lt (by omega),Nat.mod_eq_of_lt (by omega)]
 rw[e]
 exact zb (by omega) (by omega)
theorem ior64 {a b:Nat} (ha:a<2 ^ 63) (hb:b<2 ^ 63):ior .i64 (a:Int) (b:Int)=((a ||| b:Nat):Int):=by
 unfold ior
 have h1:a ||| b<2 ^ 63:=Nat.or_lt_two_pow ha hb
 have e:(BitVec.ofInt IntKind.i64.bits (a:Int) ||| BitVec.ofInt IntKind.i64.bits (b:Int)).toNat=a ||| b:=by
  show (BitVec.ofInt 64 (a:Int) ||| BitVec.ofInt 64 (b:Int)).toNat=a ||| b
  rw[BitVec.ofInt_natCast,BitVec.ofInt_natCast,BitVec.toNat_or,BitVec.toNat_ofNat,BitVec.toNat_ofNat,Nat.mod_eq_of_lt (by omega),Nat.mod_eq_of_lt (by omega)]
 rw[e]
 exact zb (by omega) (by omega)
theorem ixor64 {a b:Nat} (ha:a<2 ^ 63) (hb:b<2 ^ 63):ixor .i64 (a:Int) (b:Int)=((a ^^^ b:Nat):Int):=by
 unfold ixor
 have h1:a ^^^ b<2 ^ 63:=Nat.xor_lt_two_pow ha hb
 have e:(BitVec.ofInt IntKind.i64.bits (a:Int) ^^^ BitVec.ofInt IntKind.i64.bits (b:Int)).toNat=a ^^^ b:=by
  show (BitVec.ofInt 64 (a:Int) ^^^ BitVec.ofInt 64 (b:Int)).toNat=a ^^^ b
  rw[BitVec.ofInt_natCast,BitVec.ofInt_natCast,BitVec.toNat_xor,BitVec.toNat_ofNat,BitVec.toNat_ofNat,Nat.mod_eq_of_lt (by omega),Nat.mod_eq_of_lt (by omega)]
 rw[e]
 exact zb (by omega) (by omega)
theorem wrap32 (n:Int):IntKind.u32.wrap n=n % 4294967296:=by simp[IntKind.wrap,IntKind.bits,IntKind.signed]
theorem wrap64u (n:Int):IntKind.u64.wrap n=n % 18446744073709551616:=by simp[IntKind.wrap,IntKind.bits,IntKind.signed]
theorem ior32 {a b:Nat} (ha:a<2 ^ 32) (hb:b<2 ^ 32):ior .u32 (a:Int) (b:Int)=((a ||| b:Nat):Int):=by
 unfold ior
 have h1:a ||| b<2 ^ 32:=Nat.or_lt_two_pow ha hb
 have e:(BitVec.ofInt IntKind.u32.bits (a:Int) ||| BitVec.ofInt IntKind.u32.bits (b:Int)).toNat=a ||| b:=by
  show (BitVec.ofInt 32 (a:Int) ||| BitVec.ofInt 32 (b:Int)).toNat=a ||| b
  rw[BitVec.ofInt_natCast,BitVec.ofInt_natCast,BitVec.toNat_or,BitVec.toNat_ofNat,BitVec.toNat_ofNat,Nat.mod_eq_of_lt (by omega),Nat.mod_eq_of_lt (by omega)]
 rw[e,wrap32]
 omega
theorem ixor32 {a b:Nat} (ha:a<2 ^ 32) (hb:b<2 ^ 32):ixor .u32 (a:Int) (b:Int)=((a ^^^ b:Nat):Int):=by
 unfold ixor
 have h1:a ^^^ b<2 ^ 32:=Nat.xor_lt_two_pow ha hb
 have e:(BitVec.ofInt IntKind.u32.bits (a:Int) ^^^ BitVec.ofInt IntKind.u32.bits (b:Int)).toNat=a ^^^ b:=by
  show (BitVec.ofInt 32 (a:Int) ^^^ BitVec.ofInt 32 (b:Int)).toNat=a ^^^ b
  rw[BitVec.ofInt_natCast,BitVec.ofInt_natCast,BitVec.toNat_xor,BitVec.toNat_ofNat,BitVec.toNat_ofNat,Nat.mod_eq_of_lt (by omega),Nat.mod_eq_of_lt (by omega)]
 rw[e,wrap32]
 omega
theorem iand8 {a b:Nat} (ha:a<2 ^ 8) (hb:b<2 ^ 8):iand .u8 (a:Int) (b:Int)=((a &&& b:Nat):Int):=by
 unfold iand
 have h1:a &&& b≤a:=Nat.and_le_left
 have e:(BitVec.ofInt IntKind.u8.bits (a:Int) &&& BitVec.ofInt IntKind.u8.bits (b:Int)).toNat=a &&& b:=by
  show (BitVec.ofInt 8 (a:Int) &&& BitVec.ofInt 8 (b:Int)).toNat=a &&& b
  rw[BitVec.ofInt_natCast,BitVec.ofInt_natCast,BitVec.toNat_and,BitVec.toNat_ofNat,BitVec.toNat_ofNat,Nat.mod_eq_of_lt (by omega),Nat.mod_eq_of_lt (by omega)]
 rw[e]
 simp[IntKind.wrap,IntKind.bits,IntKind.signed]
 omega
theorem zdj {k:IntKind} {a n:Nat} (hn:n≤k.bits):ishr k (a:Int) (n:Int)=((a / 2 ^ n:Nat):Int):=by
 unfold ishr
 rw[Int.toNat_natCast,Nat.min_eq_left hn,Int.fdiv_eq_ediv_of_nonneg _ (by exact_mod_cast Nat.zero_le _)]
 norm_cast
theorem ishl64 {a n:Nat} (hn:n≤64) (h:a*2 ^ n<2 ^ 63):ishl .i64 (a:Int) (n:Int)=((a*2 ^ n:Nat):Int):=by
 unfold ishl
 have hb:IntKind.i64.bits=64:=rfl
 rw[Int.toNat_natCast,hb,Nat.min_eq_left hn]
 have e:(a:Int)*2 ^ n=((a*2 ^ n:Nat):Int):=by norm_cast
 rw[e]
 exact zb (by omega) (by omega)
theorem ishl32 {a n:Nat} (hn:n≤32):ishl .u32 (a:Int) (n:Int)=((a*2 ^ n % 4294967296:Nat):Int):=by
 unfold ishl
 have hb:IntKind.u32.bits=32:=rfl
 have e:(a:Int)*2 ^ n=((a*2 ^ n:Nat):Int):=by norm_cast
 rw[Int.toNat_natCast,hb,Nat.min_eq_left hn,wrap32,e]
 generalize a*2 ^ n=z
 omega
theorem zkc {x:Nat} (h:x<2 ^ 63):zbO (x:Int)=some ((x % 4294967296:Nat):Int):=by
 unfold zbO
 rw[show (4294967295:Int)=((4294967295:Nat):Int) from rfl,iand64 h (by decide),show x &&& 4294967295=x % 4294967296 from Nat.and_two_pow_sub_one_eq_mod x 32]
def rotN (x n:Nat):Nat:=x*2 ^ n % 4294967296 ||| x / 2 ^ (32 - n)
theorem zty {x n:Nat} (h:x<4294967296):rotN x n<4294967296:=by
 unfold rotN
 refine Nat.or_lt_two_pow (n:=32) (Nat.mod_lt _ (by decide)) ?_
 exact Nat.lt_of_le_of_lt (Nat.div_le_self _ _) h
theorem zrF {x n:Nat} (h:x<4294967296) (hn:n≤16):zcw (x:Int) (n:Int)=some (rotN x n:Int):=by
 unfold zcw nn
 have h1:x*2 ^ n<2 ^ 63:=by
  have:2 ^ n≤2 ^ 16:=Nat.pow_le_pow_right (by decide) hn
  calc x*2 ^ n≤x*2 ^ 16:=Nat.mul_le_mul_left _ this
   _<2 ^ 63:=by omega
 have h2:x / 2 ^ (32 - n)<2 ^ 32:=Nat.lt_of_le_of_lt (Nat.div_le_self _ _) h
 have h3:IntKind.u64.wrap ((32:Int) - (n:Int))=((32 - n:Nat):Int):=by rw[wrap64u];omega
 rw[if_neg (by omega),h3,ishl64 (by omega) h1,zdj (by show 32 - n≤64;omega),ior64 h1 (by omega)]
 simp only[Option.bind_some]
 rw[zkc (Nat.or_lt_two_pow h1 (by omega))]
 simp only[Option.bind_some]
 unfold rotN
 rw[show (4294967296:Nat)=2 ^ 32 from rfl,Nat.or_mod_two_pow,Nat.mod_eq_of_lt h2]
theorem zsX {x n:Nat} (h:x<4294967296) (hn:n≤16):zT (x:Int) (n:Int)=some (rotN x n:Int):=by
 unfold zT nn
 have h0:iand .u64 (IntKind.u64.wrap (n:Int)) (31:Int)=(n:Int):=by
  have e:IntKind.u64.wrap (n:Int)=(n:Int):=by rw[wrap64u];omega
  rw[e]
  unfold iand
  have e2:(BitVec.ofInt IntKind.u64.bits (n:Int) &&& BitVec.ofInt IntKind.u64.bits (31:Int)).toNat=n:=by
   show (BitVec.ofInt 64 (n:Int) &&& BitVec.ofInt 64 ((31:Nat):Int)).toNat=n
   rw[BitVec.ofInt_natCast,BitVec.ofInt_natCast,BitVec.toNat_and,BitVec.toNat_ofNat,BitVec.toNat_ofNat,Nat.mod_eq_of_lt (by omega),Nat.mod_eq_of_lt (by omega)]
   rw[show n &&& 31=n % 32 from Nat.and_two_pow_sub_one_eq_mod n 5]
   omega
  rw[e2,wrap64u]
  omega
 have h2:x / 2 ^ (32 - n)<2 ^ 32:=Nat.lt_of_le_of_lt (Nat.div_le_self _ _) h
 have h3:IntKind.u64.wrap ((32:Int) - (n:Int))=((32 - n:Nat):Int):=by rw[wrap64u];omega
 rw[h0,if_neg (by omega),h3,ishl32 (by omega),zdj (by show 32 - n≤32;omega),ior32 (Nat.mod_lt _ (by decide)) h2]
 rfl
theorem zlr {p q:Int} (hp:0≤p∧p<4294967296) (hq:0≤q∧q<4294967296):ior .u32 p q=ior .i64 p q∧0≤ior .i64 p q∧ior .i64 p q<4294967296:=by
 have e1:p=(p.toNat:Int):=by omega
 have e2:q=(q.toNat:Int):=by omega
 have h1:p.toNat<2 ^ 32:=by omega
 have h2:q.toNat<2 ^ 32:=by omega
 have h3:=Nat.or_lt_two_pow h1 h2
 rw[e1,e2,ior32 h1 h2,ior64 (by omega) (by omega)]
 generalize p.toNat ||| q.toNat=z at h3
 exact ⟨rfl,by omega,by omega⟩
theorem zrs (x:UInt8) (n:Nat) (hn:n≤24):ishl .u32 (IntKind.u32.wrap ((x.toNat:Nat):Int)) (n:Int)=ishl .i64 (IntKind.i64.wrap ((x.toNat:Nat):Int)) (n:Int)∧0≤ishl .i64 (IntKind.i64.wrap ((x.toNat:Nat):Int)) (n:Int)∧ishl .i64 (IntKind.i64.wrap ((x.toNat:Nat):Int)) (n:Int)<4294967296:=by
 have hx:=x.toNat_lt
 have w1:IntKind.u32.wrap ((x.toNat:Nat):Int)=((x.toNat:Nat):Int):=by rw[wrap32];omega
 have w2:IntKind.i64.wrap ((x.toNat:Nat):Int)=((x.toNat:Nat):Int):=zb (by omega) (by omega)
 have hp:2 ^ n≤2 ^ 24:=Nat.pow_le_pow_right (by decide) hn
 have hm:x.toNat*2 ^ n≤x.toNat*2 ^ 24:=Nat.mul_le_mul_left _ hp
 rw[w1,w2,ishl32 (by omega),ishl64 (by omega) (by omega)]
 generalize x.toNat*2 ^ n=z at hm
 have hz:z<4294967296:=by omega
 rw[Nat.mod_eq_of_lt hz]
 exact ⟨rfl,by omega,by omega⟩
theorem zi5 (x:UInt8) (n:Int) (hn:0≤n∧n≤24):ishl .u32 (IntKind.u32.wrap ((x.toNat:Nat):Int)) n=ishl .i64 (IntKind.i64.wrap ((x.toNat:Nat):Int)) n∧0≤ishl .i64 (IntKind.i64.wrap ((x.toNat:Nat):Int)) n∧ishl .i64 (IntKind.i64.wrap ((x.toNat:Nat):Int)) n<4294967296:=by
 have e:n=(n.toNat:Int):=by omega
 rw[e]
 exact zrs x n.toNat (by omega)
theorem zhV {α β:Type} {x:Option α} {f g:α→Option β} (h: ∀a,f a=g a):x.bind f=x.bind g:=by
 cases x with
 | none=>rfl
 | some a=>exact h a
theorem zl6 (a b c d:UInt8):ior .u32 (ior .u32 (ior .u32 (IntKind.u32.wrap ((a.toNat:Nat):Int)) (ishl .u32 (IntKind.u32.wrap ((b.toNat:Nat):Int)) (8:Int))) (ishl .u32 (IntKind.u32.wrap ((c.toNat:Nat):Int)) (16:Int))) (ishl .u32 (IntKind.u32.wrap ((d.toNat:Nat):Int)) (24:Int))=
 ior .i64 (ior .i64 (ior .i64 (IntKind.i64.wrap ((a.toNat:Nat):Int)) (ishl .i64 (IntKind.i64.wrap ((b.toNat:Nat):Int)) (8:Int))) (ishl .i64 (IntKind.i64.wrap ((c.toNat:Nat):Int)) (16:Int))) (ishl .i64 (IntKind.i64.wrap ((d.toNat:Nat):Int)) (24:Int))∧
 0≤ior .i64 (ior .i64 (ior .i64 (IntKind.i64.wrap ((a.toNat:Nat):Int)) (ishl .i64 (IntKind.i64.wrap ((b.toNat:Nat):Int)) (8:Int))) (ishl .i64 (IntKind.i64.wrap ((c.toNat:Nat):Int)) (16:Int))) (ishl .i64 (IntKind.i64.wrap ((d.toNat:Nat):Int)) (24:Int))∧
 ior .i64 (ior .i64 (ior .i64 (IntKind.i64.wrap ((a.toNat:Nat):Int)) (ishl .i64 (IntKind.i64.wrap ((b.toNat:Nat):Int)) (8:Int))) (ishl .i64 (IntKind.i64.wrap ((c.toNat:Nat):Int)) (16:Int))) (ishl .i64 (IntKind.i64.wrap ((d.toNat:Nat):Int)) (24:Int))<4294967296:=by
 have ha:=a.toNat_lt
 have a1:IntKind.u32.wrap ((a.toNat:Nat):Int)=IntKind.i64.wrap ((a.toNat:Nat):Int):=by rw[wrap32,zb (by omega) (by omega)];omega
 have a2:0≤IntKind.i64.wrap ((a.toNat:Nat):Int)∧IntKind.i64.wrap ((a.toNat:Nat):Int)<4294967296:=by rw[zb (by omega) (by omega)];omega
 obtain ⟨b1,b2⟩:=zi5 b 8 (by omega)
 obtain ⟨c1,c2⟩:=zi5 c 16 (by omega)
 obtain ⟨d1,d2⟩:=zi5 d 24 (by omega)
 obtain ⟨o1,o2⟩:=zlr a2 b2
 obtain ⟨p1,p2⟩:=zlr o2 c2
 obtain ⟨q1,q2⟩:=zlr p2 d2
 refine ⟨?_,q2⟩
 rw[a1,b1,c1,d1,o1,p1,q1]
theorem zrG (s:List UInt8) (at_:Int):zc2 s at_=zM s at_:=by
 unfold zc2 zM
 exact zhV fun a=>zhV fun b=>zhV fun c=>zhV fun d=>congrArg some (zl6 a b c d).1
theorem zox (s:List UInt8) (at_ r:Int) (h:zM s at_=some r):0≤r∧r<4294967296:=by
 unfold zM at h
 obtain ⟨a,_,h⟩:=Option.bind_eq_some_iff.1 h
 obtain ⟨b,_,h⟩:=Option.bind_eq_some_iff.1 h
 obtain ⟨c,_,h⟩:=Option.bind_eq_some_iff.1 h
 obtain ⟨d,_,h⟩:=Option.bind_eq_some_iff.1 h
 rw[←Option.some.inj h]
 exact (zl6 a b c d).2
theorem zeX (s:List UInt8) (i:Nat) (h:i<s.length):sidx s (i:Int)=some s[i]:=by
 unfold sidx
 rw[if_pos (by omega),Int.toNat_natCast,List.getElem?_eq_getElem h]
theorem zpi (s:List UInt8) (i:Nat) (h:i+3<s.length) (hs:s.length≤1048576): ∃n:Nat,zM s (i:Int)=some (n:Int)∧zc2 s (i:Int)=some (n:Int)∧n<4294967296:=by
 have h1:=zrG s (i:Int)
 have h2:=zox s (i:Int)
 have hs': ∃r,zM s (i:Int)=some r:=by
  unfold zM
  have w: ∀d:Nat,d≤3→IntKind.i64.wrap ((i:Int)+(d:Int))=((i+d:Nat):Int):=fun d hd=>by rw[zb (by omega) (by omega)];omega
  have w1:IntKind.i64.wrap ((i:Int)+(1:Int))=((i+1:Nat):Int):=w 1 (by omega)
  have w2:IntKind.i64.wrap ((i:Int)+(2:Int))=((i+2:Nat):Int):=w 2 (by omega)
  have w3:IntKind.i64.wrap ((i:Int)+(3:Int))=((i+3:Nat):Int):=w 3 (by omega)
  rw[w1,w2,w3,zeX s i (by omega),zeX s (i+1) (by omega),zeX s (i+2) (by omega),zeX s (i+3) (by omega)]
  exact ⟨_,rfl⟩
 obtain ⟨r,hr⟩:=hs'
 obtain ⟨p,q⟩:=h2 r hr
 refine ⟨r.toNat,?_,?_,by omega⟩
 ·rw[hr];congr 1;omega
 ·rw[h1,hr];congr 1;omega
def okW (l:List Wrd):Prop:=∀x∈l,0≤x.v∧x.v<4294967296
theorem zpX {l:List Wrd} {i:Nat} {x:Wrd} (h:okW l) (hx:0≤x.v∧x.v<4294967296):okW (l.set i x):=by
 intro y hy
 rcases List.mem_or_eq_of_mem_set hy with h1 | h1
 ·exact h y h1
 ·rw[h1];exact hx
noncomputable def qi (l:List Wrd) (x y z:Int) (r:Int):Option (List Wrd):=
 (idx l x).bind fun E1=>(idx l y).bind fun E3=>(idx (l.set x.toNat (Wrd.mk (IntKind.u32.wrap (E1.v+E3.v)))) z).bind fun E7=>(idx (l.set x.toNat (Wrd.mk (IntKind.u32.wrap (E1.v+E3.v)))) x).bind fun E9=>
 (zT (ixor .u32 E7.v E9.v) r).bind fun R11=>some ((l.set x.toNat (Wrd.mk (IntKind.u32.wrap (E1.v+E3.v)))).set z.toNat (Wrd.mk R11))
noncomputable def qs (l:List Int) (x y z:Int) (r:Int):Option (List Int):=
 (idx l x).bind fun E1=>(idx l y).bind fun E3=>(zbO (IntKind.i64.wrap (E1+E3))).bind fun R5=>(idx (l.set x.toNat R5) z).bind fun E10=>(idx (l.set x.toNat R5) x).bind fun E12=>
 (zcw (ixor .i64 E10 E12) r).bind fun R14=>some ((l.set x.toNat R5).set z.toNat R14)
theorem zj3 (l:List Wrd) (a b c d:Int):zbI l a b c d=(qi l a b d 16).bind fun l2=>(qi l2 c d b 12).bind fun l3=>(qi l3 a b d 8).bind fun l4=>qi l4 c d b 7:=by
 unfold zbI qi
 simp only[Option.bind_assoc,Option.bind_some]
theorem zkm (l:List Int) (a b c d:Int):zj l a b c d=(qs l a b d 16).bind fun l2=>(qs l2 c d b 12).bind fun l3=>(qs l3 a b d 8).bind fun l4=>qs l4 c d b 7:=by
 unfold zj qs
 simp only[Option.bind_assoc,Option.bind_some]
theorem zfL {l:List Wrd} (h:okW l) (k:Nat) (hk:k<l.length): ∃n:Nat,l[k].v=(n:Int)∧n<4294967296:=by
 obtain ⟨h1,h2⟩:=h _ (List.getElem_mem hk)
 exact ⟨l[k].v.toNat,by omega,by omega⟩
theorem zkD (l:List Wrd) (x y z r:Nat) (hl:l.length=16) (hw:okW l) (hx:x<16) (hy:y<16) (hz:z<16) (hr:r≤16):
 ∃l',qi l (x:Int) (y:Int) (z:Int) (r:Int)=some l'∧qs (l.map Wrd.v) (x:Int) (y:Int) (z:Int) (r:Int)=some (l'.map Wrd.v)∧l'.length=16∧okW l':=by
 obtain ⟨nx,ex,hnx⟩:=zfL hw x (by omega)
 obtain ⟨ny,ey,hny⟩:=zfL hw y (by omega)
 have hsum:IntKind.u32.wrap ((nx:Int)+(ny:Int))=(((nx+ny) % 4294967296:Nat):Int):=by rw[wrap32];omega
 have hlt:(nx+ny) % 4294967296<4294967296:=Nat.mod_lt _ (by decide)
 have hl1:(l.set x (Wrd.mk (((nx+ny) % 4294967296:Nat):Int))).length=16:=by rw[List.length_set];exact hl
 have hw1:okW (l.set x (Wrd.mk (((nx+ny) % 4294967296:Nat):Int))):=zpX hw ⟨by show (0:Int)≤(((nx+ny) % 4294967296:Nat):Int);omega,by show (((nx+ny) % 4294967296:Nat):Int)<_;omega⟩
 obtain ⟨nz,ez,hnz⟩:=zfL hw1 z (by omega)
 obtain ⟨nw,ew,hnw⟩:=zfL hw1 x (by omega)
 have hxor:=Nat.xor_lt_two_pow (n:=32) hnz hnw
 have hrl:=zty (n:=r) (show nz ^^^ nw<4294967296 from hxor)
 refine ⟨(l.set x (Wrd.mk (((nx+ny) % 4294967296:Nat):Int))).set z (Wrd.mk (rotN (nz ^^^ nw) r:Int)),?_,?_,by rw[List.length_set];exact hl1,zpX hw1 ⟨by show (0:Int)≤(rotN (nz ^^^ nw) r:Int);omega,by show (rotN (nz ^^^ nw) r:Int)<_;omega⟩⟩
 ·unfold qi
  simp only[ze l x (by omega),ze l y (by omega),Option.bind_some,ex,ey,hsum,Int.toNat_natCast,ze _ z (by omega:z<(l.set x (Wrd.mk (((nx+ny) % 4294967296:Nat):Int))).length),ze _ x (by omega:x<(l.set x (Wrd.mk (((nx+ny) % 4294967296:Nat):Int))).length),ez,ew,ixor32 hnz hnw,zsX hxor hr]
 ·unfold qs
  have m1:idx (l.map Wrd.v) (x:Int)=some (nx:Int):=by rw[ze _ x (by simp;omega)];simp[ex]
  have m2:idx (l.map Wrd.v) (y:Int)=some (ny:Int):=by rw[ze _ y (by simp;omega)];simp[ey]
  have m3:IntKind.i64.wrap ((nx:Int)+(ny:Int))=((nx+ny:Nat):Int):=by rw[zb (by omega) (by omega)];omega
  have m4:(l.map Wrd.v).set x (((nx+ny) % 4294967296:Nat):Int)=(l.set x (Wrd.mk (((nx+ny) % 4294967296:Nat):Int))).map Wrd.v:=by rw[List.map_set]
  simp only[m1,m2,Option.bind_some,m3,zkc (show nx+ny<2 ^ 63 by omega),Int.toNat_natCast,m4]
  have m5:idx ((l.set x (Wrd.mk (((nx+ny) % 4294967296:Nat):Int))).map Wrd.v) (z:Int)=some (nz:Int):=by rw[ze _ z (by simp;omega)];simp only[List.getElem_map,ez]
  have m6:idx ((l.set x (Wrd.mk (((nx+ny) % 4294967296:Nat):Int))).map Wrd.v) (x:Int)=some (nw:Int):=by rw[ze _ x (by simp;omega)];simp only[List.getElem_map,ew]
  simp only[m5,m6,Option.bind_some,ixor64 (show nz<2 ^ 63 by omega) (show nw<2 ^ 63 by omega),zrF hxor hr]
  exact congrArg some List.map_set.symm
theorem zqE (l:List Wrd) (a b c d:Nat) (hl:l.length=16) (hw:okW l) (ha:a<16) (hb:b<16) (hc:c<16) (hd:d<16):
 ∃l',zbI l (a:Int) (b:Int) (c:Int) (d:Int)=some l'∧zj (l.map Wrd.v) (a:Int) (b:Int) (c:Int) (d:Int)=some (l'.map Wrd.v)∧l'.length=16∧okW l':=by
 obtain ⟨l1,p1,q1,r1,w1⟩:=zkD l a b d 16 hl hw ha hb hd (by omega)
 obtain ⟨l2,p2,q2,r2,w2⟩:=zkD l1 c d b 12 r1 w1 hc hd hb (by omega)
 obtain ⟨l3,p3,q3,r3,w3⟩:=zkD l2 a b d 8 r2 w2 ha hb hd (by omega)
 obtain ⟨l4,p4,q4,r4,w4⟩:=zkD l3 c d b 7 r3 w3 hc hd hb (by omega)
 refine ⟨l4,?_,?_,r4,w4⟩
 ·rw[zj3,show (16:Int)=((16:Nat):Int) from rfl,p1]
  simp only[Option.bind_some]
  rw[show (12:Int)=((12:Nat):Int) from rfl,p2]
  simp only[Option.bind_some]
  rw[show (8:Int)=((8:Nat):Int) from rfl,p3]
  simp only[Option.bind_some]
  exact p4
 ·rw[zkm,show (16:Int)=((16:Nat):Int) from rfl,q1]
  simp only[Option.bind_some]
  rw[show (12:Int)=((12:Nat):Int) from rfl,q2]
  simp only[Option.bind_some]
  rw[show (8:Int)=((8:Nat):Int) from rfl,q3]
  simp only[Option.bind_some]
  exact q4
def goodW (l:List Wrd):Prop:=l.length=16∧okW l
noncomputable def qv (l:List Wrd) (a b c d:Nat):List Wrd:=(zbI l (a:Int) (b:Int) (c:Int) (d:Int)).getD []
theorem qv_ok {l:List Wrd} (h:goodW l) (a b c d:Nat) (ha:a<16) (hb:b<16) (hc:c<16) (hd:d<16):
 zbI l (a:Int) (b:Int) (c:Int) (d:Int)=some (qv l a b c d)∧zj (l.map Wrd.v) (a:Int) (b:Int) (c:Int) (d:Int)=some ((qv l a b c d).map Wrd.v)∧goodW (qv l a b c d):=by
 obtain ⟨l',h1,h2,h3,h4⟩:=zqE l a b c d h.1 h.2 ha hb hc hd
 unfold qv
 rw[h1,h2]
 exact ⟨rfl,rfl,h3,h4⟩
noncomputable def colW (l:List Wrd):Nat→List Wrd
 | 0=>l
 | k+1=>qv (colW l k) k (4+k) (8+k) (12+k)
noncomputable def diagW (l:List Wrd):Nat→List Wrd
 | 0=>l
 | k+1=>qv (diagW l k) k (4+(k+1) % 4) (8+(k+2) % 4) (12+(k+3) % 4)
noncomputable def roundW (l:List Wrd):List Wrd:=diagW (colW l 4) 4
noncomputable def roundsW (l:List Wrd):Nat→List Wrd
 | 0=>l
 | k+1=>roundW (roundsW l k)
theorem zeh {l:List Wrd} (h:goodW l): ∀k,k≤4→goodW (colW l k)
 | 0,_=>h
 | k+1,hk=>(qv_ok (zeh h k (by omega)) k (4+k) (8+k) (12+k) (by omega) (by omega) (by omega) (by omega)).2.2
theorem ze5 {l:List Wrd} (h:goodW l): ∀k,k≤4→goodW (diagW l k)
 | 0,_=>h
 | k+1,hk=>(qv_ok (ze5 h k (by omega)) k (4+(k+1) % 4) (8+(k+2) % 4) (12+(k+3) % 4) (by omega) (by omega) (by omega) (by omega)).2.2
theorem zpn {l:List Wrd} (h:goodW l):goodW (roundW l):=ze5 (zeh h 4 (by omega)) 4 (by omega)
theorem zed {l:List Wrd} (h:goodW l): ∀k,goodW (roundsW l k)
 | 0=>h
 | k+1=>zpn (zed h k)
theorem zsk {ρ:Type} {l:List Wrd} (h:goodW l):loopO (ρ:=Ctl (List Wrd) ρ) (fun (S17:Int × List Wrd)=>if (decide (S17.1<(4:Int)))=true then ((zbI S17.2 S17.1 (IntKind.i64.wrap ((4:Int)+S17.1)) (IntKind.i64.wrap ((8:Int)+S17.1)) (IntKind.i64.wrap ((12:Int)+S17.1))).bind fun R22=>
 some (.go (IntKind.i64.wrap (S17.1+(1:Int)),R22)))
 else (some (.done (.go S17.2))))
 ((0:Int),l)=some (.go (colW l 4)):=by
 rw[zo (fun k=>((k:Int),colW l k)) 4 (r:=Ctl.go (colW l 4)) ?h0]
 case h0=>rfl
 ·intro k hk
  have e4:IntKind.i64.wrap ((4:Int)+(k:Int))=((4+k:Nat):Int):=by rw[zb (by omega) (by omega)];omega
  have e8:IntKind.i64.wrap ((8:Int)+(k:Int))=((8+k:Nat):Int):=by rw[zb (by omega) (by omega)];omega
  have e12:IntKind.i64.wrap ((12:Int)+(k:Int))=((12+k:Nat):Int):=by rw[zb (by omega) (by omega)];omega
  simp only[e4,e8,e12,(qv_ok (zeh h k (by omega)) k (4+k) (8+k) (12+k) (by omega) (by omega) (by omega) (by omega)).1,Option.bind_some]
  rw[if_pos (by simp only[decide_eq_true_eq];omega),zb (by omega) (by omega)]
  rfl
 ·simp
theorem zrd {ρ:Type} {l:List Wrd} (h:goodW l):loopO (ρ:=Ctl (List Wrd) ρ) (fun (S25:Int × List Wrd)=>if (decide (S25.1<(4:Int)))=true then ((zbI S25.2 S25.1 (IntKind.i64.wrap ((4:Int)+(Int.tmod (IntKind.i64.wrap (S25.1+(1:Int))) (4:Int)))) (IntKind.i64.wrap ((8:Int)+(Int.tmod (IntKind.i64.wrap (S25.1+(2:Int))) (4:Int)))) (IntKind.i64.wrap ((12:Int)+(Int.tmod (IntKind.i64.wrap (S25.1+(3:Int))) (4:Int))))).bind fun R30=>
 some (.go (IntKind.i64.wrap (S25.1+(1:Int)),R30)))
 else (some (.done (.go S25.2))))
 ((0:Int),l)=some (.go (diagW l 4)):=by
 rw[zo (fun k=>((k:Int),diagW l k)) 4 (r:=Ctl.go (diagW l 4)) ?h0]
 case h0=>rfl
 ·intro k hk
  have e: ∀(a d:Nat),a≤12→d≤3→IntKind.i64.wrap ((a:Int)+(Int.tmod (IntKind.i64.wrap ((k:Int)+(d:Int))) (4:Int)))=((a+(k+d) % 4:Nat):Int):=by
   intro a d ha hd
   rw[zb (n:=(k:Int)+(d:Int)) (by omega) (by omega),show (k:Int)+(d:Int)=((k+d:Nat):Int) by omega,show (4:Int)=((4:Nat):Int) from rfl,←Int.ofNat_tmod,zb (by omega) (by omega)]
   omega
  have e4:IntKind.i64.wrap ((4:Int)+(Int.tmod (IntKind.i64.wrap ((k:Int)+(1:Int))) (4:Int)))=_:=e 4 1 (by omega) (by omega)
  have e8:IntKind.i64.wrap ((8:Int)+(Int.tmod (IntKind.i64.wrap ((k:Int)+(2:Int))) (4:Int)))=_:=e 8 2 (by omega) (by omega)
  have e12:IntKind.i64.wrap ((12:Int)+(Int.tmod (IntKind.i64.wrap ((k:Int)+(3:Int))) (4:Int)))=_:=e 12 3 (by omega) (by omega)
  simp only[e4,e8,e12,(qv_ok (ze5 h k (by omega)) k (4+(k+1) % 4) (8+(k+2) % 4) (12+(k+3) % 4) (by omega) (by omega) (by omega) (by omega)).1,Option.bind_some]
  rw[if_pos (by simp only[decide_eq_true_eq];omega),zb (by omega) (by omega)]
  rfl
 ·simp
theorem zqQ {l:List Wrd} (h:goodW l) {β:Type} (f:List Int→Option β):((zj (l.map Wrd.v) (0:Int) (4:Int) (8:Int) (12:Int)).bind fun R36=>
 (zj R36 (1:Int) (5:Int) (9:Int) (13:Int)).bind fun R39=>
 (zj R39 (2:Int) (6:Int) (10:Int) (14:Int)).bind fun R42=>
 (zj R42 (3:Int) (7:Int) (11:Int) (15:Int)).bind fun R45=>
 (zj R45 (0:Int) (5:Int) (10:Int) (15:Int)).bind fun R48=>
 (zj R48 (1:Int) (6:Int) (11:Int) (12:Int)).bind fun R51=>
 (zj R51 (2:Int) (7:Int) (8:Int) (13:Int)).bind fun R54=>
 (zj R54 (3:Int) (4:Int) (9:Int) (14:Int)).bind fun R57=>f R57)=f ((roundW l).map Wrd.v):=by
 have c0:zj (l.map Wrd.v) (0:Int) (4:Int) (8:Int) (12:Int)=some ((colW l 1).map Wrd.v):=(qv_ok h 0 4 8 12 (by omega) (by omega) (by omega) (by omega)).2.1
 have c1:zj ((colW l 1).map Wrd.v) (1:Int) (5:Int) (9:Int) (13:Int)=some ((colW l 2).map Wrd.v):=(qv_ok (zeh h 1 (by omega)) 1 5 9 13 (by omega) (by omega) (by omega) (by omega)).2.1
 have c2:zj ((colW l 2).map Wrd.v) (2:Int) (6:Int) (10:Int) (14:Int)=some ((colW l 3).map Wrd.v):=(qv_ok (zeh h 2 (by omega)) 2 6 10 14 (by omega) (by omega) (by omega) (by omega)).2.1
 have c3:zj ((colW l 3).map Wrd.v) (3:Int) (7:Int) (11:Int) (15:Int)=some ((colW l 4).map Wrd.v):=(qv_ok (zeh h 3 (by omega)) 3 7 11 15 (by omega) (by omega) (by omega) (by omega)).2.1
 have g:=zeh h 4 (by omega)
 have d0:zj ((colW l 4).map Wrd.v) (0:Int) (5:Int) (10:Int) (15:Int)=some ((diagW (colW l 4) 1).map Wrd.v):=(qv_ok g 0 5 10 15 (by omega) (by omega) (by omega) (by omega)).2.1
 have d1:zj ((diagW (colW l 4) 1).map Wrd.v) (1:Int) (6:Int) (11:Int) (12:Int)=some ((diagW (colW l 4) 2).map Wrd.v):=(qv_ok (ze5 g 1 (by omega)) 1 6 11 12 (by omega) (by omega) (by omega) (by omega)).2.1
 have d2:zj ((diagW (colW l 4) 2).map Wrd.v) (2:Int) (7:Int) (8:Int) (13:Int)=some ((diagW (colW l 4) 3).map Wrd.v):=(qv_ok (ze5 g 2 (by omega)) 2 7 8 13 (by omega) (by omega) (by omega) (by omega)).2.1
 have d3:zj ((diagW (colW l 4) 3).map Wrd.v) (3:Int) (4:Int) (9:Int) (14:Int)=some ((diagW (colW l 4) 4).map Wrd.v):=(qv_ok (ze5 g 3 (by omega)) 3 4 9 14 (by omega) (by omega) (by omega) (by omega)).2.1
 simp only[c0,c1,c2,c3,d0,d1,d2,d3,Option.bind_some]
 rfl
noncomputable def kN (s:List UInt8) (i:Nat):Nat:=((zM s ((4*i:Nat):Int)).getD 0).toNat
theorem kN_ok (s:List UInt8) (i:Nat) (h:4*i+3<s.length) (hs:s.length≤1048576):zM s ((4*i:Nat):Int)=some (kN s i:Int)∧zc2 s ((4*i:Nat):Int)=some (kN s i:Int)∧kN s i<4294967296:=by
 obtain ⟨n,h1,h2,h3⟩:=zpi s (4*i) h hs
 have e:kN s i=n:=by unfold kN;rw[h1];rfl
 rw[e]
 exact ⟨h1,h2,h3⟩
noncomputable def selW (k:Nat) (i:Nat) (n:Nat):Wrd:=bif Nat.blt i k then Wrd.mk (n:Int) else Wrd.mk 0
noncomputable def firstK (key:List UInt8) (k:Nat):List Wrd:=[Wrd.mk 1634760805,Wrd.mk 857760878,Wrd.mk 2036477234,Wrd.mk 1797285236,selW k 0 (kN key 0),selW k 1 (kN key 1),selW k 2 (kN key 2),selW k 3 (kN key 3),selW k 4 (kN key 4),selW k 5 (kN key 5),selW k 6 (kN key 6),selW k 7 (kN key 7),Wrd.mk 0,Wrd.mk 0,Wrd.mk 0,Wrd.mk 0]
noncomputable def firstN (key:List UInt8) (counter:Int) (nonce:List UInt8) (k:Nat):List Wrd:=[Wrd.mk 1634760805,Wrd.mk 857760878,Wrd.mk 2036477234,Wrd.mk 1797285236,Wrd.mk (kN key 0:Int),Wrd.mk (kN key 1:Int),Wrd.mk (kN key 2:Int),Wrd.mk (kN key 3:Int),Wrd.mk (kN key 4:Int),Wrd.mk (kN key 5:Int),Wrd.mk (kN key 6:Int),Wrd.mk (kN key 7:Int),Wrd.mk counter,selW k 0 (kN nonce 0),selW k 1 (kN nonce 1),selW k 2 (kN nonce 2)]
theorem znR (key:List UInt8) (counter:Int) (nonce:List UInt8) (hk:key.length=32) (hc:0≤counter∧counter≤4294967295) (hn:nonce.length=12):zdH key counter nonce=some (firstN key counter nonce 3):=by
 unfold zdH
 have hw:IntKind.u32.wrap counter=counter:=by rw[wrap32];omega
 have hl: ∀l:List Wrd,l.length=16→lenIs 16 l=some ():=fun l h=>by unfold lenIs;rw[if_pos h]
 rw[hl _ rfl]
 simp only[Option.bind_some]
 rw[zo (fun k=>((k:Int),firstK key k)) 8 (r:=Ctl.go (firstK key 8)) ?h0]
 case h0=>rfl
 ·simp only[zf]
  rw[show (12:Int)=((12:Nat):Int) from rfl,ze (firstK key 8) 12 (by show 12<16;omega)]
  simp only[Option.bind_some,Int.toNat_natCast,hw]
  rw[zo (fun k=>((k:Int),firstN key counter nonce k)) 3 (r:=Ctl.go (firstN key counter nonce 3)) ?h1]
  case h1=>rfl
  ·simp only[zf]
   rw[hl _ rfl]
   rfl
  ·intro k h3
   have e4:IntKind.i64.wrap ((4:Int)*(k:Int))=((4*k:Nat):Int):=by rw[zb (by omega) (by omega)];omega
   have e13:IntKind.i64.wrap ((13:Int)+(k:Int))=((13+k:Nat):Int):=by rw[zb (by omega) (by omega)];omega
   simp only[e4,e13,(kN_ok nonce k (by omega) (by omega)).2.1,Option.bind_some,ze (firstN key counter nonce k) (13+k) (by show 13+k<16;omega),Int.toNat_natCast]
   rw[if_pos (by simp only[decide_eq_true_eq];omega),zb (by omega) (by omega)]
   have h4:k=0∨k=1∨k=2:=by omega
   rcases h4 with rfl | rfl | rfl<;>rfl
  ·rfl
 ·intro k h8
  have e4:IntKind.i64.wrap ((4:Int)*(k:Int))=((4*k:Nat):Int):=by rw[zb (by omega) (by omega)];omega
  have e44:IntKind.i64.wrap ((4:Int)+(k:Int))=((4+k:Nat):Int):=by rw[zb (by omega) (by omega)];omega
  simp only[e4,e44,(kN_ok key k (by omega) (by omega)).2.1,Option.bind_some,ze (firstK key k) (4+k) (by show 4+k<16;omega),Int.toNat_natCast]
  rw[if_pos (by simp only[decide_eq_true_eq];omega),zb (by omega) (by omega)]
  have h4:k=0∨k=1∨k=2∨k=3∨k=4∨k=5∨k=6∨k=7:=by omega
  rcases h4 with rfl | rfl | rfl | rfl | rfl | rfl | rfl | rfl<;>rfl
 ·rfl
theorem zih (key:List UInt8) (counter:Int) (nonce:List UInt8) (hk:key.length=32) (hc:0≤counter∧counter≤4294967295) (hn:nonce.length=12):goodW (firstN key counter nonce 3):=by
 refine ⟨rfl,?_⟩
 have a: ∀i,i<8→kN key i<4294967296:=fun i hi=>(kN_ok key i (by omega) (by omega)).2.2
 have b: ∀i,i<3→kN nonce i<4294967296:=fun i hi=>(kN_ok nonce i (by omega) (by omega)).2.2
 have a0:=a 0 (by omega)
 have a1:=a 1 (by omega)
 have a2:=a 2 (by omega)
 have a3:=a 3 (by omega)
 have a4:=a 4 (by omega)
 have a5:=a 5 (by omega)
 have a6:=a 6 (by omega)
 have a7:=a 7 (by omega)
 have b0:=b 0 (by omega)
 have b1:=b 1 (by omega)
 have b2:=b 2 (by omega)
 have s0:selW 3 0 (kN nonce 0)=Wrd.mk (kN nonce 0:Int):=rfl
 have s1:selW 3 1 (kN nonce 1)=Wrd.mk (kN nonce 1:Int):=rfl
 have s2:selW 3 2 (kN nonce 2)=Wrd.mk (kN nonce 2:Int):=rfl
 intro x hx
 unfold firstN at hx
 rw[s0,s1,s2]at hx
 simp only[List.mem_cons,List.not_mem_nil,or_false]at hx
 rcases hx with rfl | rfl | rfl | rfl | rfl | rfl | rfl | rfl | rfl | rfl | rfl | rfl | rfl | rfl | rfl | rfl<;>simp only<;>omega
def bytes4 (n:Nat):List UInt8:=[toU8 (n:Int),toU8 ((n / 256:Nat):Int),toU8 ((n / 65536:Nat):Int),toU8 ((n / 16777216:Nat):Int)]
noncomputable def outW (w s:List Wrd):Nat→List UInt8
 | 0=>[]
 | k+1=>outW w s k++(match w[k]?,s[k]? with | some x,some y=>bytes4 ((x.v+y.v).toNat % 4294967296) | _,_=>[])
theorem zkg (w s:List Wrd) (k:Nat) (hw:k<w.length) (hs:k<s.length):outW w s (k+1)=outW w s k++bytes4 ((w[k].v+s[k].v).toNat % 4294967296):=by
 show outW w s k++(match w[k]?,s[k]? with | some x,some y=>_ | _,_=>_)=_
 rw[List.getElem?_eq_getElem hw,List.getElem?_eq_getElem hs]
theorem zjg (w s:List Wrd) (hw:w.length=16) (hs:s.length=16): ∀k,k≤16→(outW w s k).length=4*k
 | 0,_=>rfl
 | k+1,hk=>by
   rw[zkg w s k (by omega) (by omega),List.length_append,zjg w s hw hs k (by omega)]
   show 4*k+4=_
   omega
theorem zjq (n:Nat):toU8 ((n % 256:Nat):Int)=toU8 (n:Int):=by
 unfold toU8
 congr 1
 omega
noncomputable def chaR (key:List UInt8) (counter:Int) (nonce:List UInt8):List UInt8:=outW (roundsW (firstN key counter nonce 3) 10) (firstN key counter nonce 3) 16
def chaOk (key:List UInt8) (counter:Int) (nonce:List UInt8):Bool:=decide (key.length=32)&&(decide (nonce.length=12)&&decide (0≤counter∧counter≤4294967295))
noncomputable def chaV (key:List UInt8) (counter:Int) (nonce:List UInt8):List UInt8:=bif chaOk key counter nonce then chaR key counter nonce else []
theorem zgz {key:List UInt8} {counter:Int} {nonce:List UInt8} (h:chaOk key counter nonce=true):key.length=32∧nonce.length=12∧0≤counter∧counter≤4294967295:=by
 unfold chaOk at h
 simp only[Bool.and_eq_true,decide_eq_true_eq]at h
 exact h
theorem ziW (key:List UInt8) (counter:Int) (nonce:List UInt8) (h:chaOk key counter nonce=true):(chaV key counter nonce).length=64:=by
 obtain ⟨h1,h2,h3⟩:=zgz h
 have g:=zih key counter nonce h1 h3 h2
 unfold chaV chaR
 rw[h]
 exact zjg _ _ (zed g 10).1 g.1 16 (Nat.le_refl _)
theorem zjw (key:List UInt8) (counter:Int) (nonce:List UInt8):zfc key counter nonce=some (chaOk key counter nonce):=by
 unfold zfc chaOk
 have e1:decide ((key.length:Int)=32)=decide (key.length=32):=decide_eq_decide.2 (by omega)
 have e2:decide ((nonce.length:Int)=12)=decide (nonce.length=12):=decide_eq_decide.2 (by omega)
 rw[e1,e2,zY]
 cases decide (key.length=32)<;>cases decide (nonce.length=12)<;>cases decide (0≤counter∧counter≤4294967295)<;>rfl
theorem zht (key:List UInt8) (counter:Int) (nonce:List UInt8):zdx key counter nonce=some (chaV key counter nonce):=by
 unfold zdx chaV
 rw[zjw]
 cases hok:chaOk key counter nonce with
 | false=>rfl
 | true=>
   obtain ⟨h1,h2,h3⟩:=zgz hok
   have g:=zih key counter nonce h1 h3 h2
   have hl: ∀l:List Wrd,l.length=16→lenIs 16 l=some ():=fun l h=>by unfold lenIs;rw[if_pos h]
   simp only[Option.bind_some,Bool.not_true,Bool.false_eq_true,if_false,cond_true,znR key counter nonce h1 h3 h2,hl _ g.1]
   unfold chaR
   generalize firstN key counter nonce 3=s at g
   rw[zo (fun k=>((k:Int),roundsW s k)) 10 (r:=Ctl.go (roundsW s 10)) ?h0]
   case h0=>rfl
   ·have gw:=zed g 10
    simp only[zf,show mkLen 1 (64:Int)=some 64 from rfl,Option.bind_some]
    rw[zo (fun k=>((k:Int),outW (roundsW s 10) s k)) 16 (r:=Ctl.go (outW (roundsW s 10) s 16)) ?h1]
    case h1=>rfl
    ·rfl
    ·intro k hk
     obtain ⟨n,en,hn⟩:=zfL gw.2 k (by rw[gw.1];exact hk)
     obtain ⟨m,em,hm⟩:=zfL g.2 k (by rw[g.1];exact hk)
     have ho:=zjg (roundsW s 10) s gw.1 g.1 k (by omega)
     simp only[hl _ gw.1,ze (roundsW s 10) k (by rw[gw.1];exact hk),ze s k (by rw[g.1];exact hk),Option.bind_some,en,em]
     have e0:IntKind.u32.wrap ((n:Int)+(m:Int))=(((n+m) % 4294967296:Nat):Int):=by rw[wrap32];omega
     rw[e0,show (8:Int)=((8:Nat):Int) from rfl,show (24:Int)=((24:Nat):Int) from rfl,zdj (by decide),zdj (by decide)]
     rw[show ishr .u32 (((n+m) % 4294967296:Nat):Int) (16:Int)=_ from zdj (n:=16) (by decide)]
     rw[if_pos (by simp only[decide_eq_true_eq];omega),zb (by omega) (by omega),zm (by rw[ho];simp;omega) (by rw[ho];simp;omega)]
     simp only[Option.bind_some]
     rw[zkg _ _ k (by rw[gw.1];exact hk) (by rw[g.1];exact hk),en,em]
     rfl
    ·simp
   ·intro k hk
    have gk:=zed g k
    simp only[zsk gk,zf,zrd (zeh gk 4 (by omega))]
    rw[if_pos (by simp only[decide_eq_true_eq];omega),zb (by omega) (by omega)]
    rfl
   ·simp
theorem zmw {α β:Type} {x:Option α} {a:α} {f:α→Option β} {r:Option β} (h:x=some a) (h2:f a=r):x.bind f=r:=by rw[h];exact h2
theorem zlC (key:List UInt8) (counter:Int) (nonce:List UInt8):zer key counter nonce=some (chaV key counter nonce):=by
 unfold zer chaV
 have e1:decide ((key.length:Int)=32)=decide (key.length=32):=decide_eq_decide.2 (by omega)
 have e2:decide ((nonce.length:Int)=12)=decide (nonce.length=12):=decide_eq_decide.2 (by omega)
 rw[e1,e2,zcq]
 cases hok:chaOk key counter nonce with
 | false=>
   unfold chaOk at hok
   cases a1:decide (key.length=32) with
   | false=>rfl
   | true=>
     cases a2:decide (nonce.length=12) with
     | false=>rfl
     | true=>
       rw[a1,a2]at hok
       cases a3:decide (0≤counter∧counter≤4294967295) with
       | false=>rfl
       | true=>rw[a3]at hok;cases hok
 | true=>
   obtain ⟨h1,h2,h3⟩:=zgz hok
   have g:=zih key counter nonce h1 h3 h2
   rw[decide_eq_true h1,decide_eq_true h2,decide_eq_true h3]
   simp only[Option.bind_some,Bool.not_true,Bool.false_eq_true,if_false,cond_true]
   unfold zgi chaR
   rw[zo (fun k=>((k:Int),((firstN key counter nonce 3).map Wrd.v).take (4+k))) 8 (r:=Ctl.go (((firstN key counter nonce 3).map Wrd.v).take 12)) ?h0]
   case h0=>rfl
   ·have n0:zM nonce (0:Int)=some (kN nonce 0:Int):=(kN_ok nonce 0 (by omega) (by omega)).1
    have n1:zM nonce (4:Int)=some (kN nonce 1:Int):=(kN_ok nonce 1 (by omega) (by omega)).1
    have n2:zM nonce (8:Int)=some (kN nonce 2:Int):=(kN_ok nonce 2 (by omega) (by omega)).1
    have t1:app 8 (((firstN key counter nonce 3).map Wrd.v).take 12) [counter,(kN nonce 0:Int),(kN nonce 1:Int),(kN nonce 2:Int)]=some ((firstN key counter nonce 3).map Wrd.v):=by
     rw[zm (by show (12+4)*8≤_;omega) (by show 12+4≤_;omega)]
     unfold firstN
     generalize kN nonce 0=x0
     generalize kN nonce 1=x1
     generalize kN nonce 2=x2
     generalize kN key 0=y0
     generalize kN key 1=y1
     generalize kN key 2=y2
     generalize kN key 3=y3
     generalize kN key 4=y4
     generalize kN key 5=y5
     generalize kN key 6=y6
     generalize kN key 7=y7
     rfl
    have t2:app 8 ([]:List Int) ((firstN key counter nonce 3).map Wrd.v)=some ((firstN key counter nonce 3).map Wrd.v):=by
     rw[zm (by show (0+16)*8≤_;omega) (by show 0+16≤_;omega)]
     rfl
    simp only[zf,n0,n1,n2,Option.bind_some,t1,t2]
    generalize firstN key counter nonce 3=s at g
    rw[zo (fun k=>((k:Int),(roundsW s k).map Wrd.v)) 10 (r:=Ctl.go ((roundsW s 10).map Wrd.v)) ?h1]
    case h1=>rfl
    ·have gw:=zed g 10
     simp only[zf]
     generalize roundsW s 10=w at gw
     rw[zo (fun k=>((k:Int),outW (w) s k)) 16 (r:=Ctl.go (outW (w) s 16)) ?h2]
     case h2=>rfl
     ·rfl
     ·intro k hk
      have hkw:k<(w).length:=by rw[gw.1];exact hk
      have hks:k<s.length:=by rw[g.1];exact hk
      obtain ⟨n,en,hn⟩:=zfL gw.2 k hkw
      obtain ⟨m,em,hm⟩:=zfL g.2 k hks
      have ho:=zjg (w) s gw.1 g.1 k (by omega)
      have i1:idx ((w).map Wrd.v) (k:Int)=some (n:Int):=by rw[ze _ k (by simpa using hkw)];simp only[List.getElem_map,en]
      have i2:idx (s.map Wrd.v) (k:Int)=some (m:Int):=by rw[ze _ k (by simpa using hks)];simp only[List.getElem_map,em]
      have e0:IntKind.i64.wrap ((n:Int)+(m:Int))=((n+m:Nat):Int):=by rw[zb (by omega) (by omega)];omega
      have hx:(n+m) % 4294967296<4294967296:=Nat.mod_lt _ (by decide)
      have hw:zbO (IntKind.i64.wrap ((n:Int)+(m:Int)))=some (((n+m) % 4294967296:Nat):Int):=by rw[e0];exact zkc (by omega)
      generalize hxe:(n+m) % 4294967296=x at hx hw
      rw[if_pos (by simp only[decide_eq_true_eq];omega)]
      refine zmw i1 (zmw i2 (zmw hw ?_))
      have a0:toU8 (iand .i64 (x:Int) (255:Int))=toU8 (x:Int):=by
       rw[show (255:Int)=((255:Nat):Int) from rfl,iand64 (by omega) (by decide),show x &&& 255=x % 256 from Nat.and_two_pow_sub_one_eq_mod x 8,zjq]
      have a1:toU8 (iand .i64 (ishr .i64 (x:Int) (8:Int)) (255:Int))=toU8 ((x / 256:Nat):Int):=by
       rw[show ishr .i64 (x:Int) (8:Int)=((x / 256:Nat):Int) from zdj (n:=8) (by decide),show (255:Int)=((255:Nat):Int) from rfl,iand64 (by omega) (by decide),show x / 256 &&& 255=x / 256 % 256 from Nat.and_two_pow_sub_one_eq_mod _ 8,zjq]
      have a2:toU8 (iand .i64 (ishr .i64 (x:Int) (16:Int)) (255:Int))=toU8 ((x / 65536:Nat):Int):=by
       rw[show ishr .i64 (x:Int) (16:Int)=((x / 65536:Nat):Int) from zdj (n:=16) (by decide),show (255:Int)=((255:Nat):Int) from rfl,iand64 (by omega) (by decide),show x / 65536 &&& 255=x / 65536 % 256 from Nat.and_two_pow_sub_one_eq_mod _ 8,zjq]
      have a3:ishr .i64 (x:Int) (24:Int)=((x / 16777216:Nat):Int):=zdj (n:=24) (by decide)
      rw[a0,a1,a2,a3,zb (by omega) (by omega),zm (by rw[ho];simp;omega) (by rw[ho];simp;omega)]
      simp only[Option.bind_some]
      rw[zkg _ _ k hkw hks,en,em,show ((n:Int)+(m:Int)).toNat=n+m by omega,hxe]
      rfl
     ·simp
    ·intro k hk
     simp only
     rw[if_pos (by simp only[decide_eq_true_eq];omega),zb (n:=(k:Int)+1) (by omega) (by omega)]
     exact zqQ (zed g k) (fun R57=>some (Ctl.go ((k:Int)+1,R57)))
    ·simp
   ·intro k hk
    have e4:IntKind.i64.wrap ((4:Int)*(k:Int))=((4*k:Nat):Int):=by rw[zb (by omega) (by omega)];omega
    simp only[e4,(kN_ok key k (by omega) (by omega)).1,Option.bind_some]
    rw[if_pos (by simp only[decide_eq_true_eq];omega),zb (by omega) (by omega),zm (by rw[List.length_take];simp;omega) (by rw[List.length_take];simp;omega)]
    have h4:k=0∨k=1∨k=2∨k=3∨k=4∨k=5∨k=6∨k=7:=by omega
    unfold firstN
    rcases h4 with rfl | rfl | rfl | rfl | rfl | rfl | rfl | rfl
    ·generalize kN nonce 0=x0
     generalize kN nonce 1=x1
     generalize kN nonce 2=x2
     generalize kN key 0=y0
     generalize kN key 1=y1
     generalize kN key 2=y2
     generalize kN key 3=y3
     generalize kN key 4=y4
     generalize kN key 5=y5
     generalize kN key 6=y6
     generalize kN key 7=y7
     rfl
    ·generalize kN nonce 0=x0
     generalize kN nonce 1=x1
     generalize kN nonce 2=x2
     generalize kN key 0=y0
     generalize kN key 1=y1
     generalize kN key 2=y2
     generalize kN key 3=y3
     generalize kN key 4=y4
     generalize kN key 5=y5
     generalize kN key 6=y6
     generalize kN key 7=y7
     rfl
    ·generalize kN nonce 0=x0
     generalize kN nonce 1=x1
     generalize kN nonce 2=x2
     generalize kN key 0=y0
     generalize kN key 1=y1
     generalize kN key 2=y2
     generalize kN key 3=y3
     generalize kN key 4=y4
     generalize kN key 5=y5
     generalize kN key 6=y6
     generalize kN key 7=y7
     rfl
    ·generalize kN nonce 0=x0
     generalize kN nonce 1=x1
     generalize kN nonce 2=x2
     generalize kN key 0=y0
     generalize kN key 1=y1
     generalize kN key 2=y2
     generalize kN key 3=y3
     generalize kN key 4=y4
     generalize kN key 5=y5
     generalize kN key 6=y6
     generalize kN key 7=y7
     rfl
    ·generalize kN nonce 0=x0
     generalize kN nonce 1=x1
     generalize kN nonce 2=x2
     generalize kN key 0=y0
     generalize kN key 1=y1
     generalize kN key 2=y2
     generalize kN key 3=y3
     generalize kN key 4=y4
     generalize kN key 5=y5
     generalize kN key 6=y6
     generalize kN key 7=y7
     rfl
    ·generalize kN nonce 0=x0
     generalize kN nonce 1=x1
     generalize kN nonce 2=x2
     generalize kN key 0=y0
     generalize kN key 1=y1
     generalize kN key 2=y2
     generalize kN key 3=y3
     generalize kN key 4=y4
     generalize kN key 5=y5
     generalize kN key 6=y6
     generalize kN key 7=y7
     rfl
    ·generalize kN nonce 0=x0
     generalize kN nonce 1=x1
     generalize kN nonce 2=x2
     generalize kN key 0=y0
     generalize kN key 1=y1
     generalize kN key 2=y2
     generalize kN key 3=y3
     generalize kN key 4=y4
     generalize kN key 5=y5
     generalize kN key 6=y6
     generalize kN key 7=y7
     rfl
    ·generalize kN nonce 0=x0
     generalize kN nonce 1=x1
     generalize kN nonce 2=x2
     generalize kN key 0=y0
     generalize kN key 1=y1
     generalize kN key 2=y2
     generalize kN key 3=y3
     generalize kN key 4=y4
     generalize kN key 5=y5
     generalize kN key 6=y6
     generalize kN key 7=y7
     rfl
   ·simp
def fixV (n:Nat):Nat→List UInt8
 | 0=>[]
 | j+1=>toU8 ((n / 256 ^ j:Nat):Int)::fixV n j
theorem ziZ (n:Nat): ∀j,(fixV n j).length=j
 | 0=>rfl
 | j+1=>by rw[fixV,List.length_cons,ziZ n j]
theorem zjQ (n b j:Nat):n / b ^ j / b=n / b ^ (j+1):=by rw[Nat.div_div_eq_div_mul,Nat.pow_succ]
def fixedV (n w:Int):List UInt8:=bif decide (1≤w∧w≤7)&&(decide (0≤n)&&decide (n.toNat / 256 ^ w.toNat=0)) then fixV n.toNat w.toNat else []
theorem zn5 (n w:Int) (hn:n≤4611686018427387904):zgf n w=some (fixedV n w):=by
 unfold zgf fixedV
 rw[zcq]
 by_cases h1:1≤w∧w≤7
 ·rw[decide_eq_true h1]
  by_cases h2:0≤n
  ·obtain ⟨m,rfl⟩: ∃m:Nat,n=(m:Int):=⟨n.toNat,by omega⟩
   obtain ⟨u,rfl⟩: ∃u:Nat,w=(u:Int):=⟨w.toNat,by omega⟩
   rw[decide_eq_true h2,decide_eq_false (by omega: ¬(m:Int)<0)]
   simp only[Option.bind_some,Bool.not_true,Bool.false_eq_true,if_false,Int.toNat_natCast]
   rw[zo (fun j=>(((m / 256 ^ j:Nat):Int),fixV m j,(j:Int))) u (r:=Ctl.go (((m / 256 ^ u:Nat):Int),fixV m u)) ?h0]
   case h0=>simp[fixV]
   ·simp only[zf]
    by_cases h3:m / 256 ^ u=0
    ·rw[decide_eq_true h3,decide_eq_false (by rw[h3];decide: ¬((m / 256 ^ u:Nat):Int)>0)];rfl
    ·have h4:((m / 256 ^ u:Nat):Int)>0:=Int.ofNat_lt.2 (Nat.pos_of_ne_zero h3)
     rw[decide_eq_false h3,decide_eq_true h4];rfl
   ·intro j hj
    have e1:Int.tmod ((m / 256 ^ j:Nat):Int) (256:Int)=((m / 256 ^ j % 256:Nat):Int):=by rw[show (256:Int)=((256:Nat):Int) from rfl,←Int.ofNat_tmod]
    have e2:Int.tdiv ((m / 256 ^ j:Nat):Int) (256:Int)=((m / 256 ^ (j+1):Nat):Int):=by rw[show (256:Int)=((256:Nat):Int) from rfl,←Int.ofNat_tdiv,zjQ]
    have e3:((m / 256 ^ (j+1):Nat):Int)≤(m:Int):=Int.ofNat_le.2 (Nat.div_le_self _ _)
    have e4:(0:Int)≤((m / 256 ^ (j+1):Nat):Int):=Int.natCast_nonneg _
    have hl:=ziZ m j
    simp only[e1,e2,zjq]
    rw[if_pos (by simp only[decide_eq_true_eq];omega),zb (n:=(j:Int)+1) (by omega) (by omega),zb (by omega) (by omega)]
    rw[zcO (by rw[hl];simp;omega)]
    rfl
   ·simp
  ·rw[decide_eq_false h2,decide_eq_true (by omega:n<0)]
   rfl
 ·rw[decide_eq_false h1]
  rfl
theorem znU (n w:Int) (hn:n≤4611686018427387904):zfZ n w=some (fixedV n w):=by
 unfold zfZ fixedV
 rw[zY]
 by_cases h1:1≤w∧w≤7
 ·rw[decide_eq_true h1]
  by_cases h2:0≤n
  ·obtain ⟨m,rfl⟩: ∃m:Nat,n=(m:Int):=⟨n.toNat,by omega⟩
   obtain ⟨u,rfl⟩: ∃u:Nat,w=(u:Int):=⟨w.toNat,by omega⟩
   have e0:IntKind.u64.wrap (IntKind.i64.wrap ((8:Int)*(u:Int)))=((8*u:Nat):Int):=by rw[zb (by omega) (by omega),wrap64u];omega
   have e5:ishr .i64 (m:Int) ((8*u:Nat):Int)=((m / 256 ^ u:Nat):Int):=by
    rw[zdj (by show 8*u≤64;omega),Nat.pow_mul]
   have e6:decide (((m / 256 ^ u:Nat):Int)=0)=decide (m / 256 ^ u=0):=decide_eq_decide.2 (by omega)
   rw[decide_eq_true h2,decide_eq_false (by omega: ¬(m:Int)<0)]
   simp only[Option.bind_some,Bool.not_true,Bool.false_eq_true,if_false,Int.toNat_natCast,e0,e5,e6]
   by_cases h3:m / 256 ^ u=0
   ·rw[decide_eq_true h3]
    simp only[Bool.not_true,Bool.false_eq_true,if_false,Bool.true_and,cond_true]
    rw[zsK (by omega) (by omega)]
    simp only[Option.bind_some]
    rw[zo (fun j=>(((m / 256 ^ j:Nat):Int),(u:Int) - 1 - (j:Int),List.replicate (u - j) (0:UInt8)++fixV m j)) u (r:=Ctl.go (fixV m u)) ?h0]
    case h0=>rw[zb (by omega) (by omega)];simp[fixV]
    ·rfl
    ·intro j hj
     have e1:ishr .i64 ((m / 256 ^ j:Nat):Int) (8:Int)=((m / 256 ^ (j+1):Nat):Int):=by
      rw[show ishr .i64 ((m / 256 ^ j:Nat):Int) (8:Int)=((m / 256 ^ j / 256:Nat):Int) from zdj (n:=8) (by decide),zjQ]
     have hl:=ziZ m j
     have hi:(u:Int) - 1 - (j:Int)=((u - 1 - j:Nat):Int):=by omega
     have hlen:u - 1 - j<(List.replicate (u - j) (0:UInt8)++fixV m j).length:=by simp;omega
     have hset:(List.replicate (u - j) (0:UInt8)++fixV m j).set (u - 1 - j) (toU8 ((m / 256 ^ j:Nat):Int))=List.replicate (u - (j+1)) (0:UInt8)++fixV m (j+1):=by
      rw[show u - j=(u - (j+1))+1 by omega,List.replicate_succ',List.append_assoc,show u - 1 - j=u - (j+1) by omega,List.set_append_right _ _ (by simp)]
      simp[fixV]
     simp only[hi,e1,ze _ _ hlen,Option.bind_some,Int.toNat_natCast,hset]
     rw[if_pos (by simp only[decide_eq_true_eq];omega),zb (by omega) (by omega)]
     rw[show ((u - 1 - j:Nat):Int) - 1=(u:Int) - 1 - ((j+1:Nat):Int) by omega]
    ·rw[if_neg (by simp only[decide_eq_true_eq];omega)]
     simp
   ·rw[decide_eq_false h3]
    rfl
  ·rw[decide_eq_false h2,decide_eq_true (by omega:n<0)]
   rfl
 ·rw[decide_eq_false h1]
  rfl
def varN:Nat→Nat→List UInt8
 | 0,n=>[toU8 (n:Int)]
 | f+1,n=>bif decide (n<128) then [toU8 (n:Int)] else toU8 ((128+n % 128:Nat):Int)::varN f (n / 128)
theorem zfn {f n:Nat} (h:n<128):varN f n= [toU8 (n:Int)]:=by
 cases f with
 | zero=>rfl
 | succ f=>rw[varN,decide_eq_true h];rfl
theorem zhl {f n:Nat} (h:128≤n):varN (f+1) n=toU8 ((128+n % 128:Nat):Int)::varN f (n / 128):=by
 rw[varN,decide_eq_false (by omega)];rfl
theorem zoZ {body:Int × List UInt8→Option (Ctl (Int × List UInt8) (Ctl (Int × List UInt8) (List UInt8)))}
 (h1: ∀(n:Nat) (out:List UInt8),128≤n→n<562949953421312→out.length≤100→body ((n:Int),out)=some (.go (((n / 128:Nat):Int),out++ [toU8 ((128+n % 128:Nat):Int)])))
 (h2: ∀(n:Nat) (out:List UInt8),n<128→body ((n:Int),out)=some (.done (.go ((n:Int),out)))):
 ∀(f n:Nat) (out:List UInt8),n<128 ^ (f+1)→n<562949953421312→out.length+f≤100→∃(m:Nat) (out':List UInt8),loopO body ((n:Int),out)=some (.go ((m:Int),out'))∧out'++ [toU8 (m:Int)]=out++varN f n∧out'.length≤100:=by
 intro f
 induction f with
 | zero=>
   intro n out hn _ ho
   have hn':n<128:=by simpa using hn
   exact ⟨n,out,by rw[zR,h2 n out hn'],by rw[zfn hn'],by omega⟩
 | succ f ih=>
   intro n out hn hb ho
   by_cases h:n<128
   ·exact ⟨n,out,by rw[zR,h2 n out h],by rw[zfn h],by omega⟩
   ·have hn2:n / 128<128 ^ (f+1):=by
     rw[Nat.div_lt_iff_lt_mul (by decide)]
     rw[Nat.pow_succ]at hn
     exact hn
    obtain ⟨m,out',e1,e2,e3⟩:=ih (n / 128) (out++ [toU8 ((128+n % 128:Nat):Int)]) hn2 (by omega) (by simp;omega)
    refine ⟨m,out',?_,?_,e3⟩
    ·rw[zR,h1 n out (by omega) hb (by omega)]
     exact e1
    ·rw[e2,zhl (by omega),List.append_assoc];rfl
def varV (n:Int):List UInt8:=bif decide (0≤n∧n≤562949953421311) then varN 6 n.toNat else []
theorem zk3 (n:Int):zeZ n=some (varV n):=by
 unfold zeZ varV
 rw[zcq]
 by_cases h:0≤n∧n≤562949953421311
 ·rw[decide_eq_true h]
  obtain ⟨m,rfl⟩: ∃m:Nat,n=(m:Int):=⟨n.toNat,by omega⟩
  simp only[Option.bind_some,Bool.not_true,Bool.false_eq_true,if_false,cond_true,Int.toNat_natCast]
  obtain ⟨p,out,e1,e2,e3⟩:=zoZ (body:=fun (S6:Int × List UInt8)=>if (decide (S6.1≥(128:Int)))=true then ((app 1 S6.2 ([toU8 (IntKind.i64.wrap ((128:Int)+(Int.tmod S6.1 (128:Int))))])).bind fun E13=>
   some (.go (IntKind.i64.wrap (Int.tdiv S6.1 (128:Int)),E13)))
   else (some (.done (.go (S6.1,S6.2))))) (by
    intro n out h1 h2 ho
    have t1:Int.tmod (n:Int) (128:Int)=((n % 128:Nat):Int):=by rw[show (128:Int)=((128:Nat):Int) from rfl,←Int.ofNat_tmod]
    have t2:Int.tdiv (n:Int) (128:Int)=((n / 128:Nat):Int):=by rw[show (128:Int)=((128:Nat):Int) from rfl,←Int.ofNat_tdiv]
    have t3:IntKind.i64.wrap ((128:Int)+((n % 128:Nat):Int))=((128+n % 128:Nat):Int):=by rw[zb (by omega) (by omega)];omega
    simp only[t1,t2,t3]
    rw[if_pos (by simp only[decide_eq_true_eq];omega),zm (by simp;omega) (by simp;omega),zb (by omega) (by omega)]
    rfl) (by
 intro n out h1
 rw[if_neg (by simp only[decide_eq_true_eq];omega)]) 6 m [] (by omega) (by omega) (by simp)
  rw[e1]
  simp only[zf]
  rw[zm (by simp;omega) (by simp;omega),e2]
  rfl
 ·rw[decide_eq_false h]
  rfl
theorem or128 (m:Nat) (h:m<128):128 ||| m=128+m:=by
 have:=Nat.two_pow_add_eq_or_of_lt (i:=7) (b:=m) h 1
 rw[show 2 ^ 7*1=128 from rfl]at this
 exact this.symm
theorem zik (n:Int):zeM n=some (varV n):=by
 unfold zeM varV
 rw[zY]
 by_cases h:0≤n∧n≤562949953421311
 ·rw[decide_eq_true h]
  obtain ⟨m,rfl⟩: ∃m:Nat,n=(m:Int):=⟨n.toNat,by omega⟩
  simp only[Option.bind_some,Bool.not_true,Bool.false_eq_true,if_false,cond_true,Int.toNat_natCast]
  obtain ⟨p,out,e1,e2,e3⟩:=zoZ (body:=fun (S5:Int × List UInt8)=>if (decide (S5.1>(127:Int)))=true then ((app 1 S5.2 ([toU8 (ior .i64 (128:Int) (iand .i64 S5.1 (127:Int)))])).bind fun E12=>
   some (.go (ishr .i64 S5.1 (7:Int),E12)))
   else (some (.done (.go (S5.1,S5.2))))) (by
    intro n out h1 h2 ho
    have t1:iand .i64 (n:Int) (127:Int)=((n % 128:Nat):Int):=by
     rw[show (127:Int)=((127:Nat):Int) from rfl,iand64 (by omega) (by decide),show n &&& 127=n % 128 from Nat.and_two_pow_sub_one_eq_mod n 7]
    have t2:ishr .i64 (n:Int) (7:Int)=((n / 128:Nat):Int):=zdj (n:=7) (by decide)
    have hm:n % 128<128:=Nat.mod_lt _ (by decide)
    have t3:ior .i64 (128:Int) ((n % 128:Nat):Int)=((128+n % 128:Nat):Int):=by
     rw[show (128:Int)=((128:Nat):Int) from rfl,ior64 (by decide) (by omega),or128 _ hm]
    simp only[t1,t2,t3]
    rw[if_pos (by simp only[decide_eq_true_eq];omega),zm (by simp;omega) (by simp;omega)]
    rfl) (by
 intro n out h1
 rw[if_neg (by simp only[decide_eq_true_eq];omega)]) 6 m [] (by omega) (by omega) (by simp)
  rw[e1]
  simp only[zf]
  rw[zm (by simp;omega) (by simp;omega),e2]
  rfl
 ·rw[decide_eq_false h]
  rfl
def numV:List UInt8→Nat
 | []=>0
 | x::l=>x.toNat % 128+128*numV l
theorem zhk: ∀(l:List UInt8),numV l<128 ^ l.length
 | []=>by decide
 | x::l=>by
   have:=zhk l
   have hx:x.toNat % 128<128:=Nat.mod_lt _ (by decide)
   rw[numV,List.length_cons,Nat.pow_succ]
   omega
theorem zns: ∀(l:List UInt8) (x:UInt8),numV (l++ [x])=numV l+128 ^ l.length*(x.toNat % 128)
 | [],x=>by simp[numV]
 | y::l,x=>by
   rw[List.cons_append,numV,numV,zns l x,List.length_cons,Nat.pow_succ,Nat.mul_add,Nat.mul_comm (128 ^ l.length) 128,Nat.mul_assoc]
   omega
def readN:Nat→List UInt8→Option (Nat × Nat)
 | 0,_=>none
 | _+1,[]=>none
 | f+1,x::l=>bif decide (x.toNat<128) then some (x.toNat,1) else match readN f l with
   | some (m,k)=>bif decide (m=0) then none else some (x.toNat % 128+128*m,k+1)
   | none=>none
theorem zfm (n:Nat):(toU8 (n:Int)).toNat=n % 256:=by
 unfold toU8
 rw[UInt8.toNat_ofNat']
 omega
theorem zkG (x:UInt8):toU8 ((x.toNat:Nat):Int)=x:=by
 have:=x.toNat_lt
 apply UInt8.toNat_inj.1
 rw[zfm]
 omega
theorem zkF {α:Type} {l:List α} {j:Nat} (h1:1≤j) (h2:j≤l.length):l.take j≠[]:=by
 intro e
 have:=congrArg List.length e
 rw[List.length_take,List.length_nil]at this
 omega
theorem zli (f:Nat) (x:UInt8):varN f (numV [x])= [x]↔x.toNat<128:=by
 have hx:x.toNat % 128<128:=Nat.mod_lt _ (by decide)
 rw[show numV [x]=x.toNat % 128 by simp[numV],zfn hx]
 constructor
 ·intro h
  have h2:toU8 ((x.toNat % 128:Nat):Int)=x:=by simpa using h
  have h3:=congrArg UInt8.toNat h2
  rw[zfm]at h3
  omega
 ·intro h
  rw[Nat.mod_eq_of_lt h,zkG]
theorem zhY (f:Nat) (x:UInt8) (l:List UInt8) (hl:l≠[]):varN (f+1) (numV (x::l))=x::l↔128≤x.toNat∧numV l≠0∧varN f (numV l)=l:=by
 have hx:x.toNat % 128<128:=Nat.mod_lt _ (by decide)
 have hx2:=x.toNat_lt
 have hm:(x.toNat % 128+128*numV l) % 128=x.toNat % 128:=by omega
 have hd:(x.toNat % 128+128*numV l) / 128=numV l:=by omega
 by_cases h0:numV l=0
 ·rw[numV,h0,zfn (by omega)]
  constructor
  ·intro h
   have: []=l:=by simpa using (List.cons.inj h).2
   exact absurd this.symm hl
  ·rintro ⟨_,h,_⟩
   exact absurd rfl h
 ·rw[numV,zhl (by omega),hm,hd]
  constructor
  ·intro h
   obtain ⟨h1,h2⟩:=List.cons.inj h
   have h3:=congrArg UInt8.toNat h1
   rw[zfm]at h3
   exact ⟨by omega,h0,h2⟩
  ·rintro ⟨h1,_,h2⟩
   rw[h2,show 128+x.toNat % 128=x.toNat by omega,zkG]
theorem zdJ: ∀(f:Nat) (s:List UInt8) (n k:Nat),readN f s=some (n,k)→1≤k∧k≤f∧k≤s.length∧n=numV (s.take k)∧varN (f - 1) n=s.take k∧∀g j,1≤j→j≤g+1→j≤s.length→varN g (numV (s.take j))=s.take j→j=k
 | 0,s,n,k,h=>by cases h
 | f+1,[],n,k,h=>by cases h
 | f+1,x::l,n,k,h=>by
   rw[readN]at h
   by_cases hx:x.toNat<128
   ·rw[decide_eq_true hx]at h
    simp only[cond_true,Option.some.injEq,Prod.mk.injEq]at h
    obtain ⟨rfl,rfl⟩:=h
    have hm:x.toNat % 128=x.toNat:=Nat.mod_eq_of_lt hx
    refine ⟨Nat.le_refl _,by omega,by simp,by simp[numV,hm],?_,fun g j hj1 hjg hjl he=>?_⟩
    ·have:=(zli (f+1 - 1) x).2 hx
     rw[show numV [x]=x.toNat by simp[numV,hm]]at this
     exact this
    ·cases j with
     | zero=>omega
     | succ j=>
       cases j with
       | zero=>rfl
       | succ j=>
         cases g with
         | zero=>omega
         | succ g=>
           rw[List.take_succ_cons]at he
           have:=(zhY g x (l.take (j+1)) (zkF (by omega) (by rw[List.length_cons]at hjl;omega))).1 he
           omega
   ·rw[decide_eq_false hx]at h
    simp only[cond_false]at h
    cases hr:readN f l with
    | none=>rw[hr]at h;cases h
    | some p=>
      obtain ⟨m,k'⟩:=p
      rw[hr]at h
      simp only at h
      by_cases hm:m=0
      ·rw[decide_eq_true hm]at h;cases h
      ·rw[decide_eq_false hm]at h
       simp only[cond_false,Option.some.injEq,Prod.mk.injEq]at h
       obtain ⟨rfl,rfl⟩:=h
       obtain ⟨h1,h2,h3,h4,h5,h6⟩:=zdJ f l m k' hr
       have hne:l.take k'≠[]:=zkF h1 h3
       refine ⟨by omega,by omega,by simp;omega,by rw[List.take_succ_cons,numV,←h4],?_,fun g j hj1 hjg hjl he=>?_⟩
       ·rw[List.take_succ_cons,Nat.add_sub_cancel]
        obtain ⟨f',rfl⟩: ∃f',f=f'+1:=⟨f - 1,by omega⟩
        rw[Nat.add_sub_cancel]at h5
        have:=(zhY f' x (l.take k') hne).2 ⟨by omega,by rw[←h4];exact hm,by rw[←h4];exact h5⟩
        rw[numV,←h4]at this
        exact this
       ·cases j with
        | zero=>omega
        | succ j=>
          cases j with
          | zero=>
            rw[List.take_succ_cons,List.take_zero]at he
            exact absurd ((zli g x).1 he) hx
          | succ j=>
            cases g with
            | zero=>omega
            | succ g=>
              rw[List.take_succ_cons]at he
              have hjl':j+1≤l.length:=by simp at hjl;omega
              have:=(zhY g x (l.take (j+1)) (zkF (by omega) hjl')).1 he
              have:=h6 g (j+1) (by omega) (by omega) hjl' this.2.2
              omega
theorem zme: ∀(f:Nat) (s:List UInt8),readN f s=none→∀g j,1≤j→j≤f→j≤g+1→j≤s.length→varN g (numV (s.take j))≠s.take j
 | 0,s,h=>fun g j h1 h2=>by omega
 | f+1,[],h=>fun g j h1 h2 h3 h4=>by simp at h4;omega
 | f+1,x::l,h=>by
   intro g j hj1 hjf hjg hjl he
   rw[readN]at h
   by_cases hx:x.toNat<128
   ·rw[decide_eq_true hx]at h;cases h
   ·rw[decide_eq_false hx]at h
    simp only[cond_false]at h
    cases j with
    | zero=>omega
    | succ j=>
      cases j with
      | zero=>
        rw[List.take_succ_cons,List.take_zero]at he
        exact hx ((zli g x).1 he)
      | succ j=>
        cases g with
        | zero=>omega
        | succ g=>
          rw[List.take_succ_cons]at he
          have hjl':j+1≤l.length:=by simp at hjl;omega
          obtain ⟨q1,q2,q3⟩:=(zhY g x (l.take (j+1)) (zkF (by omega) hjl')).1 he
          cases hr:readN f l with
          | none=>exact zme f l hr g (j+1) (by omega) (by omega) (by omega) hjl' q3
          | some p=>
            obtain ⟨m,k'⟩:=p
            rw[hr]at h
            simp only at h
            by_cases hm:m=0
            ·obtain ⟨h1,h2,h3,h4,h5,h6⟩:=zdJ f l m k' hr
             have:=h6 g (j+1) (by omega) (by omega) hjl' q3
             rw[←this]at h4
             exact q2 (by rw[←h4];exact hm)
            ·rw[decide_eq_false hm]at h;cases h
def readR:Option (Nat × Nat)→Int × Int
 | some (n,k)=>((n:Int),(k:Int))
 | none=>(0,0)
def readI (n i:Nat):Option (Nat × Nat)→Int × Int
 | some (m,k)=>bif decide (m=0∧0<i) then (0,0) else (((n+128 ^ i*m:Nat):Int),((i+k:Nat):Int))
 | none=>(0,0)
theorem zqJ (p:Option (Nat × Nat)):readI 0 0 p=readR p:=by
 cases p with
 | none=>rfl
 | some p=>simp[readI,readR]
theorem zqI (n i f:Nat) (x:UInt8) (l:List UInt8) (hx: ¬x.toNat<128):readI n i (readN (f+1) (x::l))=readI (n+128 ^ i*(x.toNat % 128)) (i+1) (readN f l):=by
 rw[readN,decide_eq_false hx]
 simp only[cond_false]
 cases readN f l with
 | none=>rfl
 | some p=>
   obtain ⟨m,k⟩:=p
   simp only
   by_cases hm:m=0
   ·simp[hm,readI]
   ·rw[decide_eq_false hm]
    simp only[cond_false,readI]
    rw[decide_eq_false (by omega),decide_eq_false (by omega)]
    simp only[cond_false]
    have e:n+128 ^ i*(x.toNat % 128+128*m)=n+128 ^ i*(x.toNat % 128)+128 ^ i*128*m:=by rw[Nat.mul_add,Nat.mul_assoc,Nat.add_assoc]
    rw[Nat.pow_succ,e,show i+(k+1)=i+1+k by omega]
theorem ztQ (n d i:Nat) (h:n<2 ^ (7*i)):n ||| d*2 ^ (7*i)=n+2 ^ (7*i)*d:=by
 rw[Nat.or_comm,Nat.mul_comm,←Nat.two_pow_add_eq_or_of_lt h]
 omega
theorem pow128 (i:Nat):128 ^ i=2 ^ (7*i):=by rw[Nat.pow_mul]
theorem zf2 (s:List UInt8) (hs:s.length≤1099511627776):zeL s=some (readR (readN 7 s)):=by
 unfold zeL
 obtain ⟨r,hr,hq⟩:=zbi (ρ:=Ctl Unit (Int × Int)) (s0:=((0:Int),(0:Int))) (body:=fun (S1:Int × Int)=>(if (decide (S1.2<(7:Int)))=true then (some (decide (S1.2<(s.length:Int))))
 else (some false)).bind (fun (T5:Bool)=>
 if T5=true then ((sidx s S1.2).bind fun E9=>
 if (decide (((E9.toNat:Nat):Int)≥(128:Int)))=true then (some (.go (ior .i64 S1.1 (ishl .i64 (IntKind.i64.wrap (iand .u8 ((E9.toNat:Nat):Int) (127:Int))) (IntKind.u64.wrap (IntKind.i64.wrap ((7:Int)*S1.2)))),IntKind.i64.wrap (S1.2+(1:Int)))))
 else ((if (decide (((E9.toNat:Nat):Int)=(0:Int)))=true then (some (decide (S1.2>(0:Int))))
 else (some false)).bind (fun (T12:Bool)=>
 if T12=true then (some (.done (.done ((0:Int),(0:Int)))))
 else (some (.done (.done (ior .i64 S1.1 (ishl .i64 (IntKind.i64.wrap (iand .u8 ((E9.toNat:Nat):Int) (127:Int))) (IntKind.u64.wrap (IntKind.i64.wrap ((7:Int)*S1.2)))),IntKind.i64.wrap (S1.2+(1:Int)))))))))
 else (some (.done (.go ())))))
  (fun i S=>S.1=(numV (s.take i):Int)∧S.2=(i:Int)∧i≤s.length∧readR (readN 7 s)=readI (numV (s.take i)) i (readN (7 - i) (s.drop i))) 7 (fun r=>r= .done (readR (readN 7 s))∨(r= .go ()∧readR (readN 7 s)=(0,0))) ⟨by simp[numV],rfl,Nat.zero_le _,by simp[numV,zqJ]⟩ (by
    rintro i ⟨n,j⟩ hi ⟨h1,h2,h3,h4⟩
    simp only at h1 h2
    subst h1 h2
    rw[h4]
    simp only
    rw[decide_eq_true (by omega:((i:Int)<7))]
    simp only[if_true,Option.bind_some]
    by_cases hl:i<s.length
    ·have hd:s.drop i=s[i]::s.drop (i+1):=List.drop_eq_getElem_cons hl
     have ht:s.take (i+1)=s.take i++ [s[i]]:=by rw[List.take_add_one,List.getElem?_eq_getElem hl];rfl
     have hx:=s[i].toNat_lt
     have hn:=zhk (s.take i)
     rw[List.length_take,Nat.min_eq_left h3,pow128]at hn
     have hp:2 ^ (7*i)≤2 ^ 42:=Nat.pow_le_pow_right (by decide) (by omega)
     have hdm:s[i].toNat % 128<128:=Nat.mod_lt _ (by decide)
     have ea:iand .u8 ((s[i].toNat:Nat):Int) (127:Int)=((s[i].toNat % 128:Nat):Int):=by
      rw[show (127:Int)=((127:Nat):Int) from rfl,iand8 (by omega) (by decide),show s[i].toNat &&& 127=s[i].toNat % 128 from Nat.and_two_pow_sub_one_eq_mod _ 7]
     have eb:IntKind.u64.wrap (IntKind.i64.wrap ((7:Int)*(i:Int)))=((7*i:Nat):Int):=by rw[zb (by omega) (by omega),wrap64u];omega
     have hmul:s[i].toNat % 128*2 ^ (7*i)≤127*2 ^ 42:=Nat.mul_le_mul (by omega) hp
     have ec:ior .i64 (numV (s.take i):Int) (ishl .i64 (IntKind.i64.wrap ((s[i].toNat % 128:Nat):Int)) ((7*i:Nat):Int))=((numV (s.take i)+128 ^ i*(s[i].toNat % 128):Nat):Int):=by
      rw[zb (by omega) (by omega),ishl64 (by omega) (by omega),ior64 (by omega) (by omega),ztQ _ _ _ hn,pow128]
     rw[decide_eq_true (by omega:(i:Int)<(s.length:Int)),zeX s i hl,hd]
     simp only[if_true,Option.bind_some,ea,eb,ec]
     rw[zb (by omega) (by omega),show 7 - i=(7 - (i+1))+1 by omega]
     by_cases hc:s[i].toNat<128
     ·right
      refine ⟨_,?_,.inl rfl⟩
      rw[decide_eq_false (by omega: ¬((s[i].toNat:Nat):Int)≥128),readN,decide_eq_true hc]
      simp only[Bool.false_eq_true,if_false,cond_true,readI]
      have hm:s[i].toNat % 128=s[i].toNat:=Nat.mod_eq_of_lt hc
      rw[hm]
      by_cases hz:s[i].toNat=0
      ·by_cases h0:0<i
       ·rw[decide_eq_true (⟨hz,h0⟩:s[i].toNat=0∧0<i),decide_eq_true (by omega:((s[i].toNat:Nat):Int)=0),decide_eq_true (by omega:(i:Int)>0)]
        rfl
       ·rw[decide_eq_false (by omega: ¬(s[i].toNat=0∧0<i)),decide_eq_true (by omega:((s[i].toNat:Nat):Int)=0),decide_eq_false (by omega: ¬(i:Int)>0)]
        rfl
      ·rw[decide_eq_false (by omega: ¬(s[i].toNat=0∧0<i)),decide_eq_false (by omega: ¬((s[i].toNat:Nat):Int)=0)]
       rfl
     ·left
      rw[decide_eq_true (by omega:((s[i].toNat:Nat):Int)≥128)]
      have hns:numV (s.take (i+1))=numV (s.take i)+128 ^ i*(s[i].toNat % 128):=by
       rw[ht,zns,List.length_take,Nat.min_eq_left h3]
      refine ⟨(_,_),rfl,by rw[hns],by simp,by omega,?_⟩
      rw[zqI _ _ _ _ _ hc,hns]
    ·right
     have hd:s.drop i= []:=List.drop_eq_nil_of_le (by omega)
     rw[decide_eq_false (by omega: ¬(i:Int)<(s.length:Int)),hd,show 7 - i=(7 - (i+1))+1 by omega]
     exact ⟨.go (),rfl,.inr ⟨rfl,rfl⟩⟩) (by
 rintro ⟨n,j⟩ ⟨h1,h2,h3,h4⟩
 simp only at h1 h2
 subst h1 h2
 exact ⟨.go (),rfl,.inr ⟨rfl,h4⟩⟩)
 rw[hr]
 rcases hq with rfl | ⟨rfl,h⟩
 ·rfl
 ·rw[h];rfl
theorem ze3 (s:List UInt8) (a b:Nat) (h1:a≤b) (h2:b≤s.length):ssub s (a:Int) (b:Int)=some ((s.drop a).take (b - a)):=by
 unfold ssub
 rw[if_pos ⟨by omega,by omega,by omega⟩,Int.toNat_natCast,Int.toNat_natCast]
theorem zgw (s:List UInt8) (a:Nat) (h:a≤s.length):ssub s (a:Int) (s.length:Int)=some (s.drop a):=by
 rw[ze3 s a s.length h (Nat.le_refl _),List.take_of_length_le (by simp)]
theorem zsL {ρ:Type} (s:List UInt8) (k:Nat) (h1:1≤k) (h7:k≤7) (hk:k≤s.length):
 loopO (ρ:=Ctl Int ρ) (fun (S9:Int × Int)=>if (decide (S9.2≥(0:Int)))=true then ((sidx s S9.2).bind fun E14=>
 some (.go (IntKind.i64.wrap (IntKind.i64.wrap (S9.1*(128:Int))+(Int.tmod (IntKind.i64.wrap ((E14.toNat:Nat):Int)) (128:Int))),IntKind.i64.wrap (S9.2 - (1:Int)))))
 else (some (.done (.go S9.1))))
 ((0:Int),(k:Int) - 1)=some (.go (numV (s.take k):Int)):=by
 have hlen:(s.take k).length=k:=by rw[List.length_take];omega
 rw[zo (fun t=>((numV ((s.take k).drop (k - t)):Int),(k:Int) - 1 - (t:Int))) k (r:=Ctl.go (numV (s.take k):Int)) ?h0]
 case h0=>rw[show k - 0=k by omega,List.drop_of_length_le (by omega)];simp[numV]
 ·intro t ht
  have hi:(k:Int) - 1 - (t:Int)=((k - 1 - t:Nat):Int):=by omega
  have hd:(s.take k).drop (k - (t+1))=s[k - 1 - t]::(s.take k).drop (k - t):=by
   rw[show k - (t+1)=k - 1 - t by omega,List.drop_eq_getElem_cons (by omega),List.getElem_take]
   rw[show k - 1 - t+1=k - t by omega]
  have hx:=(s[k - 1 - t]).toNat_lt
  have hn:=zhk ((s.take k).drop (k - t))
  have hl:((s.take k).drop (k - t)).length=t:=by rw[List.length_drop,hlen];omega
  rw[hl]at hn
  have hp:128 ^ t≤128 ^ 6:=Nat.pow_le_pow_right (by decide) (by omega)
  have hm:Int.tmod (((s[k - 1 - t]).toNat:Nat):Int) (128:Int)=(((s[k - 1 - t]).toNat % 128:Nat):Int):=by rw[show (128:Int)=((128:Nat):Int) from rfl,←Int.ofNat_tmod]
  simp only[hi,zeX s (k - 1 - t) (by omega),Option.bind_some]
  rw[if_pos (by simp only[decide_eq_true_eq];omega),zb (n:=(((s[k - 1 - t]).toNat:Nat):Int)) (by omega) (by omega),hm,hd,numV]
  generalize numV ((s.take k).drop (k - t))=z at hn
  rw[zb (n:=(z:Int)*128) (by omega) (by omega),zb (by omega) (by omega),zb (by omega) (by omega)]
  congr 3
  ·omega
  ·omega
 ·rw[if_neg (by simp only[decide_eq_true_eq];omega)]
  simp
theorem zmk (s:List UInt8) (hs:s.length≤1099511627776):zef s=some (readR (readN 7 s)):=by
 unfold zef
 obtain ⟨r,hr,hq⟩:=zbi (ρ:=Ctl Unit (Int × Int)) (s0:=(1:Int)) (body:=fun (S1:Int)=>(if (decide (S1≤(7:Int)))=true then (some (decide (S1≤(s.length:Int))))
 else (some false)).bind (fun (T5:Bool)=>
 if T5=true then (bindC (loopO (fun (S9:Int × Int)=>if (decide (S9.2≥(0:Int)))=true then ((sidx s S9.2).bind fun E14=>
 some (.go (IntKind.i64.wrap (IntKind.i64.wrap (S9.1*(128:Int))+(Int.tmod (IntKind.i64.wrap ((E14.toNat:Nat):Int)) (128:Int))),IntKind.i64.wrap (S9.2 - (1:Int)))))
 else (some (.done (.go S9.1))))
 ((0:Int),IntKind.i64.wrap (S1 - (1:Int))))
 (fun (T11:Int)=>(ssub s 0 S1).bind fun E16=>
 (zeZ T11).bind fun R18=>
 if (decide (R18=E16))=true then (some (.done (.done (T11,S1))))
 else (some (.go (IntKind.i64.wrap (S1+(1:Int)))))))
 else (some (.done (.go ())))))
  (fun i S=>S=((i+1:Nat):Int)∧∀j,1≤j→j≤i→j≤s.length→varN 6 (numV (s.take j))≠s.take j) 7 (fun r=>(∃n k,readN 7 s=some (n,k)∧r= .done ((n:Int),(k:Int)))∨(readN 7 s=none∧r= .go ())) ⟨rfl,fun j h1 h2=>by omega⟩ (by
    rintro i S hi ⟨rfl,h⟩
    rw[decide_eq_true (by omega:((i+1:Nat):Int)≤7)]
    simp only[if_true,Option.bind_some]
    by_cases hl:i+1≤s.length
    ·rw[decide_eq_true (by omega:((i+1:Nat):Int)≤(s.length:Int)),zb (n:=((i+1:Nat):Int) - 1) (by omega) (by omega)]
     simp only[if_true]
     rw[zsL s (i+1) (by omega) (by omega) hl]
     have hsub:ssub s 0 ((i+1:Nat):Int)=some (s.take (i+1)):=ze3 s 0 (i+1) (by omega) hl
     have hn:=zhk (s.take (i+1))
     rw[List.length_take,Nat.min_eq_left hl]at hn
     have hp:128 ^ (i+1)≤128 ^ 7:=Nat.pow_le_pow_right (by decide) (by omega)
     have hv:varV (numV (s.take (i+1)):Int)=varN 6 (numV (s.take (i+1))):=by
      unfold varV
      rw[decide_eq_true (by omega),cond_true,Int.toNat_natCast]
     simp only[zf,hsub,Option.bind_some,zk3,hv]
     by_cases he:varN 6 (numV (s.take (i+1)))=s.take (i+1)
     ·right
      rw[decide_eq_true he]
      refine ⟨_,rfl,.inl ⟨numV (s.take (i+1)),i+1,?_,rfl⟩⟩
      cases hr:readN 7 s with
      | none=>exact absurd he (zme 7 s hr 6 (i+1) (by omega) (by omega) (by omega) hl)
      | some p=>
        obtain ⟨n,k⟩:=p
        obtain ⟨_,_,_,h4,_,h6⟩:=zdJ 7 s n k hr
        have:=h6 6 (i+1) (by omega) (by omega) hl he
        subst this
        rw[h4]
     ·left
      rw[decide_eq_false he]
      refine ⟨_,rfl,by rw[zb (by omega) (by omega)];omega,fun j h1 h2 h3=>?_⟩
      by_cases e:j=i+1
      ·subst e;exact he
      ·exact h j h1 (by omega) h3
    ·right
     rw[decide_eq_false (by omega: ¬((i+1:Nat):Int)≤(s.length:Int))]
     refine ⟨.go (),rfl,.inr ⟨?_,rfl⟩⟩
     cases hr:readN 7 s with
     | none=>rfl
     | some p=>
       obtain ⟨n,k⟩:=p
       obtain ⟨h1,_,h3,h4,h5,_⟩:=zdJ 7 s n k hr
       rw[h4]at h5
       exact absurd h5 (h k h1 (by omega) h3)) (by
 rintro S ⟨rfl,h⟩
 refine ⟨.go (),rfl,.inr ⟨?_,rfl⟩⟩
 cases hr:readN 7 s with
 | none=>rfl
 | some p=>
 obtain ⟨n,k⟩:=p
 obtain ⟨h1,h2,h3,h4,h5,_⟩:=zdJ 7 s n k hr
 rw[h4]at h5
 exact absurd h5 (h k h1 h2 h3))
 rw[hr]
 rcases hq with ⟨n,k,e,rfl⟩ | ⟨e,rfl⟩
 ·rw[e];rfl
 ·rw[e];rfl
def l6V (s:List UInt8):Nat→Nat→List Int × Int
 | 0,a=>([],(a:Int))
 | n+1,a=>bif decide (s.length<a) then ([],-1) else match readN 7 (s.drop a) with
   | some (x,k)=>((x:Int)::(l6V s n (a+k)).1,(l6V s n (a+k)).2)
   | none=>([],-1)
theorem zm6 (s:List UInt8) (a n:Nat) (hs:s.length≤1099511627776) (hn:n≤1048576) (ha:a≤2199023255552):zex s (a:Int) (n:Int)=some (l6V s n a):=by
 unfold zex
 have key: ∀(m i a:Nat) (out:List Int),i+m=n→out.length=i→a≤2199023255552→
  bindC (loopO (fun (S2:Int × Int × List Int)=>if (decide (S2.2.1<(n:Int)))=true then ((if (decide (S2.1<(0:Int)))=true then (some true)
 else (some (decide (S2.1>(s.length:Int))))).bind (fun (T7:Bool)=>
 if T7=true then (some (.done (.done (S2.2.2,(-1:Int)))))
 else ((ssub s S2.1 (s.length:Int)).bind fun E11=>
 (zef E11).bind fun R13=>
 if (decide (R13.2=(0:Int)))=true then (some (.done (.done (S2.2.2,(-1:Int)))))
 else ((app 8 S2.2.2 ([R13.1])).bind fun E19=>
 some (.go (IntKind.i64.wrap (S2.1+R13.2),IntKind.i64.wrap (S2.2.1+(1:Int)),E19))))))
 else (some (.done (.go (S2.1,S2.2.2)))))
 ((a:Int),(i:Int),out)) (fun (T4:Int × List Int)=>some (T4.2,T4.1))=some (out++(l6V s m a).1,(l6V s m a).2):=by
  intro m
  induction m with
  | zero=>
    intro i a out hi ho ha
    rw[zR]
    simp only
    rw[if_neg (by simp only[decide_eq_true_eq];omega)]
    simp[l6V]
  | succ m ih=>
    intro i a out hi ho ha
    rw[zR]
    simp only
    rw[if_pos (by simp only[decide_eq_true_eq];omega),decide_eq_false (by omega: ¬(a:Int)<0)]
    simp only[Bool.false_eq_true,if_false,Option.bind_some,l6V]
    by_cases hl:s.length<a
    ·rw[decide_eq_true hl,decide_eq_true (by omega:(a:Int)>(s.length:Int))]
     simp
    ·rw[decide_eq_false hl,decide_eq_false (by omega: ¬(a:Int)>(s.length:Int))]
     simp only[Bool.false_eq_true,if_false,zgw s a (by omega),Option.bind_some,zmk (s.drop a) (by simp;omega),cond_false]
     cases hr:readN 7 (s.drop a) with
     | none=>simp[readR]
     | some p=>
       obtain ⟨x,k⟩:=p
       obtain ⟨h1,h2,_⟩:=zdJ 7 _ x k hr
       have hk0:decide ((readR (some (x,k))).2=0)=false:=decide_eq_false (by show ¬(k:Int)=0;omega)
       rw[hk0]
       simp only[Bool.false_eq_true,if_false,readR]
       rw[zm (by simp;omega) (by simp;omega)]
       simp only[Option.bind_some]
       rw[zb (n:=(a:Int)+(k:Int)) (by omega) (by omega),zb (n:=(i:Int)+1) (by omega) (by omega)]
       have:=ih (i+1) (a+k) (out++ [(x:Int)]) (by omega) (by simp;omega) (by omega)
       rw[show ((a:Int)+(k:Int))=((a+k:Nat):Int) by omega,show ((i:Int)+1)=((i+1:Nat):Int) by omega,this,List.append_assoc]
       rfl
 have:=key n 0 a [] (by omega) rfl ha
 simpa using this
def nonceV (kind n:Int):List UInt8:=bif decide (0≤kind∧kind≤255)&&decide (0≤n∧n≤562949953421311) then [toU8 kind,0,0,0,0]++fixedV n 7 else []
theorem zii (n:Int) (h:0≤n∧n≤562949953421311):(fixedV n 7).length=7:=by
 unfold fixedV
 have h1:n.toNat / 256 ^ (7:Int).toNat=0:=Nat.div_eq_of_lt (by show n.toNat<256 ^ 7;omega)
 rw[decide_eq_true h.1,decide_eq_true h1]
 show (fixV n.toNat 7).length=7
 exact ziZ _ 7
theorem zmj (kind n:Int):zeY kind n=some (nonceV kind n):=by
 unfold zeY nonceV
 rw[zcq,zcq]
 by_cases h1:0≤kind∧kind≤255
 ·by_cases h2:0≤n∧n≤562949953421311
  ·rw[decide_eq_true h1,decide_eq_true h2]
   simp only[Option.bind_some,Bool.not_true,Bool.false_eq_true,if_false,Bool.and_self,cond_true,zn5 n 7 (by omega)]
   rw[zcO (by rw[zii n h2];show 5+7≤9223372036854775807;decide)]
   rfl
  ·rw[decide_eq_true h1,decide_eq_false h2]
   rfl
 ·rw[decide_eq_false h1]
  rfl
theorem zf1 (kind n:Int):zdW kind n=some (nonceV kind n):=by
 unfold zdW nonceV
 rw[zY,zY]
 by_cases h1:0≤kind∧kind≤255
 ·by_cases h2:0≤n∧n≤562949953421311
  ·rw[decide_eq_true h1,decide_eq_true h2]
   simp only[Option.bind_some,Bool.not_true,Bool.false_eq_true,if_false,Bool.and_self,cond_true,znU n 7 (by omega)]
   rw[zcO (by rw[zii n h2];show 5+7≤9223372036854775807;decide)]
   rfl
  ·rw[decide_eq_true h1,decide_eq_false h2]
   rfl
 ·rw[decide_eq_false h1]
  rfl
theorem zoY: ∀(f n:Nat),(varN f n).length≤f+1
 | 0,n=>Nat.le_refl _
 | f+1,n=>by
   by_cases h:n<128
   ·rw[zfn h];simp
   ·rw[zhl (by omega),List.length_cons]
    have:=zoY f (n / 128)
    omega
theorem zdP (n:Int):(varV n).length≤7:=by
 unfold varV
 cases decide (0≤n∧n≤562949953421311)
 ·simp
 ·exact zoY 6 _
def mintOk (secret:List UInt8) (t e:Int):Bool:=decide (secret.length=32)&&(decide (1≤t∧t≤99)&&decide (0≤e∧e≤1000000))
theorem zjd {secret:List UInt8} {t e:Int} (h:mintOk secret t e=true):secret.length=32∧(1≤t∧t≤99)∧0≤e∧e≤1000000:=by
 unfold mintOk at h
 simp only[Bool.and_eq_true,decide_eq_true_eq]at h
 exact h
noncomputable def mintV (secret:List UInt8) (t e:Int):List UInt8:=bif mintOk secret t e then varV t++varV e++(chaV secret e (nonceV 2 t)).take 8 else []
theorem zlv {secret:List UInt8} {t e:Int} (h:mintOk secret t e=true):(chaV secret e (nonceV 2 t)).length=64:=by
 obtain ⟨h1,h2,h3⟩:=zjd h
 refine ziW _ _ _ ?_
 have hn:(nonceV 2 t).length=12:=by
  unfold nonceV
  rw[decide_eq_true (by omega:(0:Int)≤2∧(2:Int)≤255),decide_eq_true (by omega:0≤t∧t≤562949953421311)]
  simp only[Bool.and_self,cond_true,List.length_append,zii t (by omega)]
  rfl
 unfold chaOk
 rw[decide_eq_true h1,decide_eq_true hn,decide_eq_true (by omega)]
 rfl
theorem zgZ (secret:List UInt8) (t e:Int):zdd secret t e=some (mintV secret t e):=by
 unfold zdd mintV
 have e1:decide ((secret.length:Int)=32)=decide (secret.length=32):=decide_eq_decide.2 (by omega)
 rw[e1,zcq,zcq]
 cases hok:mintOk secret t e with
 | true=>
   have hc:=zlv hok
   obtain ⟨h1,h2,h3⟩:=zjd hok
   have l1:=zdP t
   have l2:=zdP e
   rw[decide_eq_true h1,decide_eq_true h2,decide_eq_true h3]
   simp only[Option.bind_some,Bool.not_true,Bool.false_eq_true,if_false,cond_true,zk3,zmj,zlC]
   rw[zcO (by omega)]
   simp only[Option.bind_some]
   rw[show ssub (chaV secret e (nonceV 2 t)) 0 (8:Int)=some ((chaV secret e (nonceV 2 t)).take 8) from ze3 _ 0 8 (by omega) (by omega)]
   simp only[Option.bind_some]
   rw[zcO (by rw[List.length_append,List.length_take];omega)]
   rfl
 | false=>
   unfold mintOk at hok
   cases a1:decide (secret.length=32) with
   | false=>rfl
   | true=>
     cases a2:decide (1≤t∧t≤99) with
     | false=>rfl
     | true=>
       cases a3:decide (0≤e∧e≤1000000) with
       | false=>rfl
       | true=>rw[a1,a2,a3]at hok;cases hok
theorem zdT (secret:List UInt8) (t e:Int):zcn secret t e=some (mintV secret t e):=by
 unfold zcn mintV zbp zcJ
 have e1:decide ((secret.length:Int)=32)=decide (secret.length=32):=decide_eq_decide.2 (by omega)
 rw[e1,zY,zY]
 cases hok:mintOk secret t e with
 | true=>
   have hc:=zlv hok
   obtain ⟨h1,h2,h3⟩:=zjd hok
   have l1:=zdP t
   have l2:=zdP e
   rw[decide_eq_true h1,decide_eq_true h2,decide_eq_true h3]
   simp only[Option.bind_some,Bool.not_true,Bool.false_eq_true,if_false,cond_true,zik,zf1,zht]
   rw[zcO (by omega)]
   simp only[Option.bind_some]
   rw[show ssub (chaV secret e (nonceV 2 t)) 0 (8:Int)=some ((chaV secret e (nonceV 2 t)).take 8) from ze3 _ 0 8 (by omega) (by omega)]
   simp only[Option.bind_some]
   rw[zcO (by rw[List.length_append,List.length_take];omega)]
   rfl
 | false=>
   unfold mintOk at hok
   cases a1:decide (secret.length=32) with
   | false=>rfl
   | true=>
     cases a2:decide (1≤t∧t≤99) with
     | false=>rfl
     | true=>
       cases a3:decide (0≤e∧e≤1000000) with
       | false=>rfl
       | true=>rw[a1,a2,a3]at hok;cases hok
theorem zgG {s:List UInt8} {n k:Nat} (h:readN 7 s=some (n,k)):varV (n:Int)=s.take k∧k≤s.length∧1≤k∧k≤7:=by
 obtain ⟨h1,h2,h3,h4,h5,_⟩:=zdJ 7 s n k h
 have hn:=zhk (s.take k)
 rw[List.length_take,Nat.min_eq_left h3,←h4]at hn
 have hp:128 ^ k≤128 ^ 7:=Nat.pow_le_pow_right (by decide) h2
 refine ⟨?_,h3,h1,h2⟩
 unfold varV
 rw[decide_eq_true (by omega),cond_true,Int.toNat_natCast]
 exact h5
noncomputable def tokR (secret s:List UInt8):Int × Int × Bool:=match readN 7 s with
 | none=>(0,0,false)
 | some (t,k1)=>match readN 7 (s.drop k1) with
   | none=>(0,0,false)
   | some (e,_)=>bif decide (mintV secret t e=s) then ((t:Int),(e:Int),true) else (0,0,false)
theorem zsJ {secret s:List UInt8} {t k1 e k2:Nat} (h1:readN 7 s=some (t,k1)) (h2:readN 7 (s.drop k1)=some (e,k2)) (hm:mintV secret t e=s):s.length=k1+k2+8:=by
 obtain ⟨v1,b1,c1,_⟩:=zgG h1
 obtain ⟨v2,b2,c2,_⟩:=zgG h2
 rw[List.length_drop]at b2
 unfold mintV at hm
 cases hok:mintOk secret t e with
 | false=>
   rw[hok]at hm
   have:=congrArg List.length hm
   simp at this
   omega
 | true=>
   rw[hok]at hm
   have hc:=zlv hok
   have:=congrArg List.length hm
   rw[cond_true,v1,v2,List.length_append,List.length_append,List.length_take,List.length_take,List.length_take,hc,List.length_drop]at this
   omega
theorem zkS (secret s:List UInt8) (hs:s.length≤1099511627776):zee secret s=some (tokR secret s):=by
 unfold zee tokR
 rw[show zex s (0:Int) (2:Int)=some (l6V s 2 0) from zm6 s 0 2 hs (by decide) (by decide)]
 simp only[Option.bind_some]
 cases h1:readN 7 s with
 | none=>
   have e:l6V s 2 0=([],-1):=by
    rw[l6V,decide_eq_false (by omega),cond_false,List.drop_zero,h1]
   rw[e]
   rfl
 | some p=>
   obtain ⟨t,k1⟩:=p
   obtain ⟨v1,b1,c1,_⟩:=zgG h1
   simp only
   cases h2:readN 7 (s.drop k1) with
   | none=>
     have e:l6V s 2 0=([(t:Int)],-1):=by
      rw[l6V,decide_eq_false (by omega),cond_false,List.drop_zero,h1]
      simp only[Nat.zero_add,l6V]
      rw[decide_eq_false (by omega),cond_false,h2]
     rw[e]
     rfl
   | some q=>
     obtain ⟨e,k2⟩:=q
     have ev:l6V s 2 0=([(t:Int),(e:Int)],((k1+k2:Nat):Int)):=by
      rw[l6V,decide_eq_false (by omega),cond_false,List.drop_zero,h1]
      simp only[Nat.zero_add,l6V]
      rw[decide_eq_false (by omega),cond_false,h2]
     have hne: ¬s= []:=by intro h;rw[h]at b1;simp at b1;omega
     have i0:idx [(t:Int),(e:Int)] (0:Int)=some (t:Int):=rfl
     have i1:idx [(t:Int),(e:Int)] (1:Int)=some (e:Int):=rfl
     rw[ev]
     simp only
     rw[decide_eq_false (by omega: ¬((k1+k2:Nat):Int)<0),decide_eq_false hne]
     simp only[Bool.false_eq_true,if_false,i0,i1,Option.bind_some,zgZ]
     cases decide (mintV secret (t:Int) (e:Int)=s)<;>rfl
theorem zgW (secret s:List UInt8) (hs:s.length≤1099511627776):zc7 secret s=some (tokR secret s):=by
 unfold zc7 tokR zZ
 simp only[Bool.false_eq_true,if_false]
 rw[show ssub s (0:Int) (s.length:Int)=some s from zgw s 0 (Nat.zero_le _)]
 simp only[Option.bind_some,zf2 s hs]
 cases h1:readN 7 s with
 | none=>rfl
 | some p=>
   obtain ⟨t,k1⟩:=p
   obtain ⟨v1,b1,c1,_⟩:=zgG h1
   have hk0:decide ((readR (some (t,k1))).2=0)=false:=decide_eq_false (by show ¬(k1:Int)=0;omega)
   rw[hk0]
   simp only[Bool.false_eq_true,if_false,Option.bind_some,readR]
   rw[zb (n:=(0:Int)+(k1:Int)) (by omega) (by omega),show (0:Int)+(k1:Int)=((k1:Nat):Int) by omega,zgw s k1 b1]
   simp only[Option.bind_some,zf2 (s.drop k1) (by simp;omega)]
   cases h2:readN 7 (s.drop k1) with
   | none=>rfl
   | some q=>
     obtain ⟨e,k2⟩:=q
     obtain ⟨v2,b2,c2,_⟩:=zgG h2
     rw[List.length_drop]at b2
     have hk1:decide ((readR (some (e,k2))).2=0)=false:=decide_eq_false (by show ¬(k2:Int)=0;omega)
     rw[hk1]
     simp only[Bool.false_eq_true,if_false,Option.bind_some,readR]
     rw[zb (n:=(k1:Int)+(k2:Int)) (by omega) (by omega)]
     unfold zbt zco
     simp only[Bool.false_eq_true,if_false,Option.bind_some]
     rw[zb (n:=(s.length:Int) - ((k1:Int)+(k2:Int))) (by omega) (by omega)]
     by_cases hm:mintV secret t e=s
     ·have hl:=zsJ h1 h2 hm
      rw[decide_eq_true hm,decide_eq_false (by omega: ¬(8:Int)>(s.length:Int) - ((k1:Int)+(k2:Int)))]
      simp only[Bool.false_eq_true,if_false]
      rw[zb (n:=(k1:Int)+(k2:Int)+8) (by omega) (by omega),zb (n:=(k1:Int)+(k2:Int)+8 - 8) (by omega) (by omega)]
      rw[show (k1:Int)+(k2:Int)+8 - 8=((k1+k2:Nat):Int) by omega,show (k1:Int)+(k2:Int)+8=((k1+k2+8:Nat):Int) by omega,ze3 s (k1+k2) (k1+k2+8) (by omega) (by omega)]
      simp only[Option.bind_some]
      rw[decide_eq_true (by omega:((k1+k2+8:Nat):Int)=(s.length:Int))]
      simp only[Bool.not_false,Bool.not_true,if_true,Option.bind_some,Bool.false_eq_true,if_false,zdT]
      rw[decide_eq_true hm]
      rfl
     ·rw[decide_eq_false hm]
      by_cases h8:(8:Int)>(s.length:Int) - ((k1:Int)+(k2:Int))
      ·rw[decide_eq_true h8]
       rfl
      ·rw[decide_eq_false h8]
       simp only[Bool.false_eq_true,if_false]
       rw[zb (n:=(k1:Int)+(k2:Int)+8) (by omega) (by omega),zb (n:=(k1:Int)+(k2:Int)+8 - 8) (by omega) (by omega)]
       rw[show (k1:Int)+(k2:Int)+8 - 8=((k1+k2:Nat):Int) by omega,show (k1:Int)+(k2:Int)+8=((k1+k2+8:Nat):Int) by omega,ze3 s (k1+k2) (k1+k2+8) (by omega) (by omega)]
       simp only[Option.bind_some,zdT]
       rw[decide_eq_false hm]
       cases decide (((k1+k2+8:Nat):Int)=(s.length:Int))<;>rfl
noncomputable def whoseV (secret:List UInt8) (c:Call):Int:=bif decide (5≤c.Kind∧c.Kind≤11) then (tokR secret c.Token).1 else 0
theorem zqU {secret s:List UInt8} (h:(tokR secret s).2.2=false):(tokR secret s).1=0:=by
 unfold tokR at h ⊢
 cases h1:readN 7 s with
 | none=>rfl
 | some p=>
   obtain ⟨t,k1⟩:=p
   rw[h1]at h
   simp only at h ⊢
   cases h2:readN 7 (s.drop k1) with
   | none=>rfl
   | some q=>
     obtain ⟨e,k2⟩:=q
     rw[h2]at h
     simp only at h ⊢
     cases hd:decide (mintV secret (t:Int) (e:Int)=s) with
     | false=>rfl
     | true=>rw[hd]at h;cases h
theorem zjz (secret:List UInt8) (c:Call) (h:c.Token.length≤1048576):zfi secret c=some (whoseV secret c):=by
 unfold zfi whoseV
 rw[zkS secret c.Token (by omega),zcq]
 simp only[Option.bind_some]
 cases hb:(tokR secret c.Token).2.2 with
 | false=>rw[zqU hb];cases decide (5≤c.Kind∧c.Kind≤11)<;>rfl
 | true=>cases decide (5≤c.Kind∧c.Kind≤11)<;>rfl
theorem zju (secret:List UInt8) (c:Call) (h:c.Token.length≤1048576):zfa secret c=some (whoseV secret c):=by
 unfold zfa whoseV zeD
 rw[zgW secret c.Token (by omega),zY]
 simp only[Option.bind_some]
 cases decide (5≤c.Kind∧c.Kind≤11)<;>rfl
noncomputable def skipV (secret:List UInt8) (tenant:Int) (c:Call):Bool:=(!decide (whoseV secret c=0)&& !decide (whoseV secret c=tenant))||(decide (c.Kind=13)&& !decide (c.Tenant=tenant))
theorem zp4 (w tenant k t:Int):(if (!(decide (w=(0:Int))))=true then (if (!(decide (w=tenant)))=true then (some true)
 else (if (decide (k=(13:Int)))=true then (some (!(decide (t=tenant))))
 else (some false)))
 else (if (decide (k=(13:Int)))=true then (some (!(decide (t=tenant))))
 else (some false)))=some ((!decide (w=0)&& !decide (w=tenant))||(decide (k=13)&& !decide (t=tenant))):=by
 cases decide (w=0)<;>cases decide (w=tenant)<;>cases decide (k=13)<;>cases decide (t=tenant)<;>rfl
noncomputable def aloneV (secret:List UInt8) (tenant:Int) (l:List Call):List Call:=l.filter fun c=>!skipV secret tenant c
theorem zn4 (secret:List UInt8) (tenant:Int) (l:List Call) (h:l.length≤1048576) (h2: ∀c∈l,c.Token.length≤1048576∧c.Ops.length≤1048576):zge secret l tenant=some (aloneV secret tenant l):=by
 unfold zge aloneV
 rw[zo (fun k=>((k:Int),(l.take k).filter fun c=>!skipV secret tenant c)) l.length (r:=Ctl.go (l.filter fun c=>!skipV secret tenant c)) ?h0]
 case h0=>rfl
 ·rfl
 ·intro k hk
  have hlen:=ziX (fun c=>!skipV secret tenant c) l k
  obtain ⟨q1,q2⟩:=h2 _ (List.getElem_mem hk)
  simp only[ze l k hk,Option.bind_some,zjz secret l[k] q1,zp4,zig _ l k hk]
  rw[if_pos (by simpa using hk),zb (n:=(k:Int)+1) (by omega) (by omega)]
  have hs:((!decide (whoseV secret l[k]=0)&& !decide (whoseV secret l[k]=tenant))||(decide (l[k].Kind=13)&& !decide (l[k].Tenant=tenant)))=skipV secret tenant l[k]:=rfl
  rw[hs]
  cases skipV secret tenant l[k] with
  | true=>simp
  | false=>
    unfold zgh
    rw[zm (by simp;omega) (by simp;omega)]
    simp only[List.nil_append,Option.bind_some,Bool.false_eq_true,if_false,Bool.not_false,if_true]
    rw[zm (by simp only[List.length_cons,List.length_nil];omega) (by simp only[List.length_cons,List.length_nil];omega)]
    simp
 ·simp
theorem znT (secret:List UInt8) (tenant:Int) (l:List Call) (h:l.length≤1048576) (h2: ∀c∈l,c.Token.length≤1048576∧c.Ops.length≤1048576):zfY secret l tenant=some (aloneV secret tenant l):=by
 unfold zfY aloneV
 rw[zo (fun k=>((k:Int),(l.take k).filter fun c=>!skipV secret tenant c)) l.length (r:=Ctl.go (l.filter fun c=>!skipV secret tenant c)) ?h0]
 case h0=>rfl
 ·rfl
 ·intro k hk
  have hlen:=ziX (fun c=>!skipV secret tenant c) l k
  obtain ⟨q1,q2⟩:=h2 _ (List.getElem_mem hk)
  simp only[ze l k hk,Option.bind_some,zju secret l[k] q1,zp4,zig _ l k hk]
  rw[if_pos (by simpa using hk),zb (n:=(k:Int)+1) (by omega) (by omega)]
  have hs:((!decide (whoseV secret l[k]=0)&& !decide (whoseV secret l[k]=tenant))||(decide (l[k].Kind=13)&& !decide (l[k].Tenant=tenant)))=skipV secret tenant l[k]:=rfl
  rw[hs]
  cases skipV secret tenant l[k] with
  | true=>simp
  | false=>
    rw[zm (by simp;omega) (by simp;omega)]
    simp only[List.nil_append,Option.bind_some,Bool.false_eq_true,if_false,Bool.not_false,if_true]
    rw[zm (by simp only[List.length_cons,List.length_nil];omega) (by simp only[List.length_cons,List.length_nil];omega)]
    simp
 ·simp
noncomputable def toldV (secret:List UInt8) (tenant:Int) (l:List Call) (r:List Reply):Nat→List Reply
 | 0=>[]
 | k+1=>toldV secret tenant l r k++(match l[k]?,r[k]? with | some c,some x=>bif decide (whoseV secret c=tenant) then [x] else [] | _,_=>[])
theorem zhg (secret:List UInt8) (tenant:Int) (l:List Call) (r:List Reply) (k:Nat) (h1:k<l.length) (h2:k<r.length):toldV secret tenant l r (k+1)=toldV secret tenant l r k++bif decide (whoseV secret l[k]=tenant) then [r[k]] else []:=by
 show toldV secret tenant l r k++(match l[k]?,r[k]? with | some c,some x=>_ | _,_=>_)=_
 rw[List.getElem?_eq_getElem h1,List.getElem?_eq_getElem h2]
theorem zkn (secret:List UInt8) (tenant:Int) (l:List Call) (r:List Reply): ∀k,(toldV secret tenant l r k).length≤k∧∀x∈toldV secret tenant l r k,x∈r
 | 0=>⟨Nat.le_refl _,fun x hx=>by cases hx⟩
 | k+1=>by
   obtain ⟨h1,h2⟩:=zkn secret tenant l r k
   by_cases c1:k<l.length
   ·by_cases c2:k<r.length
    ·rw[zhg secret tenant l r k c1 c2]
     cases decide (whoseV secret l[k]=tenant)
     ·simp only[cond_false,List.append_nil];exact ⟨by omega,h2⟩
     ·simp only[cond_true,List.length_append,List.length_cons,List.length_nil]
      refine ⟨by omega,fun x hx=>?_⟩
      rcases List.mem_append.1 hx with h | h
      ·exact h2 x h
      ·rw[List.mem_singleton]at h;rw[h];exact List.getElem_mem c2
    ·have e:toldV secret tenant l r (k+1)=toldV secret tenant l r k:=by
      show toldV secret tenant l r k++(match l[k]?,r[k]? with | some c,some x=>_ | _,_=>_)=_
      rw[List.getElem?_eq_getElem c1,List.getElem?_eq_none (by omega)]
      simp
     rw[e];exact ⟨by omega,h2⟩
   ·have e:toldV secret tenant l r (k+1)=toldV secret tenant l r k:=by
     show toldV secret tenant l r k++(match l[k]?,r[k]? with | some c,some x=>_ | _,_=>_)=_
     rw[List.getElem?_eq_none (by omega)]
     simp
    rw[e];exact ⟨by omega,h2⟩
noncomputable def toldR (secret:List UInt8) (tenant:Int) (l:List Call) (r:List Reply):List Reply:=bif decide (l.length=r.length)&& !decide (tenant=0) then toldV secret tenant l r l.length else []
theorem zoQ (secret:List UInt8) (tenant:Int) (l:List Call) (r:List Reply) (h:l.length≤1048576) (h2: ∀c∈l,c.Token.length≤1048576∧c.Ops.length≤1048576) (h3: ∀x∈r,x.List.length≤1048576):zgI secret l r tenant=some (toldR secret tenant l r):=by
 unfold zgI toldR
 by_cases hlr:l.length=r.length
 ·rw[decide_eq_true hlr,decide_eq_true (by omega:(l.length:Int)=(r.length:Int))]
  by_cases h0:tenant=0
  ·rw[decide_eq_true h0]
   rw[zo (fun k=>((k:Int),([]:List Reply))) l.length (r:=Ctl.go []) ?h0]
   case h0=>rfl
   ·rfl
   ·intro k hk
    simp only
    rw[if_pos (by simpa using hk),zb (n:=(k:Int)+1) (by omega) (by omega)]
    rfl
   ·simp
  ·rw[decide_eq_false h0]
   simp only[Bool.not_false,if_true,Bool.and_self,cond_true]
   rw[zo (fun k=>((k:Int),toldV secret tenant l r k)) l.length (r:=Ctl.go (toldV secret tenant l r l.length)) ?h1]
   case h1=>rfl
   ·rfl
   ·intro k hk
    have hkr:k<r.length:=by omega
    obtain ⟨q1,q2⟩:=h2 _ (List.getElem_mem hk)
    have q3:=h3 _ (List.getElem_mem hkr)
    have hlen:=(zkn secret tenant l r k).1
    simp only[ze l k hk,ze r k hkr,Option.bind_some,zjz secret l[k] q1,zhg secret tenant l r k hk hkr]
    rw[if_pos (by simpa using hk),zb (n:=(k:Int)+1) (by omega) (by omega)]
    cases decide (whoseV secret l[k]=tenant) with
    | false=>simp
    | true=>
      simp only[Option.bind_some,if_true]
      rw[zm (by simp;omega) (by simp;omega)]
      simp only[List.nil_append,Option.bind_some]
      rw[zm (by simp only[List.length_cons,List.length_nil];omega) (by simp only[List.length_cons,List.length_nil];omega)]
      simp
   ·simp
 ·rw[decide_eq_false hlr,decide_eq_false (by omega: ¬(l.length:Int)=(r.length:Int))]
  rw[zR]
  simp
theorem zj0 (secret:List UInt8) (tenant:Int) (l:List Call) (r:List Reply) (h:l.length≤1048576) (h2: ∀c∈l,c.Token.length≤1048576∧c.Ops.length≤1048576) (h3: ∀x∈r,x.List.length≤1048576):zfJ secret l r tenant=some (toldR secret tenant l r):=by
 unfold zfJ toldR
 by_cases h0:tenant=0
 ·rw[decide_eq_true h0]
  cases decide (l.length=r.length)<;>rfl
 ·rw[decide_eq_false h0]
  by_cases hlr:l.length=r.length
  ·rw[decide_eq_true hlr,decide_eq_true (by omega:(l.length:Int)=(r.length:Int))]
   simp only[Bool.false_eq_true,if_false,Option.bind_some,Bool.not_true,Bool.not_false,Bool.and_self,cond_true]
   rw[zo (fun k=>((k:Int),toldV secret tenant l r k)) l.length (r:=Ctl.go (toldV secret tenant l r l.length)) ?h1]
   case h1=>rfl
   ·rfl
   ·intro k hk
    have hkr:k<r.length:=by omega
    obtain ⟨q1,q2⟩:=h2 _ (List.getElem_mem hk)
    have q3:=h3 _ (List.getElem_mem hkr)
    have hlen:=(zkn secret tenant l r k).1
    simp only[ze l k hk,ze r k hkr,Option.bind_some,zju secret l[k] q1,zhg secret tenant l r k hk hkr]
    rw[if_pos (by simpa using hk),zb (n:=(k:Int)+1) (by omega) (by omega)]
    cases decide (whoseV secret l[k]=tenant) with
    | false=>simp
    | true=>
      simp only[Option.bind_some,if_true]
      rw[zm (by simp;omega) (by simp;omega)]
      simp only[List.nil_append,Option.bind_some]
      rw[zm (by simp only[List.length_cons,List.length_nil];omega) (by simp only[List.length_cons,List.length_nil];omega)]
      simp
   ·simp
  ·rw[decide_eq_false hlr,decide_eq_false (by omega: ¬(l.length:Int)=(r.length:Int))]
   rfl
def pieceV (s:List UInt8):List UInt8:=varV (s.length:Int)++s
theorem zjy (s:List UInt8) (h:s.length≤1099511627776):zfd s=some (pieceV s):=by
 unfold zfd pieceV
 have:=zdP (s.length:Int)
 rw[zik]
 simp only[Option.bind_some]
 rw[zcO (by omega)]
 rfl
theorem zhe (s:List UInt8):(pieceV s).length≤7+s.length:=by
 have:=zdP (s.length:Int)
 unfold pieceV
 rw[List.length_append];omega
theorem zlh {α:Type} (g:α→List UInt8) (m:Nat): ∀(l:List α),(∀x∈l,(g x).length≤m)→(l.flatMap g).length≤m*l.length
 | [],_=>by simp
 | x::l,h=>by
   have h1:=h x (by simp)
   have h2:=zlh g m l fun y hy=>h y (by simp[hy])
   rw[List.flatMap_cons,List.length_append,List.length_cons,Nat.mul_succ]
   omega
theorem zrl {α:Type} (g:α→List UInt8) (l:List α) (k:Nat) (h:k<l.length):(l.take (k+1)).flatMap g=(l.take k).flatMap g++g l[k]:=by
 rw[List.take_add_one,List.getElem?_eq_getElem h,List.flatMap_append]
 simp
theorem znS {α:Type} (g:α→List UInt8) (m:Nat) (l:List α) (k:Nat) (h: ∀x∈l,(g x).length≤m):((l.take k).flatMap g).length≤m*l.length:=by
 have h1:=zlh g m (l.take k) fun x hx=>h x (List.mem_of_mem_take hx)
 have h2:m*(l.take k).length≤m*l.length:=Nat.mul_le_mul_left _ (by simp;omega)
 omega
theorem ztI (f n:Nat):varN f n≠[]:=by
 by_cases h:n<128
 ·rw[zfn h];simp
 ·cases f with
  | zero=>simp[varN]
  | succ f=>rw[zhl (by omega)];simp
theorem ztJ {n:Int} (h:0≤n∧n≤562949953421311):varV n≠[]:=by
 unfold varV
 rw[decide_eq_true h]
 exact ztI 6 _
theorem znz: ∀(f n:Nat) (rest:List UInt8),n<128 ^ (f+1)→readN (f+1) (varN f n++rest)=some (n,(varN f n).length)
 | 0,n,rest,h=>by
   have hn:n<128:=by simpa using h
   rw[zfn hn]
   show readN 1 (toU8 (n:Int)::rest)=_
   rw[readN,zfm,Nat.mod_eq_of_lt (by omega),decide_eq_true hn]
   rfl
 | f+1,n,rest,h=>by
   by_cases hn:n<128
   ·rw[zfn hn]
    show readN (f+2) (toU8 (n:Int)::rest)=_
    rw[readN,zfm,Nat.mod_eq_of_lt (by omega),decide_eq_true hn]
    rfl
   ·have h2:n / 128<128 ^ (f+1):=by
     rw[Nat.div_lt_iff_lt_mul (by decide)];rw[Nat.pow_succ]at h;exact h
    rw[zhl (by omega),List.cons_append,readN,zfm,Nat.mod_eq_of_lt (by omega),decide_eq_false (by omega),znz f (n / 128) rest h2]
    simp only[cond_false]
    rw[decide_eq_false (by omega)]
    simp only[cond_false,List.length_cons]
    congr 2
    omega
theorem zrQ (n:Int) (h:0≤n∧n≤562949953421311) (rest:List UInt8):readN 7 (varV n++rest)=some (n.toNat,(varV n).length):=by
 unfold varV
 rw[decide_eq_true h]
 exact znz 6 n.toNat rest (by show n.toNat<562949953421312;omega)
theorem zil {s:List UInt8} {n k:Nat} (h:readN 7 s=some (n,k)):n<562949953421312∧1≤k∧k≤s.length:=by
 obtain ⟨h1,h2,h3,h4,_,_⟩:=zdJ 7 s n k h
 have hn:=zhk (s.take k)
 rw[List.length_take,Nat.min_eq_left h3,←h4]at hn
 have hp:128 ^ k≤128 ^ 7:=Nat.pow_le_pow_right (by decide) h2
 exact ⟨Nat.lt_of_lt_of_le hn hp,h1,h3⟩
def rdN (t:List UInt8) (a:Nat) (bad:Bool):Int × Nat × Bool:=bif bad then (0,a,true) else match readN 7 (t.drop a) with
 | none=>(0,a,true)
 | some (x,k)=>((x:Int),a+k,false)
theorem zgF (t:List UInt8) (a:Nat) (bad:Bool) (h:a≤t.length):(0≤(rdN t a bad).1∧(rdN t a bad).1≤562949953421311)∧(rdN t a bad).2.1≤t.length∧((rdN t a bad).2.2=false→bad=false∧a<(rdN t a bad).2.1):=by
 unfold rdN
 cases bad with
 | true=>exact ⟨⟨by simp,by simp⟩,h,fun e=>by cases e⟩
 | false=>
   simp only[cond_false]
   cases hr:readN 7 (t.drop a) with
   | none=>exact ⟨⟨by simp,by simp⟩,h,fun e=>by cases e⟩
   | some p=>
     obtain ⟨x,k⟩:=p
     obtain ⟨h1,h2,h3⟩:=zil hr
     rw[List.length_drop]at h3
     refine ⟨⟨by simp,by simp only;omega⟩,by simp only;omega,fun _=>?_⟩
     exact ⟨trivial,show a<a+k by omega⟩
theorem znt (t:List UInt8) (a:Nat) (bad:Bool) (h:a≤t.length) (ht:t.length≤1099511627776):zZ ⟨t,(a:Int),bad⟩=some ((rdN t a bad).1,⟨t,((rdN t a bad).2.1:Int),(rdN t a bad).2.2⟩):=by
 unfold zZ rdN
 cases bad with
 | true=>rfl
 | false=>
   simp only[Bool.false_eq_true,if_false,zgw t a h,Option.bind_some,zf2 (t.drop a) (by simp;omega),cond_false]
   cases hr:readN 7 (t.drop a) with
   | none=>rfl
   | some p=>
     obtain ⟨x,k⟩:=p
     obtain ⟨h1,h2,h3⟩:=zil hr
     rw[List.length_drop]at h3
     have hk0:decide ((readR (some (x,k))).2=0)=false:=decide_eq_false (by show ¬(k:Int)=0;omega)
     rw[hk0]
     simp only[Bool.false_eq_true,if_false,readR]
     rw[zb (by omega) (by omega),show (a:Int)+(k:Int)=((a+k:Nat):Int) by omega]
def rdB (t:List UInt8) (a:Nat) (bad:Bool) (n:Int):List UInt8 × Nat × Bool:=bif bad||decide (t.length<a+n.toNat) then ([],a,true) else ((t.drop a).take n.toNat,a+n.toNat,false)
theorem znu (t:List UInt8) (a:Nat) (bad:Bool) (n:Int) (h:a≤t.length):(rdB t a bad n).2.1≤t.length∧a≤(rdB t a bad n).2.1∧((rdB t a bad n).2.2=false→bad=false):=by
 unfold rdB
 cases bad with
 | true=>exact ⟨h,Nat.le_refl _,fun e=>by cases e⟩
 | false=>
   by_cases c:t.length<a+n.toNat
   ·rw[decide_eq_true c];exact ⟨h,Nat.le_refl _,fun e=>by cases e⟩
   ·rw[decide_eq_false c];exact ⟨by simp only[Bool.or_self,cond_false];omega,by simp,fun _=>rfl⟩
theorem zof (t:List UInt8) (a:Nat) (bad:Bool) (n:Int) (h:a≤t.length) (ht:t.length≤1099511627776) (hn:0≤n∧n≤562949953421311):zbt ⟨t,(a:Int),bad⟩ n=some ((rdB t a bad n).1,⟨t,((rdB t a bad n).2.1:Int),(rdB t a bad n).2.2⟩):=by
 unfold zbt rdB
 cases bad with
 | true=>rfl
 | false=>
   simp only[Bool.false_eq_true,if_false,Option.bind_some,Bool.false_or]
   rw[zb (n:=(t.length:Int) - (a:Int)) (by omega) (by omega)]
   by_cases c:t.length<a+n.toNat
   ·rw[decide_eq_true c,decide_eq_true (by omega:n>(t.length:Int) - (a:Int))]
    rfl
   ·rw[decide_eq_false c,decide_eq_false (by omega: ¬n>(t.length:Int) - (a:Int))]
    simp only[Bool.false_eq_true,if_false,cond_false]
    rw[zb (n:=(a:Int)+n) (by omega) (by omega),zb (n:=(a:Int)+n - n) (by omega) (by omega),show (a:Int)+n - n=(a:Int) by omega,show (a:Int)+n=((a+n.toNat:Nat):Int) by omega,ze3 t a (a+n.toNat) (by omega) (by omega)]
    simp only[Option.bind_some,Nat.add_sub_cancel_left]
def rdS (t:List UInt8) (a:Nat) (bad:Bool):List UInt8 × Nat × Bool:=rdB t (rdN t a bad).2.1 (rdN t a bad).2.2 (rdN t a bad).1
theorem zoN (t:List UInt8) (a:Nat) (bad:Bool) (h:a≤t.length) (ht:t.length≤1099511627776):zbu ⟨t,(a:Int),bad⟩=some ((rdS t a bad).1,⟨t,((rdS t a bad).2.1:Int),(rdS t a bad).2.2⟩):=by
 obtain ⟨h1,h2,_⟩:=zgF t a bad h
 unfold zbu rdS
 rw[znt t a bad h ht]
 simp only[Option.bind_some]
 rw[zof t _ _ _ h2 ht h1]
 rfl
theorem zfO (t:List UInt8) (a:Nat) (bad:Bool) (h:a≤t.length):(rdS t a bad).2.1≤t.length∧((rdS t a bad).2.2=false→bad=false∧a<(rdS t a bad).2.1):=by
 obtain ⟨h1,h2,h3⟩:=zgF t a bad h
 obtain ⟨h4,h5,h6⟩:=znu t (rdN t a bad).2.1 (rdN t a bad).2.2 (rdN t a bad).1 h2
 unfold rdS
 refine ⟨h4,fun e=>?_⟩
 obtain ⟨h7,h8⟩:=h3 (h6 e)
 exact ⟨h7,by omega⟩
theorem zhp {t x rest:List UInt8} {a:Nat} (h:t.drop a=x++rest):t.drop (a+x.length)=rest:=by
 rw[←List.drop_drop,h,List.drop_left]
theorem zpZ {t rest:List UInt8} {a:Nat} {n:Int} (h:t.drop a=varV n++rest) (hn:0≤n∧n≤562949953421311):rdN t a false=(n,a+(varV n).length,false):=by
 unfold rdN
 rw[h,zrQ n hn rest]
 simp only[cond_false]
 rw[show ((n.toNat:Nat):Int)=n by omega]
theorem zp0 {t rest x:List UInt8} {a:Nat} (h:t.drop a=pieceV x++rest) (hx:x.length≤1048576) (ha:a≤t.length):rdS t a false=(x,a+(pieceV x).length,false):=by
 have h1:t.drop a=varV (x.length:Int)++(x++rest):=by rw[h];unfold pieceV;rw[List.append_assoc]
 have h2:=zhp h1
 have hl:=congrArg List.length h2
 rw[List.length_drop,List.length_append]at hl
 unfold rdS
 rw[zpZ h1 (by omega)]
 unfold rdB
 simp only[Bool.false_or,Int.toNat_natCast]
 by_cases hx0:x.length=0
 ·have h0:x= []:=List.eq_nil_of_length_eq_zero hx0
  have hl2:=congrArg List.length h1
  rw[List.length_drop,List.length_append]at hl2
  rw[decide_eq_false (by omega)]
  simp only[cond_false]
  subst h0
  simp[pieceV]
 ·rw[decide_eq_false (by omega)]
  simp only[cond_false]
  rw[h2,List.take_left]
  simp only[pieceV,List.length_append,Nat.add_assoc]
theorem iand255 (p:Int):0≤iand .i64 p (255:Int)∧iand .i64 p (255:Int)≤255:=by
 unfold iand
 have e:(BitVec.ofInt IntKind.i64.bits p &&& BitVec.ofInt IntKind.i64.bits (255:Int)).toNat≤255:=by
  show (BitVec.ofInt 64 p &&& BitVec.ofInt 64 ((255:Nat):Int)).toNat≤255
  rw[BitVec.ofInt_natCast,BitVec.toNat_and,BitVec.toNat_ofNat]
  exact Nat.and_le_right
 generalize (BitVec.ofInt IntKind.i64.bits p &&& BitVec.ofInt IntKind.i64.bits (255:Int)).toNat=z at e
 rw[zb (by omega) (by omega)]
 omega
theorem zsD (code:List UInt8) (h:code.length≤1048576): ∃q,zgg code=some ⟨code,0,q⟩:=by
 unfold zgg
 obtain ⟨r,hr,q,rfl⟩:=zbi (ρ:=Ctl Int L1Cur) (s0:=(IntKind.i64.wrap ((10101:Int)+(code.length:Int)),(0:Int))) (body:=fun (S1:Int × Int)=>(if (decide (S1.2<(code.length:Int)))=true then (some (decide (S1.2<(4000:Int))))
 else (some false)).bind (fun (T5:Bool)=>
 if T5=true then ((idx code S1.2).bind fun E9=>
 some (.go (iand .i64 (IntKind.i64.wrap (IntKind.i64.wrap (IntKind.i64.wrap (S1.1*(131:Int))+(IntKind.i64.wrap ((E9.toNat:Nat):Int)))+(7:Int))) (1073741823:Int),IntKind.i64.wrap (S1.2+(1:Int)))))
 else (some (.done (.go S1.1))))) (fun k S=>S.2=(k:Int)) code.length (fun r=>∃q,r= .go q) rfl (by
  rintro k ⟨p,i⟩ hk rfl
  simp only
  rw[decide_eq_true (by omega:(k:Int)<(code.length:Int))]
  by_cases c:(k:Int)<4000
  ·left
   rw[decide_eq_true c]
   simp only[if_true,Option.bind_some,ze code k hk]
   exact ⟨_,rfl,by simp only;rw[zb (by omega) (by omega)];omega⟩
  ·right
   rw[decide_eq_false c]
   exact ⟨.go p,rfl,p,rfl⟩) (by
 rintro ⟨p,i⟩ rfl
 simp only
 rw[decide_eq_false (by omega: ¬(code.length:Int)<(code.length:Int))]
 exact ⟨.go p,rfl,p,rfl⟩)
 rw[hr]
 exact ⟨q,rfl⟩
theorem zeT (b:List UInt8) (i h:Int) (hi:0≤i∧i≤b.length) (hb:b.length≤1048576): ∃x i' h',zbr ⟨b,i,h⟩=some (x,⟨b,i',h'⟩)∧(0≤x∧x≤255)∧(0≤i'∧i'≤b.length):=by
 unfold zbr
 simp only
 by_cases c:i<(b.length:Int)
 ·rw[decide_eq_true c]
  simp only[if_true]
  rw[zhZ hi.1 c]
  simp only[Option.bind_some,zf]
  exact ⟨_,_,_,rfl,iand255 _,by rw[zb (by omega) (by omega)];omega⟩
 ·rw[decide_eq_false c]
  simp only[Bool.false_eq_true,if_false,zf]
  exact ⟨_,_,_,rfl,iand255 _,hi⟩
theorem zU (b:List UInt8) (i h n:Int) (hi:0≤i∧i≤b.length) (hb:b.length≤1048576): ∃x i' h',zx ⟨b,i,h⟩ n=some (x,⟨b,i',h'⟩)∧(0≤x∧(0<n→x<n)∧(n≤0→x=0))∧(0≤i'∧i'≤b.length):=by
 unfold zx
 by_cases c:n≤0
 ·rw[decide_eq_true c]
  simp only[if_true]
  exact ⟨_,_,_,rfl,⟨Int.le_refl _,fun h=>by omega,fun _=>rfl⟩,hi⟩
 ·rw[decide_eq_false c]
  have hnz:nz n=some ():=by unfold nz;rw[if_neg (by omega)]
  have hm: ∀x:Int,0≤x→0≤Int.tmod x n∧Int.tmod x n<n:=fun x hx=>⟨Int.tmod_nonneg _ hx,Int.tmod_lt_of_pos _ (by omega)⟩
  obtain ⟨x1,i1,h1,e1,g1,k1⟩:=zeT b i h hi hb
  simp only[Bool.false_eq_true,if_false,e1,Option.bind_some,hnz]
  by_cases c2:n≤256
  ·rw[decide_eq_true c2]
   simp only[if_true]
   have:=hm x1 g1.1
   exact ⟨_,_,_,rfl,⟨this.1,fun _=>this.2,fun h=>by omega⟩,k1⟩
  ·rw[decide_eq_false c2]
   simp only[Bool.false_eq_true,if_false]
   obtain ⟨x2,i2,h2,e2,g2,k2⟩:=zeT b i1 h1 k1 hb
   simp only[e2,Option.bind_some]
   obtain ⟨x3,i3,h3,e3,g3,k3⟩:=zeT b i2 h2 k2 hb
   simp only[e3,Option.bind_some]
   obtain ⟨x4,i4,h4,e4,g4,k4⟩:=zeT b i3 h3 k3 hb
   simp only[e4,Option.bind_some]
   rw[zb (n:=x1*16777216) (by omega) (by omega),zb (n:=x2*65536) (by omega) (by omega),zb (n:=x1*16777216+x2*65536) (by omega) (by omega),zb (n:=x3*256) (by omega) (by omega),zb (n:=x1*16777216+x2*65536+x3*256) (by omega) (by omega),zb (by omega) (by omega)]
   have:=hm (x1*16777216+x2*65536+x3*256+x4) (by omega)
   exact ⟨_,_,_,rfl,⟨this.1,fun _=>this.2,fun h=>by omega⟩,k4⟩
theorem zcf (b:List UInt8) (i h n:Int) (hi:0≤i∧i≤b.length) (hb:b.length≤1048576): ∃x i' h',z9 ⟨b,i,h⟩ n=some (x,⟨b,i',h'⟩)∧(0≤i'∧i'≤b.length):=by
 unfold z9
 obtain ⟨x,i1,h1,e,_,k⟩:=zU b i h n hi hb
 simp only[e,Option.bind_some]
 exact ⟨_,_,_,rfl,k⟩
theorem zeb (b:List UInt8) (i h:Int) (l:List Int) (hl:l≠[]) (hi:0≤i∧i≤b.length) (hb:b.length≤1048576): ∃x i' h',zbs ⟨b,i,h⟩ l=some (x,⟨b,i',h'⟩)∧x∈l∧(0≤i'∧i'≤b.length):=by
 unfold zbs
 have hp:=List.length_pos_iff.2 hl
 obtain ⟨x,i1,h1,e,g,k⟩:=zU b i h (l.length:Int) hi hb
 simp only[e,Option.bind_some]
 rw[zhZ g.1 (g.2.1 (by omega))]
 simp only[Option.bind_some]
 exact ⟨_,_,_,rfl,List.getElem_mem _,k⟩
theorem zib (b:List UInt8) (i h most:Int) (hm:0≤most∧most≤1000) (hi:0≤i∧i≤b.length) (hb:b.length≤1048576): ∃s i' h',zc4 ⟨b,i,h⟩ most=some (s,⟨b,i',h'⟩)∧s.length≤1000∧(0≤i'∧i'≤b.length):=by
 unfold zc4
 obtain ⟨x1,i1,h1,e1,_,k1⟩:=zU b i h 4 hi hb
 simp only[e1,Option.bind_some]
 rw[zb (n:=most+1) (by omega) (by omega)]
 obtain ⟨x2,i2,h2,e2,g2,k2⟩:=zU b i1 h1 (most+1) k1 hb
 simp only[e2,Option.bind_some]
 have hx2:=g2.2.1 (by omega)
 obtain ⟨r,hr,p,q,s,rfl,hq⟩:=zbi (ρ:=Ctl (Int × Int × List UInt8) (List UInt8 × L1Cur)) (s0:=(i2,h2,x2,([]:List UInt8))) (body:=fun (S8:Int × Int × Int × List UInt8)=>if (decide (S8.2.2.1>(0:Int)))=true then ((zbr (⟨b,S8.1,S8.2.1⟩:L1Cur)).bind fun R13=>
 bindC (if (decide (x1=(1:Int)))=true then (some (.go (Int.tmod R13.1 (2:Int))))
 else (some (.go R13.1)))
 (fun (T16:Int)=>bindC (if (decide (x1=(2:Int)))=true then (some (.go (IntKind.i64.wrap ((97:Int)+(Int.tmod T16 (4:Int))))))
 else (some (.go T16)))
 (fun (T19:Int)=>(app 1 S8.2.2.2 ([toU8 T19])).bind fun E24=>
 some (.go (R13.2.i,R13.2.h,IntKind.i64.wrap (S8.2.2.1 - (1:Int)),E24)))))
 else (some (.done (.go (S8.1,S8.2.1,S8.2.2.2)))))
  (fun k S=>(0≤S.1∧S.1≤b.length)∧S.2.2.1=x2 - (k:Int)∧S.2.2.2.length=k) x2.toNat (fun r=>∃p q s,r= .go (p,q,s)∧(s.length≤1000∧0≤p∧p≤b.length)) ⟨k2,by simp,rfl⟩ (by
    rintro k ⟨p,q,m,s⟩ hk ⟨h3,h4,h5⟩
    simp only at h3 h4 h5
    subst h4
    left
    simp only
    rw[if_pos (by simp only[decide_eq_true_eq];omega)]
    obtain ⟨x3,i3,h3',e3,_,k3⟩:=zeT b p q h3 hb
    rw[e3]
    simp only[Option.bind_some]
    have key: ∃t:Int,(bindC (if (decide (x1=(1:Int)))=true then (some (Ctl.go (Int.tmod x3 (2:Int)))) else (some (Ctl.go x3)))
     (fun (T16:Int)=>bindC (if (decide (x1=(2:Int)))=true then (some (Ctl.go (IntKind.i64.wrap ((97:Int)+(Int.tmod T16 (4:Int)))))) else (some (Ctl.go T16)))
 (fun (T19:Int)=>(app 1 s ([toU8 T19])).bind fun E24=>some (Ctl.go (ρ:=Ctl (Int × Int × List UInt8) (List UInt8 × L1Cur)) (i3,h3',IntKind.i64.wrap (x2 - (k:Int) - (1:Int)),E24)))))=some (.go (i3,h3',IntKind.i64.wrap (x2 - (k:Int) - (1:Int)),s++ [toU8 t])):=by
     cases decide (x1=1)<;>cases decide (x1=2)<;>simp only[Bool.false_eq_true,if_false,if_true,zf]<;>rw[zm (by simp;omega) (by simp;omega)]<;>exact ⟨_,rfl⟩
    obtain ⟨t,ht⟩:=key
    rw[ht]
    exact ⟨_,rfl,k3,by simp only;rw[zb (by omega) (by omega)];omega,by simp;omega⟩) (by
 rintro ⟨p,q,m,s⟩ ⟨h3,h4,h5⟩
 simp only at h3 h4 h5
 subst h4
 simp only
 rw[if_neg (by simp only[decide_eq_true_eq];omega)]
 exact ⟨_,rfl,p,q,s,rfl,by omega,h3⟩)
 rw[hr]
 exact ⟨s,p,q,rfl,hq.1,hq.2⟩
theorem zsE (b:List UInt8) (i h:Int) (hi:0≤i∧i≤b.length) (hb:b.length≤1048576): ∃s i' h',zgj ⟨b,i,h⟩=some (s,⟨b,i',h'⟩)∧s.length≤32∧(0≤i'∧i'≤b.length):=by
 unfold zgj
 obtain ⟨x1,i1,h1,e1,_,k1⟩:=zeT b i h hi hb
 simp only[e1,Option.bind_some]
 obtain ⟨r,hr,s,rfl,hq⟩:=zbi (ρ:=Ctl (List UInt8) (List UInt8 × L1Cur)) (s0:=((0:Int),([]:List UInt8))) (body:=fun (S5:Int × List UInt8)=>if (decide (S5.1<(32:Int)))=true then ((app 1 S5.2 ([toU8 (IntKind.i64.wrap (IntKind.i64.wrap (x1*S5.1)+(Int.tmod S5.1 (3:Int))))])).bind fun E12=>
 some (.go (IntKind.i64.wrap (S5.1+(1:Int)),E12)))
 else (some (.done (.go S5.2)))) (fun k S=>S.1=(k:Int)∧S.2.length=k) 32 (fun r=>∃s,r= .go s∧s.length=32) ⟨rfl,rfl⟩ (by
  rintro k ⟨p,s⟩ hk ⟨h4,h5⟩
  simp only at h4 h5
  subst h4
  left
  simp only
  rw[if_pos (by simp only[decide_eq_true_eq];omega),zm (by simp;omega) (by simp;omega),zb (n:=(k:Int)+1) (by omega) (by omega)]
  exact ⟨_,rfl,by simp only;omega,by simp;omega⟩) (by
 rintro ⟨p,s⟩ ⟨h4,h5⟩
 simp only at h4 h5
 subst h4
 exact ⟨.go s,by simp,s,rfl,h5⟩)
 rw[hr]
 simp only[zf]
 obtain ⟨x2,i2,h2,e2,k2⟩:=zcf b i1 h1 15 k1 hb
 simp only[e2,Option.bind_some]
 cases x2 with
 | false=>exact ⟨s,i2,h2,rfl,by omega,k2⟩
 | true=>
   obtain ⟨x3,i3,h3,e3,g3,k3⟩:=zU b i2 h2 32 k2 hb
   have:=g3.2.1 (by omega)
   simp only[if_true,e3,Option.bind_some]
   rw[zbb s 0 x3.toNat (0:Int) x3 rfl (by omega) (Nat.zero_le _) (by omega)]
   exact ⟨_,i3,h3,rfl,by simp;omega,k3⟩
theorem zqu (b:List UInt8) (i h:Int) (s:List UInt8) (hs:s.length≤1048576) (hi:0≤i∧i≤b.length) (hb:b.length≤1048576): ∃t i' h',ze0 ⟨b,i,h⟩ s=some (t,⟨b,i',h'⟩)∧t.length≤s.length+1000∧(0≤i'∧i'≤b.length):=by
 unfold ze0
 by_cases h0:s.length=0
 ·obtain ⟨t,i1,h1,e1,g1,k1⟩:=zib b i h 3 (by omega) hi hb
  rw[decide_eq_true (by omega:(s.length:Int)=0)]
  simp only[if_true,e1,Option.bind_some]
  exact ⟨t,i1,h1,rfl,by omega,k1⟩
 ·rw[decide_eq_false (by omega: ¬(s.length:Int)=0)]
  obtain ⟨x1,i1,h1,e1,g1,k1⟩:=zU b i h (s.length:Int) hi hb
  have hx1:=g1.2.1 (by omega)
  obtain ⟨x2,i2,h2,e2,g2,k2⟩:=zU b i1 h1 4 k1 hb
  simp only[Bool.false_eq_true,if_false,e1,e2,Option.bind_some]
  obtain ⟨n,rfl⟩: ∃n:Nat,x1=(n:Int):=⟨x1.toNat,by omega⟩
  have s1:ssub s 0 (n:Int)=some (s.take n):=ze3 s 0 n (by omega) (by omega)
  have s2:ssub s (IntKind.i64.wrap ((n:Int)+(1:Int))) (s.length:Int)=some (s.drop (n+1)):=by
   rw[zb (by omega) (by omega)];exact zgw s (n+1) (by omega)
  have s3:ssub s (n:Int) (s.length:Int)=some (s.drop n):=zgw s n (by omega)
  simp only[s1,s2,s3,zeX s n (by omega),Option.bind_some]
  by_cases c0:x2=0
  ·rw[decide_eq_true c0]
   simp only[if_true]
   rw[zcO (by simp;omega)]
   exact ⟨_,_,_,rfl,by simp;omega,k2⟩
  ·rw[decide_eq_false c0]
   simp only[Bool.false_eq_true,if_false]
   by_cases c1:x2=1
   ·rw[decide_eq_true c1]
    obtain ⟨x3,i3,h3,e3,_,k3⟩:=zeT b i2 h2 k2 hb
    simp only[if_true,e3,Option.bind_some]
    rw[zcO (by simp;omega)]
    simp only[Option.bind_some]
    rw[zcO (by simp;omega)]
    exact ⟨_,_,_,rfl,by simp;omega,k3⟩
   ·rw[decide_eq_false c1]
    simp only[Bool.false_eq_true,if_false]
    by_cases c2:x2=2
    ·rw[decide_eq_true c2]
     exact ⟨_,_,_,rfl,by simp;omega,k2⟩
    ·rw[decide_eq_false c2]
     obtain ⟨x3,i3,h3,e3,_,k3⟩:=zU b i2 h2 255 k2 hb
     simp only[Bool.false_eq_true,if_false,e3,Option.bind_some]
     rw[zcO (by simp;omega)]
     simp only[Option.bind_some]
     rw[zcO (by simp;omega)]
     exact ⟨_,_,_,rfl,by simp;omega,k3⟩
theorem zb7 {τ ρ R:Type} {body:τ→Option (Ctl τ (Ctl ρ R))} {s0:τ} {f:ρ→Option R} (G:Option R→Prop) (I:Nat→τ→Prop) (n:Nat) (Q:Ctl ρ R→Prop) (h0:I 0 s0)
 (h: ∀k s,k<n→I k s→(∃s',body s=some (.go s')∧I (k+1) s')∨(∃r,body s=some (.done r)∧Q r)) (hn: ∀s,I n s→∃r,body s=some (.done r)∧Q r)
 (hk: ∀r,Q r→G (bindC (some r) f)):G (bindC (loopO body s0) f):=by
 obtain ⟨r,hr,hq⟩:=zbi I n Q h0 h hn
 rw[hr]
 exact hk r hq
theorem zeU (b:List UInt8) (i h:Int) (l:List (List UInt8)) (hl:l≠[]) (hi:0≤i∧i≤b.length) (hb:b.length≤1048576): ∃x i' h',zb2 ⟨b,i,h⟩ l=some (x,⟨b,i',h'⟩)∧x∈l∧(0≤i'∧i'≤b.length):=by
 unfold zb2
 have hp:=List.length_pos_iff.2 hl
 obtain ⟨x,i1,h1,e,g,k⟩:=zU b i h (l.length:Int) hi hb
 simp only[e,Option.bind_some]
 rw[zhZ g.1 (g.2.1 (by omega))]
 simp only[Option.bind_some]
 exact ⟨_,_,_,rfl,List.getElem_mem _,k⟩
theorem zsF (b:List UInt8) (i h:Int) (hi:0≤i∧i≤b.length) (hb:b.length≤1048576): ∃x i' h',zgk ⟨b,i,h⟩=some (x,⟨b,i',h'⟩)∧x.length≤3∧(0≤i'∧i'≤b.length):=by
 unfold zgk
 obtain ⟨x,i1,h1,e,g,k⟩:=zeU b i h [[97],[98],[97,98],[97,98,99],[98,48],[99],[0],[122,122]] (by simp) hi hb
 simp only[e,Option.bind_some]
 have: ∀x∈([[97],[98],[97,98],[97,98,99],[98,48],[99],[0],[122,122]]:List (List UInt8)),x.length≤3:=by decide
 exact ⟨_,_,_,rfl,this x g,k⟩
theorem zfx (s:Shares):sharesV s=true↔(0≤s.Size∧s.Size≤1000)∧s.List.length≤4∧(∀x∈s.List,(1≤x.Tenant∧x.Tenant≤99)∧(0≤x.Quota∧x.Quota≤1000))∧s.List.Pairwise (fun a b=>a.Tenant<b.Tenant)∧allNeed s≤s.Size:=by
 constructor
 ·intro hv
  have hl:=znE hv
  unfold sharesV at hv
  simp only[Bool.and_eq_true,List.all_eq_true,decide_eq_true_eq]at hv
  refine ⟨hv.1,hv.2.1,fun x hx=>?_,?_,hv.2.2.2⟩
  ·obtain ⟨k,hk,rfl⟩:=List.getElem_of_mem hx
   have:=hv.2.2.1 k (by simpa using hk)
   rw[zid s.List k hk]at this
   simp only[Bool.and_eq_true,decide_eq_true_eq]at this
   exact ⟨this.1,this.2.1⟩
  ·rw[List.pairwise_iff_getElem]
   intro i j hi hj hij
   exact hl j hj i hij
 ·rintro ⟨h1,h2,h3,h4,h5⟩
  rw[List.pairwise_iff_getElem]at h4
  unfold sharesV
  rw[decide_eq_true h1,decide_eq_true h2,decide_eq_true h5]
  simp only[Bool.true_and,Bool.and_true,List.all_eq_true]
  intro k hk
  have hk':k<s.List.length:=by simpa using hk
  obtain ⟨g1,g2⟩:=h3 _ (List.getElem_mem hk')
  rw[zid s.List k hk',decide_eq_true g1,decide_eq_true g2]
  simp only[Bool.true_and]
  by_cases h0:0<k
  ·rw[dif_pos h0]
   exact decide_eq_true (h4 (k - 1) k (by omega) hk' (by omega))
  ·rw[dif_neg h0]
theorem znO (s:Shares) (t q:Int) (hv:sharesV s=true) (h:s.List.length≤1048576): ∃L M R:List Share,s.List=L++(M++R)∧(∀y∈L,y.Tenant<t)∧(∀y∈R,t<y.Tenant)∧(M= []∨∃m:Share,M= [m]∧m.Tenant=t)∧
 zcL s t q=some (if sharesV ⟨s.Size,L++(⟨t,q⟩::R)⟩=true then (⟨s.Size,L++(⟨t,q⟩::R)⟩,true) else (s,false)):=by
 have hs4:=((zfx s).1 hv).2.1
 obtain ⟨j,hj,h1,h2,h3⟩:=zgQ s t hv h
 have hL: ∀y∈s.List.take j,y.Tenant<t:=by
  intro y hy
  obtain ⟨i,hi,rfl⟩:=List.getElem_of_mem hy
  rw[List.getElem_take]
  have:i<j:=by simp at hi;omega
  exact h1 i (by omega) this
 have hR: ∀D,(∀i (hi:i<s.List.length),D≤i→t<s.List[i].Tenant)→∀y∈s.List.drop D,t<y.Tenant:=by
  intro D hD y hy
  obtain ⟨i,hi,rfl⟩:=List.getElem_of_mem hy
  rw[List.getElem_drop]
  have:D+i<s.List.length:=by simp at hi;omega
  exact hD _ this (by omega)
 rcases h3 with ⟨hjl,h4,h5⟩ | ⟨h4,h5⟩
 ·have hD: ∀i (hi:i<s.List.length),j+1≤i→t<s.List[i].Tenant:=fun i hi hji=>h2 i hi (by omega)
  exact ⟨s.List.take j,[s.List[j]],s.List.drop (j+1),by rw[List.singleton_append,←List.drop_eq_getElem_cons hjl,List.take_append_drop],hL,hR _ hD,.inr ⟨_,rfl,h5⟩,zen s t q j (j+1) hv hs4 hj (.inr rfl) (by omega) h1 hD (fun _ _=>h5)⟩
 ·exact ⟨s.List.take j,[],s.List.drop j,by rw[List.nil_append,List.take_append_drop],hL,hR _ h5,.inl rfl,zen s t q j j hv hs4 hj (.inl rfl) hj h1 h5 (fun e=>by omega)⟩
theorem zk0 (p:Share→Bool): ∀l:List Share,((l.filter p).map fun x=>needV x.Quota).sum≤(l.map fun x=>needV x.Quota).sum
 | []=>by simp
 | x::l=>by
   have h1:=zk0 p l
   have h2:=zgy x.Quota
   rw[List.filter_cons]
   split
   ·simp only[List.map_cons,List.sum_cons];omega
   ·simp only[List.map_cons,List.sum_cons];omega
noncomputable def strB (key:List UInt8) (counter:Int) (nonce:List UInt8) (i:Nat):UInt8:=(chaV key (counter+((i / 64:Nat):Int)) nonce).getD (i % 64) 0
noncomputable def xorV (key:List UInt8) (counter:Int) (nonce text:List UInt8):List UInt8:=text.mapIdx fun i x=>x ^^^ strB key counter nonce i
def streamOk (key:List UInt8) (counter:Int) (nonce:List UInt8) (n:Nat):Bool:=chaOk key counter nonce&&decide (n=0∨counter+(((n - 1) / 64:Nat):Int)≤4294967295)
noncomputable def streamV (key:List UInt8) (counter:Int) (nonce text:List UInt8):List UInt8:=bif streamOk key counter nonce text.length then xorV key counter nonce text else []
theorem zdq (key:List UInt8) (counter:Int) (nonce text:List UInt8):(xorV key counter nonce text).length=text.length:=by unfold xorV;rw[List.length_mapIdx]
theorem znc (key:List UInt8) (counter:Int) (nonce text:List UInt8) (i:Nat) (h:i<text.length):(xorV key counter nonce text)[i]'(by rw[zdq];exact h)=text[i] ^^^ strB key counter nonce i:=by
 unfold xorV
 rw[List.getElem_mapIdx]
theorem ztc (x y:UInt8):x ^^^ y ^^^ y=x:=by rw[UInt8.xor_assoc,UInt8.xor_self,UInt8.xor_zero]
theorem zqZ (key:List UInt8) (counter:Int) (nonce text:List UInt8):xorV key counter nonce (xorV key counter nonce text)=text:=by
 apply List.ext_getElem
 ·rw[zdq,zdq]
 ·intro i h1 h2
  rw[znc _ _ _ _ i (by rw[zdq];exact h2),znc _ _ _ _ i h2,ztc]
theorem zsi {key:List UInt8} {counter:Int} {nonce:List UInt8} (h:chaOk key counter nonce=true) (k:Nat) (hk:counter+(k:Int)≤4294967295):chaOk key (counter+(k:Int)) nonce=true:=by
 obtain ⟨h1,h2,h3,h4⟩:=zgz h
 unfold chaOk
 rw[decide_eq_true h1,decide_eq_true h2,decide_eq_true (by omega)]
 rfl
theorem ztE {key:List UInt8} {counter:Int} {nonce:List UInt8} (k j:Nat) (hj:j<64) (h:chaOk key (counter+(k:Int)) nonce=true):strB key counter nonce (64*k+j)=(chaV key (counter+(k:Int)) nonce)[j]'(by rw[ziW _ _ _ h];exact hj):=by
 unfold strB
 have e1:(64*k+j) / 64=k:=by omega
 have e2:(64*k+j) % 64=j:=by omega
 rw[e1,e2,List.getD_eq_getElem?_getD,List.getElem?_eq_getElem (by rw[ziW _ _ _ h];exact hj)]
 rfl
theorem zr4 {α:Type} (z:List α) (m:Nat) (h:m<z.length):z.take (m+1)=z.take m++ [z[m]]:=by
 rw[List.take_add_one,List.getElem?_eq_getElem h];rfl
end Go.Proofs.YtfgjhefhlabpkaaGreat
