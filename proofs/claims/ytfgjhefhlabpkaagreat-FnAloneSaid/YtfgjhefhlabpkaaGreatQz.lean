/-
  The plain laws: what the pure functions come to, and the statements. Conditions: none.
-/
import Derived.Test.YtfgjhefhlabpkaaGreatQzb
set_option linter.unusedVariables false
set_option linter.unusedSimpArgs false
namespace Go.Proofs.YtfgjhefhlabpkaaGreat
open Go Sl
theorem zpx (d:KeyDev):zdM d=some (keysC d):=by
 unfold zdM keysC
 simp only[zcq,Option.bind_some,len32]
 cases decide (d.Master.length=32) with
 | false=>rfl
 | true=>
 by_cases h4:d.Slots.length≤4
 ·rw[decide_eq_true h4,decide_eq_false (by omega: ¬(d.Slots.length:Int)>4)]
  by_cases h0:0≤d.Wiped∧d.Wiped≤1000000
  ·rw[decide_eq_true h0]
   simp only[Bool.not_true,Bool.false_eq_true,if_false,Option.bind_some,Bool.true_and]
   rw[zod (keyP d.Slots) d.Slots.length ?hp ?hq]
   case hq=>simp
   case hp=>
    intro k hk
    simp only[ze d.Slots k hk,Option.bind_some]
    rw[if_pos (by simpa using hk),zb (n:=(k:Int)+1) (by omega) (by omega),zku d.Slots k hk]
    by_cases d1:1≤d.Slots[k].Tenant∧d.Slots[k].Tenant≤99
    ·by_cases d2:d.Slots[k].Key.length=32
     ·rw[decide_eq_true d1,decide_eq_true d2]
      by_cases hk0:0<k
      ·have hw:IntKind.i64.wrap ((k:Int) - 1)=((k - 1:Nat):Int):=by rw[zb (by omega) (by omega)];omega
       rw[dif_pos hk0,if_neg (by simp),if_neg (by simp),if_pos (by simp;omega)]
       simp only[hw,ze d.Slots (k - 1) (by omega),Option.bind_some]
       by_cases d3:(d.Slots[k - 1]'(by omega)).Tenant<d.Slots[k].Tenant
       ·simp[d3,show ¬d.Slots[k].Tenant≤(d.Slots[k - 1]'(by omega)).Tenant by omega]
       ·simp[d3,show d.Slots[k].Tenant≤(d.Slots[k - 1]'(by omega)).Tenant by omega]
      ·obtain rfl:k=0:=by omega
       simp
     ·rw[decide_eq_true d1,decide_eq_false d2]
      simp
    ·rw[decide_eq_false d1]
     simp
   cases (List.range d.Slots.length).all (keyP d.Slots) with
   | false=>rfl
   | true=>rfl
  ·rw[decide_eq_false h0]
   rfl
 ·rw[decide_eq_false h4,decide_eq_true (by omega:(d.Slots.length:Int)>4)]
  rfl
theorem zpN (d:KeyDev):keysV d=keysC d:=by
 unfold keysV;rw[zpx];rfl
theorem zce (d:KeyDev):keysV d=true↔d.Master.length=32∧d.Slots.length≤4∧(0≤d.Wiped∧d.Wiped≤1000000)∧(∀x∈d.Slots,(1≤x.Tenant∧x.Tenant≤99)∧x.Key.length=32)∧d.Slots.Pairwise (fun a b=>a.Tenant<b.Tenant):=by
 rw[zpN]
 unfold keysC
 simp only[Bool.and_eq_true,List.all_eq_true,decide_eq_true_eq]
 constructor
 ·rintro ⟨h1,h2,h3,h4⟩
  have hk: ∀k (hk:k<d.Slots.length),_:=fun k hk=>h4 k (by simpa using hk)
  have hlt: ∀(j:Nat) (hj:j<d.Slots.length) (i:Nat) (hi:i<j),(d.Slots[i]'(by omega)).Tenant<d.Slots[j].Tenant:=by
   intro j
   induction j with
   | zero=>intro _ i hi;omega
   | succ j ih=>
     intro hj i hi
     have h1:(d.Slots[j]'(by omega)).Tenant<d.Slots[j+1].Tenant:=by
      have:=hk (j+1) hj
      rw[zku d.Slots (j+1) hj,dif_pos (by omega)]at this
      simp only[Bool.and_eq_true]at this
      exact of_decide_eq_true this.2.2
     by_cases e:i=j
     ·subst e;exact h1
     ·have:=ih (by omega) i (by omega);omega
  refine ⟨h1,h2,h3,fun x hx=>?_,?_⟩
  ·obtain ⟨k,hk1,rfl⟩:=List.getElem_of_mem hx
   have:=hk k hk1
   rw[zku d.Slots k hk1]at this
   simp only[Bool.and_eq_true,decide_eq_true_eq]at this
   exact ⟨this.1,this.2.1⟩
  ·rw[List.pairwise_iff_getElem]
   intro i j hi hj hij
   exact hlt j hj i hij
 ·rintro ⟨h1,h2,h3,h4,h5⟩
  rw[List.pairwise_iff_getElem]at h5
  refine ⟨h1,h2,h3,fun k hk=>?_⟩
  have hk':k<d.Slots.length:=by simpa using hk
  obtain ⟨g1,g2⟩:=h4 _ (List.getElem_mem hk')
  rw[zku d.Slots k hk',decide_eq_true g1,decide_eq_true g2]
  simp only[Bool.true_and]
  by_cases h0:0<k
  ·rw[dif_pos h0]
   exact decide_eq_true (h5 (k - 1) k (by omega) hk' (by omega))
  ·rw[dif_neg h0]
theorem zia {d:KeyDev} (hv:keysV d=true) {x:KeySlot} (hx:x∈d.Slots):keyOfV d x.Tenant=x.Key:=by
 obtain ⟨_,_,_,_,hp⟩:=(zce d).1 hv
 unfold keyOfV
 rw[hv]
 simp only[cond_true]
 cases hf:d.Slots.findIdx? (fun y=>decide (y.Tenant=x.Tenant)) with
 | none=>
   have:=List.findIdx?_eq_none_iff.1 hf x hx
   simp at this
 | some j=>
   obtain ⟨hj,h1,_⟩:=List.findIdx?_eq_some_iff_getElem.1 hf
   have h2:=of_decide_eq_true h1
   obtain ⟨i,hi,rfl⟩:=List.getElem_of_mem hx
   rw[List.pairwise_iff_getElem]at hp
   have e:j=i:=by
    rcases Nat.lt_trichotomy j i with c | c | c
    ·have:=hp j i hj hi c;omega
    ·exact c
    ·have:=hp i j hi hj c;omega
   subst e
   simp[List.getElem?_eq_getElem hj]
def placeK (l:List KeySlot) (id:Int):Nat:=(l.takeWhile fun x=>decide (x.Tenant<id)).length
def addKS (d:KeyDev) (id:Int) (key:List UInt8):KeyDev:=⟨d.Master,d.Slots.take (placeK d.Slots id)++(⟨id,key⟩::d.Slots.drop (placeK d.Slots id)),d.Wiped⟩
def wipeKS (d:KeyDev) (id:Int):KeyDev:={Master:=d.Master,Slots:=d.Slots.filter fun x=>!decide (x.Tenant=id),Wiped:=d.Wiped+1}
theorem ztT {α:Type} (q:α→Bool) (l:List α):(∀x∈l.take (l.takeWhile q).length,q x=true)∧(∀h:(l.takeWhile q).length<l.length,q l[(l.takeWhile q).length]=false):=by
 induction l with
 | nil=>exact ⟨fun x hx=>by simp at hx,fun h=>by simp at h⟩
 | cons a l ih=>
   rw[List.takeWhile_cons]
   cases hq:q a with
   | false=>exact ⟨fun x hx=>by simp at hx,fun h=>by simpa using hq⟩
   | true=>
     simp only[if_true,List.length_cons,List.take_succ_cons,List.mem_cons,List.getElem_cons_succ]
     exact ⟨fun x hx=>by rcases hx with rfl | hx;exact hq;exact ih.1 x hx,fun h=>ih.2 (by omega)⟩
theorem zoI {l:List KeySlot} {id:Int} (hp:l.Pairwise fun a b=>a.Tenant<b.Tenant) (hn: ∀x∈l,¬x.Tenant=id):(∀x∈l.take (placeK l id),x.Tenant<id)∧(∀x∈l.drop (placeK l id),id<x.Tenant):=by
 obtain ⟨h1,h2⟩:=ztT (fun x:KeySlot=>decide (x.Tenant<id)) l
 refine ⟨fun x hx=>of_decide_eq_true (h1 x hx),fun x hx=>?_⟩
 obtain ⟨i,hi,rfl⟩:=List.getElem_of_mem hx
 rw[List.getElem_drop]
 rw[List.length_drop]at hi
 have hl:placeK l id<l.length:=by omega
 have h3: ¬l[placeK l id].Tenant<id:=of_decide_eq_false (h2 hl)
 have h4:=hn _ (List.getElem_mem hl)
 rw[List.pairwise_iff_getElem]at hp
 by_cases h0:i=0
 ·subst h0
  simp only[Nat.add_zero]
  omega
 ·have:=hp (placeK l id) (placeK l id+i) hl (by omega) (by omega)
  omega
theorem zoG {α:Type} {R:α→α→Prop} {A B:List α} {x:α} (h:(A++B).Pairwise R) (hA: ∀a∈A,R a x) (hB: ∀b∈B,R x b):(A++x::B).Pairwise R:=by
 rw[List.pairwise_append]at h ⊢
 refine ⟨h.1,List.pairwise_cons.2 ⟨hB,h.2.1⟩,fun a ha b hb=>?_⟩
 rcases List.mem_cons.1 hb with rfl | hb
 ·exact hA a ha
 ·exact h.2.2 a ha b hb
theorem zoc {d:KeyDev} {id:Int} {key:List UInt8} (hv:keysV d=true) (hi:1≤id∧id≤99) (hk:key.length=32) (hl:d.Slots.length<4) (hn: ∀x∈d.Slots,¬x.Tenant=id):keysV (addKS d id key)=true:=by
 obtain ⟨h1,h2,h3,h4,h5⟩:=(zce d).1 hv
 rw[zce]
 obtain ⟨g1,g2⟩:=zoI h5 hn
 refine ⟨h1,?_,h3,fun x hx=>?_,?_⟩
 ·show (d.Slots.take _++_::d.Slots.drop _).length≤4
  simp only[List.length_append,List.length_cons,List.length_take,List.length_drop]
  omega
 ·rcases List.mem_append.1 hx with hx | hx
  ·exact h4 x (List.mem_of_mem_take hx)
  ·rcases List.mem_cons.1 hx with rfl | hx
   ·exact ⟨hi,hk⟩
   ·exact h4 x (List.mem_of_mem_drop hx)
 ·exact zoG (by rw[List.take_append_drop];exact h5) g1 g2
theorem zsc {d:KeyDev} (id:Int) (hv:keysV d=true) (hw:d.Wiped<1000000):keysV (wipeKS d id)=true:=by
 obtain ⟨h1,h2,h3,h4,h5⟩:=(zce d).1 hv
 rw[zce]
 refine ⟨h1,Nat.le_trans (List.length_filter_le _ _) h2,?_,fun x hx=>h4 x (List.mem_filter.1 hx).1,h5.filter _⟩
 show 0≤d.Wiped+1∧d.Wiped+1≤1000000
 omega
structure tenP (key:List UInt8) (rows:List LogRow) (t:STen):Prop where
 ep:0≤t.Epoch∧t.Epoch≤1000000
 base:0≤t.Base∧t.Base≤1000000
 snaps:t.Eng.Snaps.length≤2
 tabs:t.Eng.Tables.length≤1
 eng:engV t.Eng=true
 few:rows.length≤6
 seq:t.Base+(rows.length:Int)=t.Eng.Seq
 seqs:seqsV t.Base rows=true
 start:engV (rep0 t)=true
 runs:(repS key (rep0 t) rows).2=true
 mem:(repS key (rep0 t) rows).1.Mem=t.Eng.Mem
structure storeP (s:Store):Prop where
 secret:s.Secret.length=32
 keys:keysV s.Keys=true
 shares:sharesV s.Shares=true
 boot:0≤s.Boot∧s.Boot≤1000
 hist:s.Hist.length≤120
 slots:s.Tens.map STen.Id=s.Keys.Slots.map KeySlot.Tenant
 ids:s.Tens.map STen.Id=s.Shares.List.map Share.Tenant
 tens: ∀t∈s.Tens,tenP (keyOfV s.Keys t.Id) (rowsV s t.Id) t
 rows: ∀r∈s.Rows,∃t∈s.Tens,t.Id=r.Tenant
theorem zfQ (base:Int) (rs:List LogRow):seqsV base rs=true↔∀i (hi:i<rs.length),rs[i].Seq=base+1+i:=by
 unfold seqsV
 rw[List.all_eq_true]
 constructor
 ·intro h i hi
  have:=h i (by simpa using hi)
  rw[List.getElem?_eq_getElem hi]at this
  have:=of_decide_eq_true this
  omega
 ·intro h i hi
  have hi':i<rs.length:=by simpa using hi
  rw[List.getElem?_eq_getElem hi']
  have:=h i hi'
  exact decide_eq_true (by omega)
theorem zk2 (key:List UInt8): ∀(a b:List LogRow) (e:Eng),repS key e (a++b)=bif (repS key e a).2 then repS key (repS key e a).1 b else (⟨[],[],0,[]⟩,false)
 | [],b,e=>rfl
 | r::a,b,e=>by
   simp only[List.cons_append,repS]
   cases (openB key r.Boot r.Seq r.Text).2&&(putR e (openB key r.Boot r.Seq r.Text).1).2 with
   | false=>rfl
   | true=>exact zk2 key a b _
theorem zjj (key:List UInt8): ∀(rs:List LogRow) (e:Eng),(repS key e rs).2=true→(repS key e rs).1.Tables=e.Tables∧(repS key e rs).1.Snaps=e.Snaps∧(repS key e rs).1.Seq=e.Seq+rs.length
 | [],e,_=>⟨rfl,rfl,by simp[repS]⟩
 | r::rs,e,h=>by
   simp only[repS]at h ⊢
   cases hc:(openB key r.Boot r.Seq r.Text).2&&(putR e (openB key r.Boot r.Seq r.Text).1).2 with
   | false=>rw[hc]at h;cases h
   | true=>
     rw[hc]at h
     obtain ⟨p1,p2,p3,p4⟩:=zji (Bool.and_eq_true _ _ ▸ hc:_∧_).2
     obtain ⟨a,b,c⟩:=zjj key rs _ h
     rw[p4]at a b c
     simp only[cond_true]
     rw[p4]
     refine ⟨a,b,?_⟩
     rw[c]
     simp only[engB,List.length_cons]
     omega
def cntB (l:List Op):Nat→Nat
 | 0=>0
 | k+1=>match l[k]? with
   | some o=>cntB l k+bif laterV l k o.Key then 0 else 1
   | none=>cntB l k
theorem zoz (l:List Op) (seq:Int) (m:List Ent) (hm:ordE m) (hs: ∀x∈m,x.Seq<seq) (hl:m.length+l.length≤1048576): ∀k,k≤l.length→(memB l seq m k).length=m.length+cntB l k:=by
 intro k
 induction k with
 | zero=>intro _;rfl
 | succ k ih=>
   intro hk
   have hk':k<l.length:=by omega
   have i0:=ih (by omega)
   obtain ⟨i1,i2,i3,i4⟩:=zgD l seq m hm hs hl k (by omega)
   have hc:cntB l (k+1)=cntB l k+bif laterV l k l[k].Key then 0 else 1:=by
    show (match l[k]? with | some o=>_ | none=>_)=_
    rw[List.getElem?_eq_getElem hk']
   rw[hc]
   cases hla:laterV l k l[k].Key with
   | true=>rw[zhc l seq m k hk' hla,i0];rfl
   | false=>
     obtain ⟨j,hj,_,h2,h3⟩:=zlx (memB l seq m k) (entO l[k] seq) i1 (by omega) (zlt l seq m _ k hk' hs i3)
     rw[zlu l seq m k hk' hla,h2,Option.getD_some,zor _ _ _ hj,i0]
     rfl
theorem zpW {e:Eng} {l:List Op} (h:engV e=true) (hb:batchV l=true):okB e l=true↔e.Seq+1≤1000000∧e.Mem.length+cntB l l.length≤60∧totalV e.Tables+(e.Mem.length+cntB l l.length)≤400:=by
 obtain ⟨g1,g2,g3⟩:=zhq h hb
 unfold okB
 rw[zoz l (e.Seq+1) e.Mem g1 g2 (by omega) l.length (Nat.le_refl _)]
 simp only[Bool.and_eq_true,decide_eq_true_eq]
theorem zlf {e:Eng} {l:List Op} (h:engV e=true) (hb:batchV l=true):(engB e l).Mem.length=e.Mem.length+cntB l l.length:=by
 obtain ⟨g1,g2,g3⟩:=zhq h hb
 exact zoz l (e.Seq+1) e.Mem g1 g2 (by omega) l.length (Nat.le_refl _)
theorem zsU (key:List UInt8) {rs qs:List LogRow} (hsub:qs.Sublist rs): ∀(e f:Eng),(repS key e rs).2=true→engV f=true→f.Tables=e.Tables→f.Seq≤e.Seq→f.Mem.length≤e.Mem.length→(repS key f qs).2=true:=by
 induction hsub with
 | slnil=>intro e f _ _ _ _ _;rfl
 | @cons qs rs r hsub ih=>
   intro e f h hf ht hq hm
   simp only[repS]at h
   cases hc:(openB key r.Boot r.Seq r.Text).2&&(putR e (openB key r.Boot r.Seq r.Text).1).2 with
   | false=>rw[hc]at h;cases h
   | true=>
     rw[hc]at h
     obtain ⟨p1,p2,p3,p4⟩:=zji (Bool.and_eq_true _ _ ▸ hc:_∧_).2
     simp only[cond_true]at h
     rw[p4]at h
     refine ih _ f h hf ht ?_ ?_
     ·show f.Seq≤e.Seq+1;omega
     ·rw[zlf p1 p2];omega
 | @cons_cons qs rs r hsub ih=>
   intro e f h hf ht hq hm
   simp only[repS]at h ⊢
   cases hc:(openB key r.Boot r.Seq r.Text).2&&(putR e (openB key r.Boot r.Seq r.Text).1).2 with
   | false=>rw[hc]at h;cases h
   | true=>
     rw[hc]at h
     have hop:=(Bool.and_eq_true _ _ ▸ hc:_∧_).1
     obtain ⟨p1,p2,p3,p4⟩:=zji (Bool.and_eq_true _ _ ▸ hc:_∧_).2
     simp only[cond_true]at h
     rw[p4]at h
     obtain ⟨o1,o2,o3⟩:=(zpW p1 p2).1 p3
     have hok:okB f (openB key r.Boot r.Seq r.Text).1=true:=by
      rw[zpW hf p2,ht]
      exact ⟨by omega,by omega,by omega⟩
     have hpf:putR f (openB key r.Boot r.Seq r.Text).1=(engB f (openB key r.Boot r.Seq r.Text).1,true):=by
      unfold putR;rw[hf,p2,hok];rfl
     rw[hpf,hop]
     simp only[Bool.and_self,cond_true]
     refine ih _ _ h ?_ ht ?_ ?_
     ·rw[zmA hf p2];exact hok
     ·show f.Seq+1≤e.Seq+1;omega
     ·rw[zlf p1 p2,zlf hf p2];omega
theorem tenP.eng_is {key:List UInt8} {rows:List LogRow} {t:STen} (h:tenP key rows t):(repS key (rep0 t) rows).1=⟨t.Eng.Mem,t.Eng.Tables,t.Eng.Seq,[]⟩:=by
 obtain ⟨a,b,c⟩:=zjj key rows _ h.runs
 have d:=h.mem
 have e:=h.seq
 generalize (repS key (rep0 t) rows).1=x at a b c d
 obtain ⟨x1,x2,x3,x4⟩:=x
 simp only at a b c d
 have c':x3=t.Eng.Seq:=by rw[c];exact e
 rw[a,b,c',d]
 rfl
def atE (l:List STen) (id:Int):Int:=fstV (fun t=>decide (t.Id=id)) l
def tenE (l:List STen) (i:Int):STen:=l.getD i.toNat ⟨0,0,0,⟨[],[],0,[]⟩⟩
def noTE (id:Int) (l:List STen):List STen:=l.filter fun t=>!decide (t.Id=id)
def noLR (id:Int) (l:List LogRow):List LogRow:=l.filter fun r=>!decide (r.Tenant=id)
def ofLR (id:Int) (l:List LogRow):List LogRow:=l.filter fun r=>decide (r.Tenant=id)
def flatE (e:Eng):Eng:=(mergeS (flushS e).2).2
def flushT (t:STen):STen:=⟨t.Id,t.Epoch,(flatE t.Eng).Seq,flatE t.Eng⟩
def flushO (s:Store) (i:Int):Store:=⟨s.Secret,s.Keys,s.Shares,s.Tens.set i.toNat (flushT (tenE s.Tens i)),noLR (tenE s.Tens i).Id s.Rows,s.Hist,s.Boot⟩
def newTE (id:Int):STen:=⟨id,0,0,⟨[],[],0,[]⟩⟩
def placeE (l:List STen) (id:Int):Nat:=(l.takeWhile fun x=>decide (x.Id<id)).length
def insTE (l:List STen) (t:STen):List STen:=l.take (placeE l t.Id)++(t::l.drop (placeE l t.Id))
noncomputable def createS (s:Store) (c:Call):Store × Reply:=
 bif !decide (1≤c.Tenant∧c.Tenant≤99)||(!decide (0≤c.N∧c.N≤40)||(!decide (c.Key.length=32)||decide (atE s.Tens c.Tenant≥0))) then (s,codeR 1)
 else bif decide (4≤s.Tens.length) then (s,codeR 4)
 else bif (setR s.Shares c.Tenant c.N).2 then (⟨s.Secret,addKS s.Keys c.Tenant c.Key,(setR s.Shares c.Tenant c.N).1,insTE s.Tens (newTE c.Tenant),s.Rows,s.Hist,s.Boot⟩,⟨0,1,mintV s.Secret c.Tenant 0,[]⟩)
 else (s,codeR 6)
noncomputable def quotaS (s:Store) (c:Call):Store × Reply:=
 bif decide (0≤c.N∧c.N≤40) then (bif (setR s.Shares c.Tenant c.N).2 then (⟨s.Secret,s.Keys,(setR s.Shares c.Tenant c.N).1,s.Tens,s.Rows,s.Hist,s.Boot⟩,codeR 0) else (s,codeR 6)) else (s,codeR 1)
noncomputable def removeS (s:Store) (id:Int):Store × Reply:=
 bif decide (1000≤s.Boot)||decide (1000000≤s.Keys.Wiped) then (s,codeR 4)
 else (⟨s.Secret,wipeKS s.Keys id,(shareDropR s.Shares id).1,noTE id s.Tens,noLR id s.Rows,s.Hist,s.Boot+1⟩,codeR 0)
def withT (s:Store) (i:Int) (t:STen):Store:=⟨s.Secret,s.Keys,s.Shares,s.Tens.set i.toNat t,s.Rows,s.Hist,s.Boot⟩
noncomputable def rotateS (s:Store) (i:Int):Store × Reply:=
 bif decide ((tenE s.Tens i).Epoch≥1000000) then (s,codeR 4)
 else (withT s i ⟨(tenE s.Tens i).Id,(tenE s.Tens i).Epoch+1,(tenE s.Tens i).Base,(tenE s.Tens i).Eng⟩,⟨0,0,mintV s.Secret (tenE s.Tens i).Id ((tenE s.Tens i).Epoch+1),[]⟩)
noncomputable def ownS (s:Store) (c:Call):Store × Reply:=
 bif decide (atE s.Tens c.Tenant<0) then (s,codeR 5)
 else bif decide (c.Kind=2) then quotaS s c
 else bif decide (c.Kind=3) then removeS s c.Tenant
 else bif decide (c.Kind=4) then rotateS s (atE s.Tens c.Tenant)
 else (flushO s (atE s.Tens c.Tenant),codeR 0)
def markL (r:LogRow):LogRow:=⟨r.Tenant,r.Boot,r.Seq,r.Text,true⟩
def syncS (s:Store):Store:=⟨s.Secret,s.Keys,s.Shares,s.Tens,s.Rows.map markL,s.Hist,s.Boot⟩
def keepL:Int→List LogRow→List LogRow
 | _,[]=>[]
 | n,r::l=>bif r.Synced then markL r::keepL n l else bif decide (n<1) then keepL n l else markL r::keepL (n - 1) l
noncomputable def crashT (key:List UInt8) (rows:List LogRow) (t:STen):STen:=⟨t.Id,t.Epoch,t.Base,(repS key (rep0 t) rows).1⟩
noncomputable def crashS (s:Store) (n:Int):Store × Reply:=
 bif decide (1000≤s.Boot) then (s,codeR 4)
 else ({Secret:=s.Secret,Keys:=s.Keys,Shares:=s.Shares,Tens:=s.Tens.map fun t=>crashT (keyOfV s.Keys t.Id) (ofLR t.Id (keepL n s.Rows)) t,Rows:=keepL n s.Rows,Hist:=s.Hist,Boot:=s.Boot+1},codeR 0)
noncomputable def valR (e:Eng) (key:List UInt8) (seq:Int):Reply:=bif (getR e key seq).2 then ⟨0,0,(getR e key seq).1,[]⟩ else codeR 5
noncomputable def putS (s a:Store) (i:Int) (ops:List Op):Store:=
 ⟨a.Secret,a.Keys,a.Shares,a.Tens.set i.toNat ⟨(tenE a.Tens i).Id,(tenE a.Tens i).Epoch,(tenE a.Tens i).Base,engB (tenE a.Tens i).Eng ops⟩,a.Rows++ [⟨(tenE a.Tens i).Id,a.Boot,(tenE a.Tens i).Eng.Seq+1,sealB (keyOfV a.Keys (tenE a.Tens i).Id) a.Boot ((tenE a.Tens i).Eng.Seq+1) ops,false⟩],s.Hist++ [⟨(tenE a.Tens i).Id,a.Boot,(tenE a.Tens i).Eng.Seq+1,sealB (keyOfV a.Keys (tenE a.Tens i).Id) a.Boot ((tenE a.Tens i).Eng.Seq+1) ops,false⟩],a.Boot⟩
noncomputable def roomS (s:Store) (i:Int):Store:=bif decide (6≤(ofLR (tenE s.Tens i).Id s.Rows).length) then flushO s i else s
noncomputable def writeS (s:Store) (i:Int) (ops:List Op):Store × Reply:=
 bif decide (120≤s.Hist.length) then (s,codeR 4)
 else bif batchV ops then
  (bif decide ((bytesN (applyK (mapR (tenE s.Tens i).Eng (tenE s.Tens i).Eng.Seq) ops):Int)>quoV (-1) s.Shares (tenE s.Tens i).Id) then (s,codeR 3)
 else bif okB (tenE (roomS s i).Tens i).Eng ops&& !decide (sealB (keyOfV s.Keys (tenE s.Tens i).Id) s.Boot ((tenE s.Tens i).Eng.Seq+1) ops= []) then
    (putS s (roomS s i) i ops,⟨0,(tenE s.Tens i).Eng.Seq+1,[],[]⟩)
 else (s,codeR 4))
 else (s,codeR 1)
def withE (s:Store) (i:Int) (l:List Int):Store:=
 withT s i ⟨(tenE s.Tens i).Id,(tenE s.Tens i).Epoch,(tenE s.Tens i).Base,⟨(tenE s.Tens i).Eng.Mem,(tenE s.Tens i).Eng.Tables,(tenE s.Tens i).Eng.Seq,l⟩⟩
def snapS (s:Store) (i:Int):Store × Reply:=
 bif decide ((tenE s.Tens i).Eng.Seq∈(tenE s.Tens i).Eng.Snaps) then (s,⟨0,(tenE s.Tens i).Eng.Seq,[],[]⟩)
 else bif decide (2≤(tenE s.Tens i).Eng.Snaps.length) then (s,codeR 4)
 else (withE s i ((tenE s.Tens i).Eng.Snaps++ [(tenE s.Tens i).Eng.Seq]),⟨0,(tenE s.Tens i).Eng.Seq,[],[]⟩)
noncomputable def heldS (s:Store) (i:Int) (c:Call):Store × Reply:=
 bif decide (c.N∈(tenE s.Tens i).Eng.Snaps) then
  (bif decide (c.Kind=10) then (s,valR (tenE s.Tens i).Eng c.Key c.N) else (withE s i (dropS (tenE s.Tens i).Eng.Snaps c.N),codeR 0))
 else (s,codeR 5)
noncomputable def tenS (s:Store) (i:Int) (c:Call):Store × Reply:=
 bif decide (c.Kind=5) then writeS s i c.Ops
 else bif decide (c.Kind=6) then (s,valR (tenE s.Tens i).Eng c.Key (tenE s.Tens i).Eng.Seq)
 else bif decide (c.Kind=7) then (s,⟨0,0,[],scanV (mapR (tenE s.Tens i).Eng (tenE s.Tens i).Eng.Seq) c.Key c.To⟩)
 else bif decide (c.Kind=8) then snapS s i
 else bif decide (c.Kind=11) then (s,⟨0,(bytesN (mapR (tenE s.Tens i).Eng (tenE s.Tens i).Eng.Seq):Int),[],[]⟩)
 else heldS s i c
noncomputable def callS (s:Store) (c:Call):Store × Reply:=
 bif !(tokR s.Secret c.Token).2.2||(decide (atE s.Tens (tokR s.Secret c.Token).1<0)|| !decide ((tenE s.Tens (atE s.Tens (tokR s.Secret c.Token).1)).Epoch=(tokR s.Secret c.Token).2.1)) then (s,codeR 2)
 else tenS s (atE s.Tens (tokR s.Secret c.Token).1) c
noncomputable def doS (s:Store) (c:Call):Store × Reply:=
 bif decide (c.Kind=1) then createS s c
 else bif decide (c.Kind=12) then (syncS s,codeR 0)
 else bif decide (c.Kind=14) then crashS s c.N
 else bif decide (2≤c.Kind∧c.Kind≤4)||decide (c.Kind=13) then ownS s c
 else bif decide (5≤c.Kind∧c.Kind≤11) then callS s c
 else (s,codeR 1)
theorem zdC (l:List STen) (id:Int):(∃j,∃hj:j<l.length,atE l id=(j:Int)∧l[j].Id=id∧∀i (hi:i<j),¬(l[i]'(by omega)).Id=id)∨(atE l id= -1∧∀x∈l,¬x.Id=id):=by
 rcases zis (fun t:STen=>decide (t.Id=id)) l with ⟨j,hj,e,h1,h2⟩ | ⟨e,h1⟩
 ·exact .inl ⟨j,hj,e,of_decide_eq_true h1,fun i hi=>of_decide_eq_false (h2 i hi)⟩
 ·exact .inr ⟨e,fun x hx=>of_decide_eq_false (h1 x hx)⟩
theorem zP (l:List STen) (j:Nat) (hj:j<l.length):tenE l (j:Int)=l[j]:=by
 unfold tenE
 rw[Int.toNat_natCast,List.getD_eq_getElem?_getD,List.getElem?_eq_getElem hj]
 rfl
theorem zpV (id:Int) (l:List LogRow):ofLR id (noLR id l)= []:=by
 unfold ofLR noLR
 rw[List.filter_filter,List.filter_eq_nil_iff]
 intro x _
 simp
theorem zjf {id k:Int} (h: ¬k=id) (l:List LogRow):ofLR k (noLR id l)=ofLR k l:=by
 unfold ofLR noLR
 rw[List.filter_filter]
 refine List.filter_congr fun x _=>?_
 by_cases c:x.Tenant=k
 ·rw[decide_eq_true c,decide_eq_false (by omega)];rfl
 ·rw[decide_eq_false c];rfl
theorem zje (id:Int) (l k:List LogRow):ofLR id (l++k)=ofLR id l++ofLR id k:=List.filter_append _ _
theorem zl7 {α:Type} {l:List α} {j:Nat} {t x:α} (h:x∈l.set j t):x=t∨∃i,∃hi:i<l.length,¬i=j∧x=l[i]:=by
 obtain ⟨i,hi,e⟩:=List.getElem_of_mem h
 rw[List.getElem_set]at e
 split at e
 ·exact .inl e.symm
 ·rename_i c
  exact .inr ⟨i,by simpa using hi,fun e2=>c e2.symm,e.symm⟩
theorem set_mapE {l:List STen} {j:Nat} (hj:j<l.length) {t:STen} (h:t.Id=l[j].Id):(l.set j t).map STen.Id=l.map STen.Id:=by
 rw[List.map_set]
 refine List.ext_getElem (by simp) fun i h1 h2=>?_
 rw[List.getElem_set]
 split
 ·rename_i e;subst e;simp[h]
 ·rfl
theorem storeP.lt {s:Store} (h:storeP s):s.Tens.Pairwise fun a b=>a.Id<b.Id:=by
 have h1:=((zce _).1 h.keys).2.2.2.2
 have h2:(s.Keys.Slots.map KeySlot.Tenant).Pairwise (·< ·):=List.pairwise_map.2 h1
 rw[←h.slots]at h2
 exact List.pairwise_map.1 h2
theorem storeP.ne {s:Store} (h:storeP s) {i j:Nat} (hi:i<s.Tens.length) (hj:j<s.Tens.length) (hij: ¬i=j): ¬s.Tens[i].Id=s.Tens[j].Id:=by
 have:=List.pairwise_iff_getElem.1 h.lt
 rcases Nat.lt_or_ge i j with c | c
 ·have:=this i j hi hj c;omega
 ·have:=this j i hj hi (by omega);omega
theorem storeP.at {s:Store} (h:storeP s) (j:Nat) (hj:j<s.Tens.length):atE s.Tens s.Tens[j].Id=(j:Int):=by
 rcases zdC s.Tens s.Tens[j].Id with ⟨i,hi,e,h1,_⟩ | ⟨_,h1⟩
 ·by_cases c:i=j
  ·rw[e,c]
  ·exact absurd h1 (h.ne hi hj c)
 ·exact absurd rfl (h1 _ (List.getElem_mem hj))
theorem storeP.lens {s:Store} (h:storeP s):s.Tens.length=s.Keys.Slots.length∧s.Tens.length=s.Shares.List.length∧s.Tens.length≤4:=by
 have h1:=congrArg List.length h.slots
 have h2:=congrArg List.length h.ids
 have h3:=((zce _).1 h.keys).2.1
 simp only[List.length_map]at h1 h2
 omega
theorem storeP.slot {s:Store} (h:storeP s) {t:STen} (ht:t∈s.Tens): ∃x∈s.Keys.Slots,x.Tenant=t.Id:=by
 have:t.Id∈s.Tens.map STen.Id:=List.mem_map_of_mem ht
 rw[h.slots]at this
 exact List.mem_map.1 this
theorem zo2 {s:Store} (h:storeP s) (j:Nat) (hj:j<s.Tens.length) (t:STen) (hid:t.Id=s.Tens[j].Id) (ht:tenP (keyOfV s.Keys t.Id) (ofLR t.Id s.Rows) t):storeP (withT s (j:Int) t):=by
 unfold withT
 rw[Int.toNat_natCast]
 refine ⟨h.secret,h.keys,h.shares,h.boot,h.hist,?_,?_,fun x hx=>?_,fun r hr=>?_⟩
 ·exact (set_mapE hj hid).trans h.slots
 ·exact (set_mapE hj hid).trans h.ids
 ·rcases List.mem_or_eq_of_mem_set hx with hx | rfl
  ·exact h.tens x hx
  ·exact ht
 ·obtain ⟨x,hx,e⟩:=h.rows r hr
  have:r.Tenant∈(s.Tens.set j t).map STen.Id:=by rw[set_mapE hj hid,←e];exact List.mem_map_of_mem hx
  exact List.mem_map.1 this
theorem zgp (e:Eng):(flatE e).Seq=e.Seq∧(flatE e).Snaps=e.Snaps:=by
 obtain ⟨a,b,c⟩:=zjb (flushS e).2
 obtain ⟨d,f⟩:=zlM e
 exact ⟨b.trans d,c.trans f⟩
theorem zsx {e:Eng} (h:e.Tables.length≤1):(flatE e).Mem= []:=by
 obtain ⟨a,b,c⟩:=zjb (flushS e).2
 refine a.trans ?_
 by_cases c1:e.Mem.length=0∨6≤e.Tables.length
 ·rw[zfX c1]
  rcases c1 with c1 | c1
  ·exact List.eq_nil_of_length_eq_zero c1
  ·omega
 ·rw[zg2 c1]
theorem zpI {e:Eng} (h:engV e=true):engV (flatE e)=true:=zrI (zjT h)
theorem zrk (e:Eng):(flatE e).Tables.length≤1:=by
 unfold flatE mergeS
 cases c:decide ((flushS e).2.Tables.length=0) with
 | true=>
   have:=of_decide_eq_true c
   simp only[cond_true]
   omega
 | false=>exact (zoV _).1
theorem zsy {key:List UInt8} {rows:List LogRow} {t:STen} (h:tenP key rows t):tenP key [] (flushT t):=by
 obtain ⟨a,b⟩:=zgp t.Eng
 have hm:=zsx h.tabs
 have hok:=zpI h.eng
 have hseq:=(zbv h.eng).1
 have h0:=zg1 hok (l:=[]) (by simp) rfl
 refine ⟨h.ep,?_,?_,zrk t.Eng,hok,by simp,?_,rfl,?_,rfl,?_⟩
 ·show 0≤(flatE t.Eng).Seq∧(flatE t.Eng).Seq≤1000000
  rw[a];exact hseq
 ·show (flatE t.Eng).Snaps.length≤2
  rw[b];exact h.snaps
 ·show (flatE t.Eng).Seq+((([]:List LogRow).length:Nat):Int)=(flatE t.Eng).Seq
  simp
 ·rw[hm]at h0
  exact h0
 ·exact hm.symm
theorem znj {s:Store} (h:storeP s) (j:Nat) (hj:j<s.Tens.length):storeP (flushO s (j:Int)):=by
 unfold flushO
 rw[zP _ j hj,Int.toNat_natCast]
 have hm:(s.Tens.set j (flushT s.Tens[j])).map STen.Id=s.Tens.map STen.Id:=set_mapE hj rfl
 refine ⟨h.secret,h.keys,h.shares,h.boot,h.hist,hm.trans h.slots,hm.trans h.ids,fun x hx=>?_,fun r hr=>?_⟩
 ·rcases zl7 hx with rfl | ⟨i,hi,hij,rfl⟩
  ·have:=zsy (h.tens _ (List.getElem_mem hj))
   show tenP (keyOfV s.Keys s.Tens[j].Id) (ofLR s.Tens[j].Id (noLR s.Tens[j].Id s.Rows)) _
   rw[zpV]
   exact this
  ·have:=h.tens _ (List.getElem_mem hi)
   show tenP (keyOfV s.Keys s.Tens[i].Id) (ofLR s.Tens[i].Id (noLR s.Tens[j].Id s.Rows)) _
   rw[zjf (h.ne hi hj hij)]
   exact this
 ·obtain ⟨x,hx,e⟩:=h.rows r (List.mem_filter.1 hr).1
  have:r.Tenant∈(s.Tens.set j (flushT s.Tens[j])).map STen.Id:=by rw[hm,←e];exact List.mem_map_of_mem hx
  exact List.mem_map.1 this
theorem zoX {α β:Type} (f:α→β) (p:β→Bool): ∀l:List α,(l.takeWhile fun x=>p (f x)).length=((l.map f).takeWhile p).length
 | []=>rfl
 | a::l=>by
   rw[List.takeWhile_cons,List.map_cons,List.takeWhile_cons]
   cases p (f a) with
   | true=>simp only[if_true,List.length_cons,zoX f p l]
   | false=>rfl
theorem zs9 {α:Type} (p:α→Bool) {A B:List α} (hA: ∀a∈A,p a=true) (hB: ∀b∈B,p b=false):((A++B).takeWhile p).length=A.length:=by
 induction A with
 | nil=>
   cases B with
   | nil=>rfl
   | cons b B=>
     rw[List.nil_append,List.takeWhile_cons,hB b (by simp)]
     rfl
 | cons a A ih=>
   rw[List.cons_append,List.takeWhile_cons,hA a (by simp)]
   simp only[if_true,List.length_cons,ih fun x hx=>hA x (by simp[hx])]
def insI (l:List Int) (id:Int):List Int:=l.take (l.takeWhile fun x=>decide (x<id)).length++(id::l.drop (l.takeWhile fun x=>decide (x<id)).length)
theorem znl (l:List STen) (t:STen):(insTE l t).map STen.Id=insI (l.map STen.Id) t.Id:=by
 unfold insTE insI placeE
 rw[zoX STen.Id (fun x=>decide (x<t.Id)) l,List.map_append,List.map_cons,List.map_take,List.map_drop]
theorem zq1 (d:KeyDev) (id:Int) (key:List UInt8):(addKS d id key).Slots.map KeySlot.Tenant=insI (d.Slots.map KeySlot.Tenant) id:=by
 unfold addKS insI placeK
 simp only
 rw[zoX KeySlot.Tenant (fun x=>decide (x<id)) d.Slots,List.map_append,List.map_cons,List.map_take,List.map_drop]
theorem zqs {L R:List Share} {id q:Int} (hL: ∀y∈L,y.Tenant<id) (hR: ∀y∈R,id<y.Tenant):insI ((L++R).map Share.Tenant) id=(L++(⟨id,q⟩::R)).map Share.Tenant:=by
 unfold insI
 rw[List.map_append,zs9 (fun x=>decide (x<id)) (A:=L.map Share.Tenant) (B:=R.map Share.Tenant) (fun a ha=>by obtain ⟨y,hy,rfl⟩:=List.mem_map.1 ha;exact decide_eq_true (hL y hy)) (fun a ha=>by obtain ⟨y,hy,rfl⟩:=List.mem_map.1 ha;exact decide_eq_false (by have:=hR y hy;omega)),
  List.take_left,List.drop_left,List.map_append,List.map_cons]
theorem zrp {l:List STen} {t x:STen} (h:x∈insTE l t):x=t∨x∈l:=by
 unfold insTE at h
 rcases List.mem_append.1 h with h | h
 ·exact .inr (List.mem_of_mem_take h)
 ·rcases List.mem_cons.1 h with h | h
  ·exact .inl h
  ·exact .inr (List.mem_of_mem_drop h)
theorem zq2 {d:KeyDev} {id:Int} {key:List UInt8} {x:KeySlot} (h:x∈d.Slots):x∈(addKS d id key).Slots:=by
 unfold addKS
 simp only[List.mem_append,List.mem_cons]
 rw[←List.take_append_drop (placeK d.Slots id) d.Slots,List.mem_append]at h
 rcases h with h | h
 ·exact .inl h
 ·exact .inr (.inr h)
theorem ztr (key:List UInt8) (id:Int):tenP key [] (newTE id):=
 ⟨by simp[newTE],by simp[newTE],by simp[newTE],by simp[newTE],rfl,by simp,by simp[newTE],rfl,rfl,rfl,rfl⟩
theorem zqi {s:Store} (h:storeP s) (c:Call):storeP (createS s c).1:=by
 unfold createS
 cases hb:(!decide (1≤c.Tenant∧c.Tenant≤99)||(!decide (0≤c.N∧c.N≤40)||(!decide (c.Key.length=32)||decide (atE s.Tens c.Tenant≥0)))) with
 | true=>exact h
 | false=>
   cases h4:decide (4≤s.Tens.length) with
   | true=>exact h
   | false=>
     cases hr:(setR s.Shares c.Tenant c.N).2 with
     | false=>exact h
     | true=>
       simp only[cond_true,cond_false]
       obtain ⟨L,M,R,h1,h2,h3,h5,h6,h7,h8⟩:=znD s.Shares c.Tenant c.N h.shares hr
       simp only[Bool.or_eq_false_iff]at hb
       have hat: ¬atE s.Tens c.Tenant≥0:=of_decide_eq_false hb.2.2.2
       have hti:1≤c.Tenant∧c.Tenant≤99:=by simpa using hb.1
       have hkl:c.Key.length=32:=by simpa using hb.2.2.1
       have h4':=of_decide_eq_false h4
       have hno: ∀x∈s.Tens,¬x.Id=c.Tenant:=by
        rcases zdC s.Tens c.Tenant with ⟨j,_,e,_,_⟩ | ⟨_,g⟩
        ·omega
        ·exact g
       have hM:M= []:=by
        rcases h5 with h5 | ⟨y,h5,h9⟩
        ·exact h5
        ·exfalso
         have hmem:y.Tenant∈s.Tens.map STen.Id:=by
          rw[h.ids,h1,h5]
          exact List.mem_map_of_mem (by simp)
         obtain ⟨x,hx,hxe⟩:=List.mem_map.1 hmem
         exact hno x hx (hxe.trans h9)
       subst hM
       rw[List.nil_append]at h1
       obtain ⟨l1,l2,l3⟩:=h.lens
       have hns: ∀x∈s.Keys.Slots,¬x.Tenant=c.Tenant:=by
        intro x hx e
        have hmem:x.Tenant∈s.Tens.map STen.Id:=by rw[h.slots];exact List.mem_map_of_mem hx
        obtain ⟨y,hy,hye⟩:=List.mem_map.1 hmem
        exact hno y hy (hye.trans e)
       have hk:=zoc (key:=c.Key) h.keys hti hkl (by omega) hns
       refine ⟨h.secret,hk,h6,h.boot,h.hist,?_,?_,fun x hx=>?_,fun r hr2=>?_⟩
       ·exact (znl _ _).trans ((congrArg (fun l=>insI l c.Tenant) h.slots).trans (zq1 _ _ _).symm)
       ·refine (znl _ _).trans ?_
        show insI (s.Tens.map STen.Id) c.Tenant=_
        rw[h.ids,h1,h7]
        exact zqs h2 h3
       ·rcases zrp hx with rfl | hx
        ·have:rowsV s c.Tenant= []:=by
          unfold rowsV
          rw[List.filter_eq_nil_iff]
          intro r hr3 e
          obtain ⟨t,ht,e2⟩:=h.rows r hr3
          exact hno t ht (e2.trans (of_decide_eq_true e))
         show tenP _ (rowsV s c.Tenant) _
         rw[this]
         exact ztr _ _
        ·obtain ⟨y,hy,e⟩:=h.slot hx
         have:=h.tens x hx
         rw[←e,zia h.keys hy,←zia hk (zq2 hy),e]at this
         exact this
       ·obtain ⟨t,ht,e⟩:=h.rows r hr2
        have:r.Tenant∈(insTE s.Tens (newTE c.Tenant)).map STen.Id:=by
         rw[←e]
         refine List.mem_map_of_mem ?_
         unfold insTE
         rw[←List.take_append_drop (placeE s.Tens (newTE c.Tenant).Id) s.Tens,List.mem_append]at ht
         simp only[List.mem_append,List.mem_cons]
         rcases ht with ht | ht
         ·exact .inl ht
         ·exact .inr (.inr ht)
        exact List.mem_map.1 this
theorem zrO {s:Store} (h:storeP s) (c:Call) (hin: ∃x∈s.Tens,x.Id=c.Tenant):storeP (quotaS s c).1:=by
 unfold quotaS
 cases decide (0≤c.N∧c.N≤40) with
 | false=>exact h
 | true=>
   cases hr:(setR s.Shares c.Tenant c.N).2 with
   | false=>exact h
   | true=>
     simp only[cond_true]
     obtain ⟨L,M,R,h1,h2,h3,h5,h6,h7,h8⟩:=znD s.Shares c.Tenant c.N h.shares hr
     refine ⟨h.secret,h.keys,h6,h.boot,h.hist,h.slots,?_,h.tens,h.rows⟩
     show s.Tens.map STen.Id=_
     rw[h.ids,h7,h1]
     rcases h5 with rfl | ⟨y,rfl,h9⟩
     ·exfalso
      obtain ⟨x,hx,hxe⟩:=hin
      have hmem:x.Id∈s.Tens.map STen.Id:=List.mem_map_of_mem hx
      rw[h.ids,h1,List.nil_append]at hmem
      obtain ⟨y,hy,hye⟩:=List.mem_map.1 hmem
      rcases List.mem_append.1 hy with hy | hy
      ·have:=h2 y hy;omega
      ·have:=h3 y hy;omega
     ·simp[h9]
theorem zqK {s:Store} (h:storeP s) (id:Int):storeP (removeS s id).1:=by
 unfold removeS
 cases hb:(decide (1000≤s.Boot)||decide (1000000≤s.Keys.Wiped)) with
 | true=>exact h
 | false=>
   simp only[Bool.or_eq_false_iff,decide_eq_false_iff_not]at hb
   simp only[cond_false]
   rw[zqm id h.shares]
   have hboot:=h.boot
   have hk:=zsc id h.keys (by omega)
   refine ⟨h.secret,hk,zoM id h.shares,by simp only;omega,h.hist,?_,?_,fun x hx=>?_,fun r hr=>?_⟩
   ·show (noTE id s.Tens).map STen.Id=(wipeKS s.Keys id).Slots.map KeySlot.Tenant
    unfold noTE wipeKS
    simp only
    rw[zdw STen.Id (fun x=>!decide (x.Id=id)) (fun x=>!decide (x=id)) (fun _=>rfl),zdw KeySlot.Tenant (fun x=>!decide (x.Tenant=id)) (fun x=>!decide (x=id)) (fun _=>rfl),h.slots]
   ·show (noTE id s.Tens).map STen.Id=(dropT s.Shares.List id).map Share.Tenant
    rw[zrh]
    unfold noTE
    rw[zdw STen.Id (fun x=>!decide (x.Id=id)) (fun x=>!decide (x=id)) (fun _=>rfl),h.ids]
   ·obtain ⟨hx1,hx2⟩:=List.mem_filter.1 hx
    have hne: ¬x.Id=id:=by simpa using hx2
    have ht:=h.tens x hx1
    obtain ⟨y,hy,e⟩:=h.slot hx1
    have hy2:y∈(wipeKS s.Keys id).Slots:=List.mem_filter.2 ⟨hy,by simp[e,hne]⟩
    show tenP (keyOfV (wipeKS s.Keys id) x.Id) (ofLR x.Id (noLR id s.Rows)) x
    rw[zjf hne]
    rw[←e,zia h.keys hy,←zia hk hy2,e]at ht
    exact ht
   ·obtain ⟨hr1,hr2⟩:=List.mem_filter.1 hr
    have hne: ¬r.Tenant=id:=by simpa using hr2
    obtain ⟨t,ht,e⟩:=h.rows r hr1
    exact ⟨t,List.mem_filter.2 ⟨ht,by simp[e,hne]⟩,e⟩
theorem zqN {s:Store} (h:storeP s) (j:Nat) (hj:j<s.Tens.length):storeP (rotateS s (j:Int)).1:=by
 unfold rotateS
 rw[zP _ j hj]
 have ht:=h.tens _ (List.getElem_mem hj)
 have hep:=ht.ep
 by_cases c:s.Tens[j].Epoch≥1000000
 ·rw[decide_eq_true c];exact h
 ·rw[decide_eq_false c]
  exact zo2 h j hj _ rfl ⟨by simp only;omega,ht.base,ht.snaps,ht.tabs,ht.eng,ht.few,ht.seq,ht.seqs,ht.start,ht.runs,ht.mem⟩
theorem zkf (id:Int) (l:List LogRow):ofLR id (l.map markL)=(ofLR id l).map markL:=by
 unfold ofLR
 rw[List.filter_map]
 rfl
theorem zic (key:List UInt8): ∀(l:List LogRow) (e:Eng),repS key e (l.map markL)=repS key e l
 | [],e=>rfl
 | r::l,e=>by
   simp only[List.map_cons,repS,markL]
   cases (openB key r.Boot r.Seq r.Text).2&&(putR e (openB key r.Boot r.Seq r.Text).1).2 with
   | false=>rfl
   | true=>exact zic key l _
theorem tenP.mark {key:List UInt8} {rows:List LogRow} {t:STen} (h:tenP key rows t):tenP key (rows.map markL) t:=by
 refine ⟨h.ep,h.base,h.snaps,h.tabs,h.eng,by rw[List.length_map];exact h.few,by rw[List.length_map];exact h.seq,?_,h.start,by rw[zic];exact h.runs,by rw[zic];exact h.mem⟩
 rw[zfQ]
 intro i hi
 rw[List.getElem_map]
 exact (zfQ _ _).1 h.seqs i (by simpa using hi)
theorem zs4 {s:Store} (h:storeP s):storeP (syncS s):=by
 refine ⟨h.secret,h.keys,h.shares,h.boot,h.hist,h.slots,h.ids,fun x hx=>?_,fun r hr=>?_⟩
 ·show tenP _ (ofLR x.Id (s.Rows.map markL)) x
  rw[zkf]
  exact (h.tens x hx).mark
 ·obtain ⟨q,hq,rfl⟩:=List.mem_map.1 hr
  exact h.rows q hq
def syncP (l:List LogRow):Prop:=l.Pairwise fun a b=>b.Synced=true→a.Synced=true
theorem zl0: ∀(l:List LogRow) (n:Int),n<1→(∀r∈l,r.Synced=false)→keepL n l= []
 | [],_,_,_=>rfl
 | r::l,n,hn,h=>by
   simp only[keepL]
   rw[h r (by simp),decide_eq_true hn]
   exact zl0 l n hn fun x hx=>h x (by simp[hx])
theorem zhb: ∀(l:List LogRow) (n:Int),syncP l→∃k,keepL n l=(l.take k).map markL
 | [],n,_=>⟨0,rfl⟩
 | r::l,n,h=>by
   obtain ⟨h1,h2⟩:=List.pairwise_cons.1 h
   simp only[keepL]
   cases hs:r.Synced with
   | true=>
     obtain ⟨k,hk⟩:=zhb l n h2
     exact ⟨k+1,by simp only[cond_true,hk,List.take_succ_cons,List.map_cons]⟩
   | false=>
     have hu: ∀x∈l,x.Synced=false:=by
      intro x hx
      cases hc:x.Synced with
      | false=>rfl
      | true=>rw[h1 x hx hc]at hs;cases hs
     by_cases hn:n<1
     ·rw[decide_eq_true hn]
      simp only[cond_true,cond_false]
      exact ⟨0,zl0 l n hn hu⟩
     ·rw[decide_eq_false hn]
      obtain ⟨k,hk⟩:=zhb l (n - 1) h2
      exact ⟨k+1,by simp only[cond_false,hk,List.take_succ_cons,List.map_cons]⟩
theorem zj7: ∀(l:List LogRow) (n:Int) (r:LogRow),r∈keepL n l→∃q∈l,r=markL q
 | [],n,r,h=>by cases h
 | q::l,n,r,h=>by
   simp only[keepL]at h
   have go: ∀m,r∈keepL m l→∃x∈q::l,r=markL x:=fun m h=>by
    obtain ⟨x,hx,e⟩:=zj7 l m r h
    exact ⟨x,by simp[hx],e⟩
   cases hs:q.Synced with
   | true=>
     rw[hs]at h
     rcases List.mem_cons.1 h with rfl | h
     ·exact ⟨q,by simp,rfl⟩
     ·exact go _ h
   | false=>
     rw[hs]at h
     cases hn:decide (n<1) with
     | true=>rw[hn]at h;exact go _ h
     | false=>
       rw[hn]at h
       rcases List.mem_cons.1 h with rfl | h
       ·exact ⟨q,by simp,rfl⟩
       ·exact go _ h
theorem zj8: ∀(l:List LogRow) (n:Int),∃q:List LogRow,q.Sublist l∧keepL n l=q.map markL
 | [],n=>⟨[],.slnil,rfl⟩
 | r::l,n=>by
   simp only[keepL]
   obtain ⟨q1,a1,b1⟩:=zj8 l n
   obtain ⟨q2,a2,b2⟩:=zj8 l (n - 1)
   cases r.Synced with
   | true=>exact ⟨r::q1,a1.cons_cons r,by simp only[cond_true,b1,List.map_cons]⟩
   | false=>
     cases decide (n<1) with
     | true=>exact ⟨q1,a1.cons r,by simp only[cond_true,cond_false,b1]⟩
     | false=>exact ⟨r::q2,a2.cons_cons r,by simp only[cond_false,b2,List.map_cons]⟩
theorem tenP.part {key:List UInt8} {rows qs:List LogRow} {t:STen} (h:tenP key rows t) (hs:qs.Sublist rows):(repS key (rep0 t) (qs.map markL)).2=true:=by
 rw[zic]
 exact zsU key hs (rep0 t) (rep0 t) h.runs h.start rfl (Int.le_refl _) (Nat.le_refl _)
theorem zsl {key:List UInt8} {rows:List LogRow} {t:STen} (h:tenP key rows t) (k:Nat):tenP key ((rows.take k).map markL) (crashT key ((rows.take k).map markL) t):=by
 have hr:=h.part (List.take_sublist k rows)
 have he:=zp3 key _ _ h.start hr
 obtain ⟨a,b,c⟩:=zjj key _ _ hr
 have hfew:=h.few
 have hlen:((rows.take k).map markL).length≤rows.length:=by simp only[List.length_map,List.length_take];omega
 refine ⟨h.ep,h.base,?_,?_,he,by omega,c.symm,?_,?_,?_,?_⟩
 ·show (repS key (rep0 t) _).1.Snaps.length≤2
  rw[b];simp[rep0]
 ·show (repS key (rep0 t) _).1.Tables.length≤1
  rw[a];exact h.tabs
 ·rw[zfQ]
  intro i hi
  simp only[List.length_map,List.length_take]at hi
  rw[List.getElem_map,List.getElem_take]
  exact (zfQ _ _).1 h.seqs i (by omega)
 ·have:rep0 (crashT key ((rows.take k).map markL) t)=rep0 t:=by
   unfold rep0 crashT
   rw[a]
   rfl
  rw[this];exact h.start
 ·have:rep0 (crashT key ((rows.take k).map markL) t)=rep0 t:=by
   unfold rep0 crashT
   rw[a]
   rfl
  rw[this];exact hr
 ·have:rep0 (crashT key ((rows.take k).map markL) t)=rep0 t:=by
   unfold rep0 crashT
   rw[a]
   rfl
  rw[this];rfl
theorem zrb {s:Store} (h:storeP s) (hs:syncP s.Rows) (n:Int):storeP (crashS s n).1:=by
 unfold crashS
 by_cases hb:1000≤s.Boot
 ·rw[decide_eq_true hb];exact h
 ·rw[decide_eq_false hb]
  obtain ⟨k,hk⟩:=zhb s.Rows n hs
  have hboot:=h.boot
  have hm:(s.Tens.map fun t=>crashT (keyOfV s.Keys t.Id) (ofLR t.Id (keepL n s.Rows)) t).map STen.Id=s.Tens.map STen.Id:=by rw[List.map_map];rfl
  refine ⟨h.secret,h.keys,h.shares,by simp only[cond_false];omega,h.hist,hm.trans h.slots,hm.trans h.ids,fun x hx=>?_,fun r hr=>?_⟩
  ·obtain ⟨t,ht,rfl⟩:=List.mem_map.1 hx
   have h1:=h.tens t ht
   show tenP (keyOfV s.Keys t.Id) (ofLR t.Id (keepL n s.Rows)) _
   rw[hk,zkf]
   have hp:ofLR t.Id (s.Rows.take k) <+: ofLR t.Id s.Rows:=(List.take_prefix k s.Rows).filter _
   rw[List.prefix_iff_eq_take.1 hp]
   exact zsl h1 _
  ·obtain ⟨q,hq,rfl⟩:=zj7 _ _ _ hr
   obtain ⟨t,ht,e⟩:=h.rows q hq
   exact ⟨_,List.mem_map_of_mem ht,e⟩
theorem zsW {s:Store} (h:storeP s) (j:Nat) (hj:j<s.Tens.length):storeP (roomS s (j:Int)):=by
 unfold roomS
 cases decide (6≤(ofLR (tenE s.Tens (j:Int)).Id s.Rows).length) with
 | true=>exact znj h j hj
 | false=>exact h
theorem zsV (s:Store) (j:Nat) (hj:j<s.Tens.length):(roomS s (j:Int)).Tens.length=s.Tens.length∧(roomS s (j:Int)).Keys=s.Keys∧(roomS s (j:Int)).Boot=s.Boot∧(roomS s (j:Int)).Secret=s.Secret∧(roomS s (j:Int)).Shares=s.Shares∧(roomS s (j:Int)).Hist=s.Hist∧
 (tenE (roomS s (j:Int)).Tens (j:Int)).Id=s.Tens[j].Id∧(tenE (roomS s (j:Int)).Tens (j:Int)).Epoch=s.Tens[j].Epoch∧(tenE (roomS s (j:Int)).Tens (j:Int)).Eng.Seq=s.Tens[j].Eng.Seq∧(ofLR s.Tens[j].Id (roomS s (j:Int)).Rows).length≤5:=by
 unfold roomS
 rw[zP _ j hj]
 cases c:decide (6≤(ofLR s.Tens[j].Id s.Rows).length) with
 | true=>
   simp only[cond_true]
   unfold flushO
   simp only[zP _ j hj,Int.toNat_natCast]
   rw[zP _ j (by simpa using hj),List.getElem_set_self,zpV]
   exact ⟨by simp,by simp,by simp,by simp,by simp,by simp,by simp[flushT],by simp[flushT],by simp[flushT,(zgp s.Tens[j].Eng).1],by simp⟩
 | false=>
   have:=of_decide_eq_false c
   simp only[cond_false]
   rw[zP _ j hj]
   exact ⟨by simp,by simp,by simp,by simp,by simp,by simp,by simp,by simp,by simp,by omega⟩
theorem ztR {key:List UInt8} {rows:List LogRow} {t:STen} (h:tenP key rows t) (ops:List Op) (boot:Int) (hl:rows.length≤5) (hok:okB t.Eng ops=true) (hb:batchV ops=true) (hs: ¬sealB key boot (t.Eng.Seq+1) ops= []) (tid:Int):
 tenP key (rows++ [⟨tid,boot,t.Eng.Seq+1,sealB key boot (t.Eng.Seq+1) ops,false⟩]) ⟨t.Id,t.Epoch,t.Base,engB t.Eng ops⟩:=by
 obtain ⟨o1,o2,o3,o4⟩:=zqD hs
 have hv:=zmA h.eng hb
 rw[hok]at hv
 have hE:engV ⟨t.Eng.Mem,t.Eng.Tables,t.Eng.Seq,[]⟩=true:=zg1 h.eng (l:=[]) (by simp) rfl
 have hP:putR ⟨t.Eng.Mem,t.Eng.Tables,t.Eng.Seq,[]⟩ ops=(engB ⟨t.Eng.Mem,t.Eng.Tables,t.Eng.Seq,[]⟩ ops,true):=by
  unfold putR
  rw[hE,hb,show okB ⟨t.Eng.Mem,t.Eng.Tables,t.Eng.Seq,[]⟩ ops=okB t.Eng ops from rfl,hok]
  rfl
 have hR:repS key (rep0 t) (rows++ [⟨tid,boot,t.Eng.Seq+1,sealB key boot (t.Eng.Seq+1) ops,false⟩])=(engB ⟨t.Eng.Mem,t.Eng.Tables,t.Eng.Seq,[]⟩ ops,true):=by
  rw[zk2,h.runs,cond_true,h.eng_is]
  simp only[repS]
  rw[o1,hP]
  rfl
 have hq:=h.seq
 refine ⟨h.ep,h.base,h.snaps,h.tabs,hv,by simp only[List.length_append,List.length_singleton];omega,?_,?_,h.start,?_,?_⟩
 ·show t.Base+_=t.Eng.Seq+1
  simp only[List.length_append,List.length_singleton]
  omega
 ·rw[zfQ]
  intro i hi
  simp only[List.length_append,List.length_singleton]at hi
  by_cases c:i<rows.length
  ·rw[List.getElem_append_left c]
   exact (zfQ _ _).1 h.seqs i c
  ·rw[List.getElem_append_right (by omega)]
   simp only[List.getElem_singleton]
   omega
 ·show (repS key (rep0 t) _).2=true
  rw[hR]
 ·show (repS key (rep0 t) _).1.Mem=_
  rw[hR]
  rfl
theorem ztv {s a:Store} (h:storeP a) (j:Nat) (hj:j<a.Tens.length) (ops:List Op) (hh:s.Hist.length<120) (hl:(ofLR a.Tens[j].Id a.Rows).length≤5) (hok:okB a.Tens[j].Eng ops=true) (hb:batchV ops=true) (hs: ¬sealB (keyOfV a.Keys a.Tens[j].Id) a.Boot (a.Tens[j].Eng.Seq+1) ops= []):storeP (putS s a (j:Int) ops):=by
 unfold putS
 rw[zP _ j hj,Int.toNat_natCast]
 have hm: ∀t:STen,t.Id=a.Tens[j].Id→(a.Tens.set j t).map STen.Id=a.Tens.map STen.Id:=fun t ht=>set_mapE hj ht
 refine ⟨h.secret,h.keys,h.shares,h.boot,by simp only[List.length_append,List.length_singleton];omega,(hm ⟨a.Tens[j].Id,a.Tens[j].Epoch,a.Tens[j].Base,engB a.Tens[j].Eng ops⟩ rfl).trans h.slots,(hm ⟨a.Tens[j].Id,a.Tens[j].Epoch,a.Tens[j].Base,engB a.Tens[j].Eng ops⟩ rfl).trans h.ids,fun x hx=>?_,fun r hr=>?_⟩
 ·rcases zl7 hx with rfl | ⟨i,hi,hij,rfl⟩
  ·have:=ztR (h.tens _ (List.getElem_mem hj)) ops a.Boot hl hok hb hs a.Tens[j].Id
   show tenP (keyOfV a.Keys a.Tens[j].Id) (ofLR a.Tens[j].Id (a.Rows++_)) _
   rw[zje]
   have e:ofLR a.Tens[j].Id [(⟨a.Tens[j].Id,a.Boot,a.Tens[j].Eng.Seq+1,sealB (keyOfV a.Keys a.Tens[j].Id) a.Boot (a.Tens[j].Eng.Seq+1) ops,false⟩:LogRow)]= [⟨a.Tens[j].Id,a.Boot,a.Tens[j].Eng.Seq+1,sealB (keyOfV a.Keys a.Tens[j].Id) a.Boot (a.Tens[j].Eng.Seq+1) ops,false⟩]:=by
    unfold ofLR
    rw[List.filter_cons,if_pos (by simp)]
    rfl
   rw[e]
   exact this
  ·have:=h.tens _ (List.getElem_mem hi)
   have hne:=h.ne hi hj hij
   show tenP (keyOfV a.Keys a.Tens[i].Id) (ofLR a.Tens[i].Id (a.Rows++_)) _
   rw[zje]
   have e:ofLR a.Tens[i].Id [(⟨a.Tens[j].Id,a.Boot,a.Tens[j].Eng.Seq+1,sealB (keyOfV a.Keys a.Tens[j].Id) a.Boot (a.Tens[j].Eng.Seq+1) ops,false⟩:LogRow)]= []:=by
    unfold ofLR
    rw[List.filter_cons,if_neg (by simpa using fun e=>hne e.symm)]
    rfl
   rw[e,List.append_nil]
   exact this
 ·have ho:r.Tenant∈a.Tens.map STen.Id:=by
   rcases List.mem_append.1 hr with hr | hr
   ·obtain ⟨t,ht,e⟩:=h.rows r hr
    rw[←e];exact List.mem_map_of_mem ht
   ·rw[List.mem_singleton]at hr
    subst hr
    exact List.mem_map_of_mem (List.getElem_mem hj)
  rw[←hm ⟨a.Tens[j].Id,a.Tens[j].Epoch,a.Tens[j].Base,engB a.Tens[j].Eng ops⟩ rfl]at ho
  exact List.mem_map.1 ho
theorem zsd {s:Store} (h:storeP s) (j:Nat) (hj:j<s.Tens.length) (ops:List Op):storeP (writeS s (j:Int) ops).1:=by
 unfold writeS
 by_cases hh:120≤s.Hist.length
 ·rw[decide_eq_true hh];exact h
 ·rw[decide_eq_false hh]
  cases hb:batchV ops with
  | false=>exact h
  | true=>
    cases decide ((bytesN (applyK (mapR (tenE s.Tens (j:Int)).Eng (tenE s.Tens (j:Int)).Eng.Seq) ops):Int)>quoV (-1) s.Shares (tenE s.Tens (j:Int)).Id) with
    | true=>exact h
    | false=>
      cases hc:okB (tenE (roomS s (j:Int)).Tens (j:Int)).Eng ops&& !decide (sealB (keyOfV s.Keys (tenE s.Tens (j:Int)).Id) s.Boot ((tenE s.Tens (j:Int)).Eng.Seq+1) ops= []) with
      | false=>exact h
      | true=>
        simp only[cond_true,cond_false]
        obtain ⟨r1,r2,r3,r4,r5,r6,r7,r8,r9,r10⟩:=zsV s j hj
        have hj2:j<(roomS s (j:Int)).Tens.length:=by omega
        rw[Bool.and_eq_true,Bool.not_eq_true',decide_eq_false_iff_not]at hc
        rw[zP _ j hj2]at r7 r8 r9 hc
        rw[zP _ j hj,←r7,←r9,←r2,←r3]at hc
        rw[←r7]at r10
        exact ztv (zsW h j hj) j hj2 ops (by omega) r10 hc.1 hb hc.2
theorem zo1 {s:Store} (h:storeP s) (j:Nat) (hj:j<s.Tens.length) (l:List Int) (hl:l.length≤2) (hv:engV ⟨s.Tens[j].Eng.Mem,s.Tens[j].Eng.Tables,s.Tens[j].Eng.Seq,l⟩=true):storeP (withE s (j:Int) l):=by
 unfold withE
 rw[zP _ j hj]
 have ht:=h.tens _ (List.getElem_mem hj)
 exact zo2 h j hj _ rfl ⟨ht.ep,ht.base,hl,ht.tabs,hv,ht.few,ht.seq,ht.seqs,ht.start,ht.runs,ht.mem⟩
theorem zs0 {s:Store} (h:storeP s) (j:Nat) (hj:j<s.Tens.length):storeP (snapS s (j:Int)).1:=by
 unfold snapS
 rw[zP _ j hj]
 have ht:=h.tens _ (List.getElem_mem hj)
 by_cases c1:s.Tens[j].Eng.Seq∈s.Tens[j].Eng.Snaps
 ·rw[decide_eq_true c1];exact h
 ·by_cases c2:2≤s.Tens[j].Eng.Snaps.length
  ·rw[decide_eq_false c1,decide_eq_true c2];exact h
  ·rw[decide_eq_false c1,decide_eq_false c2]
   have:=zsZ ht.eng
   unfold snapR at this
   rw[if_pos ht.eng,if_neg c1,if_neg (by omega)]at this
   exact zo1 h j hj _ (by simp only[List.length_append,List.length_singleton];omega) this
theorem zrf (l:List Int) (x:Int):(dropS l x).length≤l.length:=List.length_filter_le _ _
theorem zsA {s:Store} (h:storeP s) (j:Nat) (hj:j<s.Tens.length) (c:Call):storeP (heldS s (j:Int) c).1:=by
 unfold heldS
 rw[zP _ j hj]
 have ht:=h.tens _ (List.getElem_mem hj)
 by_cases c1:c.N∈s.Tens[j].Eng.Snaps
 ·rw[decide_eq_true c1]
  cases decide (c.Kind=10) with
  | true=>exact h
  | false=>
    have:=zo9 ht.eng c.N
    unfold engDropR at this
    rw[if_pos ht.eng,if_pos c1]at this
    have hl:=zrf s.Tens[j].Eng.Snaps c.N
    have hs:=ht.snaps
    exact zo1 h j hj _ (by omega) this
 ·rw[decide_eq_false c1];exact h
theorem ztG {s:Store} (h:storeP s) (j:Nat) (hj:j<s.Tens.length) (c:Call):storeP (tenS s (j:Int) c).1:=by
 unfold tenS
 cases decide (c.Kind=5) with
 | true=>exact zsd h j hj _
 | false=>
 cases decide (c.Kind=6) with
 | true=>exact h
 | false=>
 cases decide (c.Kind=7) with
 | true=>exact h
 | false=>
 cases decide (c.Kind=8) with
 | true=>exact zs0 h j hj
 | false=>
 cases decide (c.Kind=11) with
 | true=>exact h
 | false=>exact zsA h j hj c
theorem zsh {s:Store} (h:storeP s) (c:Call):storeP (callS s c).1:=by
 unfold callS
 rcases zdC s.Tens (tokR s.Secret c.Token).1 with ⟨j,hj,e,_,_⟩ | ⟨e,_⟩
 ·rw[e]
  cases (!(tokR s.Secret c.Token).2.2||(decide ((j:Int)<0)|| !decide ((tenE s.Tens (j:Int)).Epoch=(tokR s.Secret c.Token).2.1))) with
  | true=>exact h
  | false=>exact ztG h j hj c
 ·rw[e]
  have:(!(tokR s.Secret c.Token).2.2||(decide ((-1:Int)<0)|| !decide ((tenE s.Tens (-1)).Epoch=(tokR s.Secret c.Token).2.1)))=true:=by simp
  rw[this]
  exact h
theorem ztu {s:Store} (h:storeP s) (c:Call):storeP (ownS s c).1:=by
 unfold ownS
 rcases zdC s.Tens c.Tenant with ⟨j,hj,e,hid,_⟩ | ⟨e,_⟩
 ·rw[e,decide_eq_false (by omega: ¬(j:Int)<0),cond_false]
  cases decide (c.Kind=2) with
  | true=>exact zrO h c ⟨_,List.getElem_mem hj,hid⟩
  | false=>
  cases decide (c.Kind=3) with
  | true=>exact zqK h _
  | false=>
  cases decide (c.Kind=4) with
  | true=>exact zqN h j hj
  | false=>exact znj h j hj
 ·rw[e];exact h
theorem ztM {s:Store} (h:storeP s) (hs:syncP s.Rows) (c:Call):storeP (doS s c).1:=by
 unfold doS
 cases decide (c.Kind=1) with
 | true=>exact zqi h c
 | false=>
 cases decide (c.Kind=12) with
 | true=>exact zs4 h
 | false=>
 cases decide (c.Kind=14) with
 | true=>exact zrb h hs _
 | false=>
 cases decide (2≤c.Kind∧c.Kind≤4)||decide (c.Kind=13) with
 | true=>exact ztu h c
 | false=>
 cases decide (5≤c.Kind∧c.Kind≤11) with
 | false=>exact h
 | true=>exact zsh h c
theorem zmp (l:List LogRow):syncP (l.map markL):=List.pairwise_map.2 (List.pairwise_iff_getElem.2 fun i j hi hj hij _=>rfl)
theorem zr2 {l:List LogRow} (h:syncP l) (r:LogRow) (hr:r.Synced=false):syncP (l++ [r]):=by
 refine List.pairwise_append.2 ⟨h,List.pairwise_singleton _ _,fun a ha b hb hc=>?_⟩
 rw[List.mem_singleton]at hb
 subst hb
 rw[hr]at hc;cases hc
theorem zlE {l:List LogRow} (h:syncP l) (id:Int):syncP (noLR id l):=List.Pairwise.filter _ h
theorem zqM {s:Store} (hs:syncP s.Rows) (i:Int):syncP (roomS s i).Rows:=by
 unfold roomS
 cases decide (6≤(ofLR (tenE s.Tens i).Id s.Rows).length) with
 | true=>exact zlE hs _
 | false=>exact hs
theorem zpv {s:Store} (hs:syncP s.Rows) (i:Int) (ops:List Op):syncP (writeS s i ops).1.Rows:=by
 unfold writeS
 cases decide (120≤s.Hist.length) with
 | true=>exact hs
 | false=>
 cases batchV ops with
 | false=>exact hs
 | true=>
 cases decide ((bytesN (applyK (mapR (tenE s.Tens i).Eng (tenE s.Tens i).Eng.Seq) ops):Int)>quoV (-1) s.Shares (tenE s.Tens i).Id) with
 | true=>exact hs
 | false=>
 cases okB (tenE (roomS s i).Tens i).Eng ops&& !decide (sealB (keyOfV s.Keys (tenE s.Tens i).Id) s.Boot ((tenE s.Tens i).Eng.Seq+1) ops= []) with
 | false=>exact hs
 | true=>exact zr2 (zqM hs i) _ rfl
theorem zr6 {s:Store} (hs:syncP s.Rows) (i:Int) (c:Call):syncP (tenS s i c).1.Rows:=by
 unfold tenS
 cases decide (c.Kind=5) with
 | true=>exact zpv hs i _
 | false=>
 cases decide (c.Kind=6) with
 | true=>exact hs
 | false=>
 cases decide (c.Kind=7) with
 | true=>exact hs
 | false=>
 cases decide (c.Kind=8) with
 | true=>
   simp only[cond_true,cond_false]
   unfold snapS
   cases decide ((tenE s.Tens i).Eng.Seq∈(tenE s.Tens i).Eng.Snaps)<;>cases decide (2≤(tenE s.Tens i).Eng.Snaps.length)<;>exact hs
 | false=>
 cases decide (c.Kind=11) with
 | true=>exact hs
 | false=>
   simp only[cond_false]
   unfold heldS
   cases decide (c.N∈(tenE s.Tens i).Eng.Snaps)<;>cases decide (c.Kind=10)<;>exact hs
theorem zsr {s:Store} (hs:syncP s.Rows) (c:Call):syncP (doS s c).1.Rows:=by
 unfold doS
 cases decide (c.Kind=1) with
 | true=>
   simp only[cond_true]
   unfold createS
   cases !decide (1≤c.Tenant∧c.Tenant≤99)||(!decide (0≤c.N∧c.N≤40)||(!decide (c.Key.length=32)||decide (atE s.Tens c.Tenant≥0)))<;>cases decide (4≤s.Tens.length)<;>cases (setR s.Shares c.Tenant c.N).2<;>exact hs
 | false=>
 cases decide (c.Kind=12) with
 | true=>exact zmp _
 | false=>
 cases decide (c.Kind=14) with
 | true=>
   simp only[cond_true,cond_false]
   unfold crashS
   cases decide (1000≤s.Boot) with
   | true=>exact hs
   | false=>
     obtain ⟨k,hk⟩:=zhb s.Rows c.N hs
     show syncP (keepL c.N s.Rows)
     rw[hk]
     exact zmp _
 | false=>
 cases decide (2≤c.Kind∧c.Kind≤4)||decide (c.Kind=13) with
 | true=>
   simp only[cond_true,cond_false]
   unfold ownS
   cases decide (atE s.Tens c.Tenant<0) with
   | true=>exact hs
   | false=>
   cases decide (c.Kind=2) with
   | true=>
     simp only[cond_true,cond_false]
     unfold quotaS
     cases decide (0≤c.N∧c.N≤40)<;>cases (setR s.Shares c.Tenant c.N).2<;>exact hs
   | false=>
   cases decide (c.Kind=3) with
   | true=>
     simp only[cond_true,cond_false]
     unfold removeS
     cases decide (1000≤s.Boot)||decide (1000000≤s.Keys.Wiped) with
     | true=>exact hs
     | false=>exact zlE hs _
   | false=>
   cases decide (c.Kind=4) with
   | true=>
     simp only[cond_true,cond_false]
     unfold rotateS
     cases decide ((tenE s.Tens (atE s.Tens c.Tenant)).Epoch≥1000000)<;>exact hs
   | false=>exact zlE hs _
 | false=>
 cases decide (5≤c.Kind∧c.Kind≤11) with
 | false=>exact hs
 | true=>
   simp only[cond_true,cond_false]
   unfold callS
   cases !(tokR s.Secret c.Token).2.2||(decide (atE s.Tens (tokR s.Secret c.Token).1<0)|| !decide ((tenE s.Tens (atE s.Tens (tokR s.Secret c.Token).1)).Epoch=(tokR s.Secret c.Token).2.1)) with
   | true=>exact hs
   | false=>exact zr6 hs _ c
theorem zkU (d:KeyDev) (h:d.Slots.length≤1048576):zcI d=some d:=by
 unfold zcI zdL
 rw[zm (by simp;omega) (by simp;omega)]
 rfl
theorem zrY {d:KeyDev} {id:Int} (hn: ∀x∈d.Slots,¬x.Tenant=id):fstV (fun x:KeySlot=>decide (x.Tenant=id)) d.Slots= -1:=by
 rcases zis (fun x:KeySlot=>decide (x.Tenant=id)) d.Slots with ⟨j,hj,_,e,_⟩ | ⟨e,_⟩
 ·exact absurd (of_decide_eq_true e) (hn _ (List.getElem_mem hj))
 ·exact e
theorem zmD {d:KeyDev} {id:Int} {key:List UInt8} (hv:keysV d=true) (hn: ∀x∈d.Slots,¬x.Tenant=id) (hok:keysV (addKS d id key)=true):zfr d id key=some (addKS d id key,true):=by
 have h4:=((zce d).1 hv).2.1
 have hp:placeK d.Slots id≤d.Slots.length:=(zjr _ _).1
 have hk:zcu (addKS d id key)=some true:=by rw[zg0,zpx,←zpN,hok]
 unfold zfr
 rw[zg0,zlb d (by omega),hv,zgr d id (by omega),zkU d (by omega),zrY hn]
 simp only[Option.bind_some,Bool.not_true,Bool.false_eq_true,if_false]
 rw[if_neg (by decide),zmr (R:=KeyDev × Bool) (fun x:KeySlot=>decide (x.Tenant<id)) d.Slots (by omega) (fun k hk=>?_) (by simp)]
 ·simp only[zf]
  unfold zbZ ins
  rw[if_pos ⟨by omega,by exact_mod_cast hp,by simp only[List.length_singleton];omega,by simp only[List.length_singleton];omega⟩,Int.toNat_natCast]
  simp only[Option.bind_some]
  show (zcu (addKS d id key)).bind _=_
  rw[hk]
  rfl
 ·simp only[ze d.Slots k hk,Option.bind_some]
  rw[if_pos (by simpa using hk)]
  rfl
theorem ztK {d:KeyDev} (hv:keysV d=true) {id:Int} {j:Nat} (hj:j<d.Slots.length) (h:d.Slots[j].Tenant=id):(d.Slots.filter fun x=>!decide (x.Tenant=id))=d.Slots.take j++d.Slots.drop (j+1):=by
 have hp:=List.pairwise_iff_getElem.1 ((zce d).1 hv).2.2.2.2
 refine ziY d.Slots _ j hj (by simp[h]) fun i hi hij=>?_
 have: ¬d.Slots[i].Tenant=id:=by
  rw[←h]
  rcases Nat.lt_or_ge i j with c | c
  ·have:=hp i j hi hj c;omega
  ·have:=hp j i hj hi (by omega);omega
 simp[this]
theorem zlP {d:KeyDev} {id:Int} (hv:keysV d=true) (hin: ∃x∈d.Slots,x.Tenant=id) (hw:d.Wiped<1000000):zeJ d id=some (wipeKS d id,true):=by
 obtain ⟨_,h4,h5,_,_⟩:=(zce d).1 hv
 unfold zeJ
 rw[zg0,zlb d (by omega),hv,zgr d id (by omega),zkU d (by omega)]
 rcases zis (fun x:KeySlot=>decide (x.Tenant=id)) d.Slots with ⟨j,hj,e,e2,_⟩ | ⟨_,e2⟩
 ·rw[e]
  simp only[Option.bind_some,Bool.not_true,Bool.false_eq_true,if_false]
  rw[if_neg (by simp)]
  simp only[Option.bind_some]
  rw[decide_eq_false (by omega: ¬d.Wiped=1000000),if_neg (by simp)]
  unfold zdt
  have hwr:IntKind.i64.wrap ((j:Int)+1)=((j+1:Nat):Int):=by rw[zb (by omega) (by omega)];omega
  rw[hwr,zbb d.Slots j (j+1) _ _ rfl rfl (by omega) (by omega),zbb d.Slots 0 j 0 (j:Int) rfl rfl (by omega) (by omega),zbb d.Slots (j+1) d.Slots.length _ _ rfl rfl (by omega) (by omega),zb (n:=d.Wiped+1) (by omega) (by omega)]
  simp only[Option.bind_some]
  rw[if_neg (by simp;omega)]
  simp only[Option.bind_some]
  unfold wipeKS
  rw[ztK hv hj (of_decide_eq_true e2)]
  have e3:(d.Slots.drop (j+1)).take (d.Slots.length - (j+1))=d.Slots.drop (j+1):=List.take_of_length_le (by simp)
  simp[e3]
 ·obtain ⟨x,hx,hxe⟩:=hin
  have:=of_decide_eq_false (e2 x hx)
  exact absurd hxe this
theorem zso {α R:Type} (p:α→Bool) (l:List α) (hl:l.length≤1048576) (a:Nat) (ha:a<l.length) (hpa:p l[a]=true) (hb4: ∀i (hi:i<a),p (l[i]'(by omega))=false) {g:α→Option Bool} (hg: ∀x,g x=some (p x))
 {body:Int × Int × List α→Option (Ctl (Int × Int × List α) (Ctl (Int × List α) R))} {f:Int × List α→Option R} {z:R}
 (hb:body=fun (S5:Int × Int × List α)=>if (decide (S5.2.1<(S5.2.2.length:Int)))=true then ((idx S5.2.2 S5.2.1).bind fun E10=>
 (g E10).bind fun R13=>
 bindC (if (!R13)=true then ((idx S5.2.2 S5.1).bind fun E19=>
 some (.go (IntKind.i64.wrap (S5.1+(1:Int)),(S5.2.2.set S5.1.toNat E10))))
 else (some (.go (S5.1,S5.2.2))))
 (fun (T16:Int × List α)=>some (.go (T16.1,IntKind.i64.wrap (S5.2.1+(1:Int)),T16.2))))
 else (some (.done (.go (S5.1,S5.2.2)))))
 (hf: ∀(i:Nat) ls,ls.length=l.length→i≤l.length→ls.take i=(l.filter fun x=>!p x)→f ((i:Int),ls)=some z):bindC (loopO body ((a:Int),IntKind.i64.wrap ((a:Int)+(1:Int)),l)) f=some z:=by
 refine zbR (fun k (S:Int × Int × List α)=>∃i:Nat,S.1=(i:Int)∧S.2.1=((a+1+k:Nat):Int)∧i<a+1+k∧(S.2.2.length=l.length∧∀q (hq:q<l.length),a+1+k≤q→S.2.2[q]? =some l[q])∧S.2.2.take i=((l.take (a+1+k)).filter fun x=>!p x)) (l.length - (a+1))
  (fun r=>∃i ls,r= .go (((i:Nat):Int),ls)∧ls.length=l.length∧i≤l.length∧ls.take i=(l.filter fun x=>!p x)) ?_ ?_ ?_ ?_
 ·refine ⟨a,rfl,by simp only;rw[zb (by omega) (by omega)];omega,by omega,⟨rfl,fun q hq _=>by simp[hq]⟩,?_⟩
  rw[Nat.add_zero,zeI _ l a ha,hpa]
  simp only[Bool.not_true,Bool.false_eq_true,if_false,List.append_nil]
  rw[List.filter_eq_self.2]
  intro x hx
  obtain ⟨i,hi,rfl⟩:=List.getElem_of_mem hx
  rw[List.length_take]at hi
  rw[List.getElem_take,hb4 i (by omega)]
  rfl
 ·rintro k ⟨i0,j0,ls⟩ hk ⟨i,h1,h2,h3,⟨h4,h4b⟩,h5⟩
  simp only at h1 h2 h3 h4 h4b h5
  subst h1 h2
  left
  have hj:a+1+k<l.length:=by omega
  have hidx:idx ls ((a+1+k:Nat):Int)=some l[a+1+k]:=by
   rw[ze ls _ (by omega)]
   have:=h4b (a+1+k) hj (Nat.le_refl _)
   rw[List.getElem?_eq_getElem (by omega)]at this
   exact this
  rw[hb]
  simp only[hidx,Option.bind_some,hg]
  rw[if_pos (decide_eq_true (by rw[h4];omega)),zb (n:=((a+1+k:Nat):Int)+1) (by omega) (by omega),show ((a+1+k:Nat):Int)+1=((a+1+(k+1):Nat):Int) by omega]
  have hil:i<ls.length:=by rw[h4];omega
  cases hpk:p l[a+1+k] with
  | true=>
    simp only[Bool.not_true,Bool.false_eq_true,if_false,zf]
    refine ⟨_,rfl,i,rfl,rfl,by omega,⟨h4,fun q hq h=>h4b q hq (by omega)⟩,?_⟩
    simp only
    rw[h5,show a+1+(k+1)=(a+1+k)+1 by omega,zeI _ l (a+1+k) hj,hpk]
    simp
  | false=>
    simp only[Bool.not_false,if_true,Int.toNat_natCast,ze ls i hil,Option.bind_some,zf]
    rw[zb (n:=(i:Int)+1) (by omega) (by omega)]
    refine ⟨_,rfl,i+1,by simp,rfl,by omega,⟨by simpa using h4,fun q hq h=>?_⟩,?_⟩
    ·rw[List.getElem?_set_ne (by omega)]
     exact h4b q hq (by omega)
    ·simp only
     rw[zbL _ i (by rw[List.length_set];exact hil),List.getElem_set_self,List.take_set_of_le (Nat.le_refl _),h5,show a+1+(k+1)=(a+1+k)+1 by omega,zeI _ l (a+1+k) hj,hpk]
     simp
 ·rintro ⟨i0,j0,ls⟩ ⟨i,h1,h2,h3,⟨h4,h4b⟩,h5⟩
  simp only at h1 h2 h3 h4 h4b h5
  subst h1 h2
  have hN:a+1+(l.length - (a+1))=l.length:=by omega
  rw[hN]at h3 h5 ⊢
  refine ⟨_,by rw[hb];exact if_neg (by rw[h4];simp),i,ls,rfl,h4,by omega,by rw[h5,List.take_length]⟩
 ·rintro _ ⟨i,ls,rfl,g1,g2,g3⟩
  exact hf i ls g1 g2 g3
theorem zql (l:List LogRow) (id:Int) (hl:l.length≤1048576):zC l id=some (noLR id l):=by
 have hi:zD l id=some (fstV (fun t=>decide (t.Tenant=id)) l):=by
  unfold zD fstV
  rw[zi0 (fun t:LogRow=>decide (t.Tenant=id)) l (by omega) (fun j=>j) rfl (fun k hk=>?_) (by simp)]
  simp only[ze l k hk,Option.bind_some,zbF]
  rw[if_pos (by simpa using hk),zb (by omega) (by omega)]
  cases decide (l[k].Tenant=id)<;>rfl
 unfold zC
 rw[hi,Option.bind_some]
 rcases zis (fun t:LogRow=>decide (t.Tenant=id)) l with ⟨j,hj,e,h1,h2⟩ | ⟨e,h1⟩
 ·rw[e,decide_eq_false (by omega),if_neg (by simp)]
  refine zso (fun t:LogRow=>decide (t.Tenant=id)) l hl j hj h1 h2 (g:=fun x=>zbF x id) (fun x=>rfl) rfl fun i ls g1 g2 g3=>?_
  rw[zbb ls i ls.length _ _ rfl rfl (by omega) (by omega),zbb ls 0 i 0 (i:Int) rfl rfl (by omega) (by omega)]
  simp only[Option.bind_some,List.drop_zero,Nat.sub_zero]
  rw[g3]
  rfl
 ·rw[e]
  simp only[decide_true,if_true]
  unfold noLR
  rw[List.filter_eq_self.2 fun x hx=>by rw[h1 x hx];rfl]
theorem zho (s:Store) (id:Int) (hl:s.Rows.length≤1048576):zbx s id=some ⟨s.Secret,s.Keys,s.Shares,s.Tens,noLR id s.Rows,s.Hist,s.Boot⟩:=by
 unfold zbx
 rw[zql s.Rows id hl]
 rfl
theorem zrg (l:List STen) (id:Int) (hl:l.length≤1048576):zG l id=some (noTE id l):=by
 have hi:zK l id=some (fstV (fun t=>decide (t.Id=id)) l):=by
  unfold zK fstV
  rw[zi0 (fun t:STen=>decide (t.Id=id)) l (by omega) (fun j=>j) rfl (fun k hk=>?_) (by simp)]
  simp only[ze l k hk,Option.bind_some,zbY]
  rw[if_pos (by simpa using hk),zb (by omega) (by omega)]
  cases decide (l[k].Id=id)<;>rfl
 unfold zG
 rw[hi,Option.bind_some]
 rcases zis (fun t:STen=>decide (t.Id=id)) l with ⟨j,hj,e,h1,h2⟩ | ⟨e,h1⟩
 ·rw[e,decide_eq_false (by omega),if_neg (by simp)]
  exact zsp (fun t:STen=>decide (t.Id=id)) l (by omega) j hj h1 h2 (g:=fun x=>zbY x id) (fun x=>rfl) rfl fun i ls g1 g2 g3=>zti l _ i ls g1 g2 g3
 ·rw[e]
  simp only[decide_true,if_true]
  unfold noTE
  rw[List.filter_eq_self.2 fun x hx=>by rw[h1 x hx];rfl]
theorem znA (key:List UInt8): ∀(rs:List LogRow) (e:Eng),(repS key e rs).2=true→∀r∈rs,r.Text.length≤300
 | [],_,_,r,hr=>by cases hr
 | q::rs,e,h,r,hr=>by
   simp only[repS]at h
   cases hc:(openB key q.Boot q.Seq q.Text).2&&(putR e (openB key q.Boot q.Seq q.Text).1).2 with
   | false=>rw[hc]at h;cases h
   | true=>
     rw[hc]at h
     rcases List.mem_cons.1 hr with rfl | hr
     ·have h1:=(Bool.and_eq_true _ _ ▸ hc:_∧_).1
      unfold openB at h1
      cases h2:decide (key.length=32)&&(placeV r.Boot r.Seq&&decide (r.Text.length≤300)) with
      | false=>rw[h2]at h1;cases h1
      | true=>
        rw[Bool.and_eq_true,Bool.and_eq_true]at h2
        exact of_decide_eq_true h2.2.2
     ·exact znA key rs _ h r hr
theorem zpS: ∀(ids:List Int) (l:List LogRow),(∀r∈l,r.Tenant∈ids)→(∀id∈ids,(ofLR id l).length≤6)→l.length≤6*ids.length
 | [],l,h,_=>by
   cases l with
   | nil=>simp
   | cons r l=>have:=h r (by simp);cases this
 | id::ids,l,h,h2=>by
   have h3:=h2 id (by simp)
   have h4:l.length=(ofLR id l).length+(noLR id l).length:=by
    unfold ofLR noLR
    clear h h2 h3
    induction l with
    | nil=>rfl
    | cons r l ih=>
      rw[List.filter_cons,List.filter_cons]
      cases decide (r.Tenant=id) with
      | true=>simp only[if_true,Bool.not_true,Bool.false_eq_true,if_false,List.length_cons];omega
      | false=>simp only[if_true,Bool.not_false,Bool.false_eq_true,if_false,List.length_cons];omega
   have h5:=zpS ids (noLR id l) (fun r hr=>by
    obtain ⟨a,b⟩:=List.mem_filter.1 hr
    rcases List.mem_cons.1 (h r a) with e | e
    ·simp[e]at b
    ·exact e) fun k hk=>Nat.le_trans (by
     have:(ofLR k (noLR id l)).Sublist (ofLR k l):=List.filter_sublist.filter _
     exact this.length_le) (h2 k (by simp[hk]))
   simp only[List.length_cons]
   omega
theorem storeP.rlen {s:Store} (h:storeP s):s.Rows.length≤24:=by
 have h1:=zpS (s.Tens.map STen.Id) s.Rows (fun r hr=>by
  obtain ⟨t,ht,e⟩:=h.rows r hr
  rw[←e];exact List.mem_map_of_mem ht) fun id hid=>by
   obtain ⟨t,ht,rfl⟩:=List.mem_map.1 hid
   exact (h.tens t ht).few
 have:=h.lens
 rw[List.length_map]at h1
 omega
theorem tenP.small {key:List UInt8} {rows:List LogRow} {t:STen} (h:tenP key rows t):smallT t:=by
 obtain ⟨a,b,c,d,_⟩:=zjR h.eng
 exact ⟨a,b,c,d⟩
theorem storeP.small {s:Store} (h:storeP s):smallS s:=by
 obtain ⟨l1,l2,l3⟩:=h.lens
 have h1:=h.rlen
 have h2:=h.hist
 refine ⟨fun t ht=>(h.tens t ht).small,by omega,fun r hr=>?_,by omega,by omega,by omega,by omega⟩
 obtain ⟨t,ht,e⟩:=h.rows r hr
 have:=znA _ _ _ (h.tens t ht).runs r (List.mem_filter.2 ⟨hr,decide_eq_true e.symm⟩)
 omega
theorem zrm (l:List STen) (j:Nat) (hj:j<l.length) (h:l[j].Eng.Tables.length≤1048576): ∃b,zbS l (j:Int)=some (b,l.set j ⟨l[j].Id,l[j].Epoch,l[j].Base,(flushS l[j].Eng).2⟩):=by
 have h0:=zjv l[j].Eng h
 unfold ze7 at h0
 unfold zbS
 rw[ze l j hj]
 simp only[Option.bind_some,Int.toNat_natCast]
 cases c1:(if (decide (((l[j].Eng.Mem.length:Nat):Int)=(0:Int)))=true then (some true) else (some (decide (((l[j].Eng.Tables.length:Nat):Int)≥(6:Int))))) with
 | none=>rw[c1]at h0;cases h0
 | some T=>
   rw[c1]at h0
   simp only[Option.bind_some]at h0 ⊢
   cases T with
   | true=>
     simp only[if_true,Option.some.injEq]at h0 ⊢
     refine ⟨false,?_⟩
     rw[←h0]
     show (false,l)=(false,l.set j l[j])
     rw[List.set_getElem_self]
   | false=>
     simp only[Bool.false_eq_true,if_false]at h0 ⊢
     cases c2:zV l[j].Eng.Tables (0:Int) ([l[j].Eng.Mem]) with
     | none=>rw[c2]at h0;cases h0
     | some R=>
       rw[c2]at h0
       simp only[Option.bind_some,Option.some.injEq]at h0 ⊢
       exact ⟨true,by rw[←h0]⟩
theorem zrn (e:STen) (h:e.Eng.Tables.length≤1048576): ∃b,zbT e=some (b,⟨e.Id,e.Epoch,e.Base,(flushS e.Eng).2⟩):=by
 have h0:=zjv e.Eng h
 unfold ze7 at h0
 unfold zbT
 cases c1:(if (decide ((e.Eng.Mem.length:Int)=(0:Int)))=true then (some true) else (some (decide ((e.Eng.Tables.length:Int)≥(6:Int))))) with
 | none=>rw[c1]at h0;cases h0
 | some T=>
   rw[c1]at h0
   simp only[Option.bind_some]at h0 ⊢
   cases T with
   | true=>
     simp only[if_true,Option.some.injEq]at h0 ⊢
     refine ⟨false,?_⟩
     rw[←h0]
   | false=>
     simp only[Bool.false_eq_true,if_false]at h0 ⊢
     cases c2:zV e.Eng.Tables (0:Int) ([e.Eng.Mem]) with
     | none=>rw[c2]at h0;cases h0
     | some R=>
       rw[c2]at h0
       simp only[Option.bind_some,Option.some.injEq]at h0 ⊢
       exact ⟨true,by rw[←h0]⟩
theorem zrJ (l:List STen) (j:Nat) (hj:j<l.length) (h:engV l[j].Eng=true): ∃b,zbU l (j:Int)=some (b,l.set j ⟨l[j].Id,l[j].Epoch,l[j].Base,(mergeS l[j].Eng).2⟩):=by
 have h0:=zgV h
 unfold ze8 at h0
 unfold zbU
 rw[ze l j hj]
 simp only[Option.bind_some,Int.toNat_natCast]
 cases c1:decide (((l[j].Eng.Tables.length:Nat):Int)=(0:Int)) with
 | true=>
   rw[c1]at h0
   simp only[if_true,Option.some.injEq]at h0 ⊢
   refine ⟨false,?_⟩
   rw[←h0]
   show (false,l)=(false,l.set j l[j])
   rw[List.set_getElem_self]
 | false=>
   rw[c1]at h0
   simp only[Bool.false_eq_true,if_false]at h0 ⊢
   cases c2:zb1 l[j].Eng.Tables with
   | none=>rw[c2]at h0;cases h0
   | some R=>
     rw[c2]at h0
     simp only[Option.bind_some]at h0 ⊢
     cases c3:zbQ R l[j].Eng.Snaps true with
     | none=>rw[c3]at h0;cases h0
     | some C=>
       rw[c3]at h0
       simp only[Option.bind_some]at h0 ⊢
       cases c4:decide ((C.length:Int)>(0:Int)) with
       | true=>
         rw[c4]at h0
         simp only[if_true,zf,Option.some.injEq]at h0 ⊢
         exact ⟨true,by rw[←h0]⟩
       | false=>
         rw[c4]at h0
         simp only[Bool.false_eq_true,if_false,zf,Option.some.injEq]at h0 ⊢
         exact ⟨true,by rw[←h0]⟩
theorem zrK (e:STen) (h:engV e.Eng=true): ∃b,zbV e=some (b,⟨e.Id,e.Epoch,e.Base,(mergeS e.Eng).2⟩):=by
 have h0:=zgV h
 unfold ze8 at h0
 unfold zbV
 cases c1:decide ((e.Eng.Tables.length:Int)=(0:Int)) with
 | true=>
   rw[c1]at h0
   simp only[if_true,Option.some.injEq]at h0 ⊢
   exact ⟨false,by rw[←h0]⟩
 | false=>
   rw[c1]at h0
   simp only[Bool.false_eq_true,if_false]at h0 ⊢
   cases c2:zb1 e.Eng.Tables with
   | none=>rw[c2]at h0;cases h0
   | some R=>
     rw[c2]at h0
     simp only[Option.bind_some]at h0 ⊢
     cases c3:zbQ R e.Eng.Snaps true with
     | none=>rw[c3]at h0;cases h0
     | some C=>
       rw[c3]at h0
       simp only[Option.bind_some]at h0 ⊢
       cases c4:decide ((C.length:Int)>(0:Int)) with
       | true=>
         rw[c4]at h0
         simp only[if_true,zf,Option.some.injEq]at h0 ⊢
         exact ⟨true,by rw[←h0]⟩
       | false=>
         rw[c4]at h0
         simp only[Bool.false_eq_true,if_false,zf,Option.some.injEq]at h0 ⊢
         exact ⟨true,by rw[←h0]⟩
theorem zlI (e:STen) (l:List Op) (hv:engV e.Eng=true) (hb:batchV l=true):zbH e l=some (okB e.Eng l,⟨e.Id,e.Epoch,e.Base,engB e.Eng l⟩):=by
 obtain ⟨hseq,s2,s3,s4,s5,_⟩:=zbv hv
 obtain ⟨g1,g2,g3⟩:=zhq hv hb
 have hw:IntKind.i64.wrap (e.Eng.Seq+(1:Int))=e.Eng.Seq+1:=zb (by omega) (by omega)
 obtain ⟨i1,i2,i3,i4⟩:=zgD l (e.Eng.Seq+1) e.Eng.Mem g1 g2 (by omega) l.length (Nat.le_refl _)
 unfold zbH
 simp only[hw]
 rw[zo (fun k=>(true,(k:Int),memB l (e.Eng.Seq+1) e.Eng.Mem k)) l.length (r:=Ctl.go (true,memB l (e.Eng.Seq+1) e.Eng.Mem l.length)) ?h0]
 case h0=>rfl
 ·simp only[zf,if_true,zh9 e.Eng.Tables (by omega) (by omega),Option.bind_some]
  rw[zb (by omega) (by omega)]
  unfold okB engB
  have d1:decide ((((memB l (e.Eng.Seq+1) e.Eng.Mem l.length).length:Nat):Int)≤60)=decide ((memB l (e.Eng.Seq+1) e.Eng.Mem l.length).length≤60):=decide_eq_decide.2 (by omega)
  have d2:decide ((totalV e.Eng.Tables:Int)+(((memB l (e.Eng.Seq+1) e.Eng.Mem l.length).length:Nat):Int)≤400)=decide (totalV e.Eng.Tables+(memB l (e.Eng.Seq+1) e.Eng.Mem l.length).length≤400):=decide_eq_decide.2 (by omega)
  rw[d1,d2]
  cases decide (e.Eng.Seq+1≤1000000)<;>cases decide ((memB l (e.Eng.Seq+1) e.Eng.Mem l.length).length≤60)<;>cases decide (totalV e.Eng.Tables+(memB l (e.Eng.Seq+1) e.Eng.Mem l.length).length≤400)<;>rfl
 ·intro k hk
  have hpc:piece l (IntKind.i64.wrap ((k:Int)+(1:Int))) (l.length:Int)=some (l.drop (k+1)):=by
   rw[zb (by omega) (by omega),zbb l (k+1) l.length _ _ (by omega) rfl (by omega) (Nat.le_refl _),List.take_of_length_le (by simp)]
  simp only[ze l k hk,Option.bind_some,hpc,zjt _ l[k] (by simp;omega:(l.drop (k+1)).length≤1048576)]
  rw[if_pos (by simpa using hk),zb (n:=(k:Int)+1) (by omega) (by omega)]
  have hlv:((l.drop (k+1)).any fun x=>decide (x.Key=l[k].Key))=laterV l k l[k].Key:=rfl
  rw[hlv]
  cases hla:laterV l k l[k].Key with
  | true=>
    rw[zhc l _ _ k hk hla]
    rfl
  | false=>
    have hp:=(znq l (e.Eng.Seq+1) e.Eng.Mem g1 g2 (by omega) k hk hla).1
    unfold entO at hp
    simp only[Bool.not_false,if_true,hp,Option.bind_some,zf]
    rfl
 ·simp
theorem zpA (l:List STen) (j:Nat) (hj:j<l.length) (h:engV l[j].Eng=true):zbE l (j:Int)=some (allR l[j].Eng):=by
 have h0:=zlO h
 unfold zhv at h0
 unfold zbE
 rw[ze l j hj]
 exact h0
theorem zke (l:List STen) (j:Nat) (hj:j<l.length) (h:engV l[j].Eng=true):zby l (j:Int)=some (mapR l[j].Eng l[j].Eng.Seq):=by
 obtain ⟨a,b⟩:=zfV h
 unfold zby mapR
 rw[ze l j hj,zpA l j hj h,h]
 simp only[Option.bind_some,zlY _ l[j].Eng.Seq a (by omega),cond_true]
theorem zsa (l:List STen) (j:Nat) (hj:j<l.length) (h:engV l[j].Eng=true) (key:List UInt8) (seq:Int):zbW l (j:Int) key seq=some (getR l[j].Eng key seq):=by
 obtain ⟨a,b⟩:=zfV h
 unfold zbW getR
 rw[ze l j hj,zpA l j hj h,h]
 simp only[Option.bind_some,zpd _ key seq (by omega:(allR l[j].Eng).length≤1048576),cond_true]
 exact ztH _
theorem znM (l:List STen) (j:Nat) (hj:j<l.length) (h:engV l[j].Eng=true) (key:List UInt8) (seq:Int):zbf l (j:Int) key seq=some (valR l[j].Eng key seq):=by
 unfold zbf valR
 rw[ze l j hj,zsa l j hj h]
 simp only[Option.bind_some,no_R]
 cases (getR l[j].Eng key seq).2<;>rfl
theorem zgJ {s:Store} (h:storeP s) (id:Int):zbN s id=some (atE s.Tens id):=zlq s id h.small.tens
theorem zjG {s:Store} (h:storeP s) (j:Nat) (hj:j<s.Tens.length) (id:Int) (hid:s.Tens[j].Id=id) (ha:atE s.Tens id=(j:Int)):zdg s id=some (codeR 0,flushO s (j:Int)):=by
 subst hid
 have hT:=h.tens _ (List.getElem_mem hj)
 have hrl:=h.small.rows
 obtain ⟨b1,e1⟩:=zrm s.Tens j hj (by have:=hT.tabs;omega)
 unfold zdg
 rw[zgJ h,ha,Option.bind_some,ze _ j hj,Option.bind_some,e1]
 simp only[Option.bind_some]
 have hj2:j<(s.Tens.set j ⟨s.Tens[j].Id,s.Tens[j].Epoch,s.Tens[j].Base,(flushS s.Tens[j].Eng).2⟩).length:=by simpa using hj
 have hgs:(s.Tens.set j ⟨s.Tens[j].Id,s.Tens[j].Epoch,s.Tens[j].Base,(flushS s.Tens[j].Eng).2⟩)[j]=⟨s.Tens[j].Id,s.Tens[j].Epoch,s.Tens[j].Base,(flushS s.Tens[j].Eng).2⟩:=List.getElem_set_self _
 obtain ⟨b2,e2⟩:=zrJ _ j hj2 (by rw[hgs];exact zjT hT.eng)
 rw[ze _ j hj2,Option.bind_some,e2,hgs,List.set_set]
 simp only[Option.bind_some]
 have hj3:j<(s.Tens.set j ⟨s.Tens[j].Id,s.Tens[j].Epoch,s.Tens[j].Base,(mergeS (flushS s.Tens[j].Eng).2).2⟩).length:=by simpa using hj
 rw[ze _ j hj3,List.getElem_set_self]
 simp only[Option.bind_some]
 rw[zho]
 ·simp only[Option.bind_some,Int.toNat_natCast,List.set_set]
  unfold flushO
  rw[zP _ j hj,Int.toNat_natCast]
  rfl
 ·exact hrl
theorem zqF {s:Store} (h:storeP s) (j:Nat) (hj:j<s.Tens.length) (d:Int):quoV d s.Shares s.Tens[j].Id=quoV (-1) s.Shares s.Tens[j].Id:=by
 unfold quoV
 have hm:s.Tens[j].Id∈s.Tens.map STen.Id:=List.mem_map_of_mem (List.getElem_mem hj)
 rw[h.ids]at hm
 obtain ⟨y,hy,e⟩:=List.mem_map.1 hm
 cases hf:s.Shares.List.find? (fun x=>decide (x.Tenant=s.Tens[j].Id)) with
 | some x=>rfl
 | none=>have:=List.find?_eq_none.1 hf y hy;simp[e]at this
theorem ztm (e:Eng):(⟨(flushS e).2.Mem,(flatE e).Tables,(flatE e).Seq,e.Snaps⟩:Eng)=flatE e:=by
 obtain ⟨a,b,c⟩:=zjb (flushS e).2
 have d:=(zgp e).2
 have f:(flatE e).Mem=(flushS e).2.Mem:=a
 rw[←f,←d]
theorem zsz (e:Eng):(⟨(flushS e).2.Mem,(flushS e).2.Tables,(flushS e).2.Seq,e.Snaps⟩:Eng)=(flushS e).2:=by
 have:=(zlM e).2
 rw[←this]
theorem zmI {s:Store} (h:storeP s) (j:Nat) (hj:j<s.Tens.length) (c:Call) (hc:c.Ops.length≤1048576):zbg s (j:Int) c=some ((writeS s (j:Int) c.Ops).2,(writeS s (j:Int) c.Ops).1):=by
 have hT:=h.tens _ (List.getElem_mem hj)
 have hs:=h.small
 have hrl:=h.rlen
 have hhl:=h.hist
 obtain ⟨z1,z2,z3,z4,z5⟩:=zjR hT.eng
 unfold zbg writeS
 rw[ze _ j hj,zP _ j hj]
 simp only[Option.bind_some,no_R]
 have e1:decide ((s.Hist.length:Int)≥120)=decide (120≤s.Hist.length):=decide_eq_decide.2 (by omega)
 rw[e1]
 by_cases hh:120≤s.Hist.length
 ·rw[decide_eq_true hh];rfl
 rw[decide_eq_false hh]
 simp only[Bool.false_eq_true,if_false,zez c.Ops hc,Option.bind_some,cond_false]
 cases hb:batchV c.Ops with
 | false=>rfl
 | true=>
 have hb6:=(zfW hb).1
 have hml:=zls s.Tens[j].Eng s.Tens[j].Eng.Seq
 have hal:=zlG c.Ops (mapR s.Tens[j].Eng s.Tens[j].Eng.Seq)
 have hsrt:srtK (mapR s.Tens[j].Eng s.Tens[j].Eng.Seq):=zsH hT.eng _
 have hkv:=zpT hT.eng s.Tens[j].Eng.Seq
 simp only[Bool.not_true,Bool.false_eq_true,if_false,cond_true,zke _ j hj hT.eng,Option.bind_some,zlU (mapR s.Tens[j].Eng s.Tens[j].Eng.Seq) c.Ops hsrt (by omega) (by omega),zh2 _ (zq4 hkv hb) (by omega),zlW s.Shares _ hs.shares,zqF h j hj 0]
 cases decide ((bytesN (applyK (mapR s.Tens[j].Eng s.Tens[j].Eng.Seq) c.Ops):Int)>quoV (-1) s.Shares s.Tens[j].Id) with
 | true=>rfl
 | false=>
 have er:rowsV s s.Tens[j].Id=ofLR s.Tens[j].Id s.Rows:=rfl
 have e2:decide ((((ofLR s.Tens[j].Id s.Rows).length:Nat):Int)≥6)=decide (6≤(ofLR s.Tens[j].Id s.Rows).length):=decide_eq_decide.2 (by omega)
 simp only[Bool.false_eq_true,if_false,cond_false,zh3 _ z1 z2 z5 z4,zf4 s _ hs.rows,Option.bind_some,er,e2]
 unfold roomS
 rw[zP _ j hj]
 cases hroom:decide (6≤(ofLR s.Tens[j].Id s.Rows).length) with
 | false=>
   have hp:=zlI ⟨s.Tens[j].Id,s.Tens[j].Epoch,s.Tens[j].Base,⟨s.Tens[j].Eng.Mem,s.Tens[j].Eng.Tables,s.Tens[j].Eng.Seq,s.Tens[j].Eng.Snaps⟩⟩ c.Ops hT.eng hb
   have hq:(engB s.Tens[j].Eng c.Ops).Seq=s.Tens[j].Eng.Seq+1:=rfl
   simp only[Bool.false_eq_true,if_false,cond_false,zf,hp,Option.bind_some,zgM s.Keys _ hs.slots,zgX _ _ _ c.Ops hc,hq]
   rw[zP _ j hj]
   cases hok:okB s.Tens[j].Eng c.Ops with
   | false=>rfl
   | true=>
     simp only[Bool.not_true,Bool.false_eq_true,if_false,Option.bind_some,Bool.true_and]
     cases hse:decide (sealB (keyOfV s.Keys s.Tens[j].Id) s.Boot (s.Tens[j].Eng.Seq+1) c.Ops= []) with
     | true=>rfl
     | false=>
       simp only[Bool.false_eq_true,if_false,Bool.not_false,cond_true]
       rw[zm (by simp only[List.length_singleton];omega) (by simp only[List.length_singleton];omega),zm (by simp only[List.length_singleton];omega) (by simp only[List.length_singleton];omega)]
       simp only[Option.bind_some,Int.toNat_natCast]
       rw[ze _ j (by simpa using hj),List.getElem_set_self]
       unfold putS
       rw[zP _ j hj]
       rfl
 | true=>
   obtain ⟨b1,f1⟩:=zrn ⟨s.Tens[j].Id,s.Tens[j].Epoch,s.Tens[j].Base,s.Tens[j].Eng⟩ (by have:=hT.tabs;simp only;omega)
   obtain ⟨b2,f2⟩:=zrK ⟨s.Tens[j].Id,s.Tens[j].Epoch,s.Tens[j].Base,(flushS s.Tens[j].Eng).2⟩ (zjT hT.eng)
   have hfl:=zpI hT.eng
   have hp:=zlI ⟨s.Tens[j].Id,s.Tens[j].Epoch,(flatE s.Tens[j].Eng).Seq,flatE s.Tens[j].Eng⟩ c.Ops hfl hb
   have hq:(engB (flatE s.Tens[j].Eng) c.Ops).Seq=s.Tens[j].Eng.Seq+1:=by show (flatE s.Tens[j].Eng).Seq+1=_;rw[(zgp _).1]
   have hm2:(mergeS (flushS s.Tens[j].Eng).2).2=flatE s.Tens[j].Eng:=rfl
   have hst:tenE (flushO s (j:Int)).Tens (j:Int)=flushT s.Tens[j]:=by
    unfold flushO
    simp only[Int.toNat_natCast]
    rw[zP _ j (by simpa using hj),List.getElem_set_self,zP _ j hj]
   simp only[if_true,cond_true,f1,Option.bind_some,zsz,f2,zf,hm2,ztm,hp,zgM s.Keys _ hs.slots,zgX _ _ _ c.Ops hc,hq,hst]
   have ht:(flushT s.Tens[j]).Eng=flatE s.Tens[j].Eng:=rfl
   rw[ht]
   cases hok:okB (flatE s.Tens[j].Eng) c.Ops with
   | false=>rfl
   | true=>
     simp only[Bool.not_true,Bool.false_eq_true,if_false,Option.bind_some,Bool.true_and]
     cases hse:decide (sealB (keyOfV s.Keys s.Tens[j].Id) s.Boot (s.Tens[j].Eng.Seq+1) c.Ops= []) with
     | true=>rfl
     | false=>
       have hnl:(noLR s.Tens[j].Id s.Rows).length≤s.Rows.length:=List.length_filter_le _ _
       simp only[Bool.false_eq_true,if_false,if_true,Bool.not_false,cond_true,zho s _ hs.rows,Option.bind_some,zf]
       rw[zm (by simp only[List.length_singleton];omega) (by simp only[List.length_singleton];omega),zm (by simp only[List.length_singleton];omega) (by simp only[List.length_singleton];omega)]
       simp only[Option.bind_some,Int.toNat_natCast]
       rw[ze _ j (by simpa using hj),List.getElem_set_self]
       have e3:(flatE s.Tens[j].Eng).Seq=s.Tens[j].Eng.Seq:=(zgp _).1
       have e4:(engB (flatE s.Tens[j].Eng) c.Ops).Tables=(flatE s.Tens[j].Eng).Tables:=rfl
       have e5:(engB (flatE s.Tens[j].Eng) c.Ops).Snaps=s.Tens[j].Eng.Snaps:=(zgp _).2
       unfold putS
       rw[hst]
       unfold flushO
       rw[zP _ j hj]
       simp only[Int.toNat_natCast,List.set_set]
       unfold flushT
       rw[←e4,←e5]
       have e6:(⟨(engB (flatE s.Tens[j].Eng) c.Ops).Mem,(engB (flatE s.Tens[j].Eng) c.Ops).Tables,s.Tens[j].Eng.Seq+1,(engB (flatE s.Tens[j].Eng) c.Ops).Snaps⟩:Eng)=engB (flatE s.Tens[j].Eng) c.Ops:=by rw[←hq]
       simp only[e3,hq,e6,Option.bind_some]
theorem zts {s:Store} (h:storeP s) {id:Int} (hno: ∀x∈s.Tens,¬x.Id=id): ∀x∈s.Keys.Slots,¬x.Tenant=id:=by
 intro x hx e
 have hmem:x.Tenant∈s.Tens.map STen.Id:=by rw[h.slots];exact List.mem_map_of_mem hx
 obtain ⟨y,hy,hye⟩:=List.mem_map.1 hmem
 exact hno y hy (hye.trans e)
theorem zlQ {s:Store} (h:storeP s) (c:Call):zcR s c=some ((createS s c).2,(createS s c).1):=by
 have hs:=h.small
 obtain ⟨l1,l2,l3⟩:=h.lens
 unfold zcR createS
 simp only[zqt,znm,zgJ h,no_R,zh1 s.Shares _ _ hs.shares,zdT,len32,Option.bind_some]
 cases ht:decide (1≤c.Tenant∧c.Tenant≤99) with
 | false=>rfl
 | true=>
 cases decide (0≤c.N∧c.N≤40) with
 | false=>rfl
 | true=>
 cases hkl:decide (c.Key.length=32) with
 | false=>rfl
 | true=>
 rcases zdC s.Tens c.Tenant with ⟨j,hj,e,_,_⟩ | ⟨e,hno⟩
 ·rw[e,decide_eq_true (by omega:(j:Int)≥0)]
  rfl
 ·rw[e]
  simp only[Bool.not_true,Bool.false_eq_true,if_false,Option.bind_some,Bool.false_or,show decide ((-1:Int)≥0)=false from rfl,cond_false]
  by_cases h44:4≤s.Tens.length
  ·rw[decide_eq_true (by omega:(s.Tens.length:Int)≥4),decide_eq_true h44]
   rfl
  ·rw[decide_eq_false (by omega: ¬(s.Tens.length:Int)≥4),decide_eq_false h44]
   have hns:=zts h hno
   have hk:=zmD h.keys hns (zoc (key:=c.Key) h.keys (of_decide_eq_true ht) (of_decide_eq_true hkl) (by omega) hns)
   simp only[Bool.false_eq_true,if_false,cond_false,hk,Option.bind_some]
   cases (setR s.Shares c.Tenant c.N).2 with
   | false=>rfl
   | true=>
     simp only[Bool.not_true,Bool.false_eq_true,if_false,cond_true]
     have hp:placeE s.Tens c.Tenant≤s.Tens.length:=(zjr _ _).1
     rw[zmr (R:=Reply × Store) (fun x:STen=>decide (x.Id<c.Tenant)) s.Tens hs.tens (fun k hk=>?_) (by simp)]
     ·simp only[zf]
      unfold zb0 ins
      rw[if_pos ⟨by omega,by exact_mod_cast hp,by simp only[List.length_singleton];omega,by simp only[List.length_singleton];omega⟩,Int.toNat_natCast]
      rfl
     ·simp only[ze s.Tens k hk,Option.bind_some]
      rw[if_pos (by simpa using hk)]
      rfl
theorem zmH {s:Store} (h:storeP s) (c:Call):zdh s c=some ((quotaS s c).2,(quotaS s c).1):=by
 unfold zdh quotaS
 simp only[znm,no_R,zh1 s.Shares _ _ h.small.shares,Option.bind_some]
 cases decide (0≤c.N∧c.N≤40) with
 | false=>rfl
 | true=>cases (setR s.Shares c.Tenant c.N).2<;>rfl
theorem zrN (a b:Bool):((if a=true then (some true) else (some b)):Option Bool)=some (a||b):=by cases a<;>rfl
theorem zlR {s:Store} (h:storeP s) (j:Nat) (hj:j<s.Tens.length) (id:Int) (hid:s.Tens[j].Id=id):zcS s id=some ((removeS s id).2,(removeS s id).1):=by
 have hs:=h.small
 have hb:=h.boot
 obtain ⟨y,hy,hye⟩:=h.slot (List.getElem_mem hj)
 unfold zcS removeS
 simp only[zrN,Option.bind_some,no_R,ge_iff_le]
 by_cases hc:1000≤s.Boot
 ·rw[decide_eq_true hc];rfl
 ·by_cases hw:1000000≤s.Keys.Wiped
  ·rw[decide_eq_true hw,Bool.or_true];rfl
  ·rw[decide_eq_false hc,decide_eq_false hw]
   simp only[Bool.or_self,Bool.false_eq_true,if_false,cond_false,zlP h.keys ⟨y,hy,hye.trans hid⟩ (by omega),zkL s.Shares id hs.shares,zrg s.Tens id hs.tens,Option.bind_some]
   rw[zho]
   ·simp only[Option.bind_some]
    rw[zb (n:=s.Boot+1) (by omega) (by omega)]
    rfl
   ·exact hs.rows
theorem zlS {s:Store} (h:storeP s) (j:Nat) (hj:j<s.Tens.length) (id:Int) (hid:s.Tens[j].Id=id) (ha:atE s.Tens id=(j:Int)):zcT s id=some ((rotateS s (j:Int)).2,(rotateS s (j:Int)).1):=by
 subst hid
 have hep:=(h.tens _ (List.getElem_mem hj)).ep
 unfold zcT rotateS
 rw[zP _ j hj]
 simp only[zgJ h,ha,ze s.Tens j hj,no_R,zdT,Option.bind_some,Int.toNat_natCast]
 by_cases he:s.Tens[j].Epoch≥1000000
 ·rw[decide_eq_true he];rfl
 ·rw[decide_eq_false he,zb (n:=s.Tens[j].Epoch+1) (by omega) (by omega)]
  rfl
theorem zon {s:Store} (h:storeP s) (c:Call):zcy s c=some ((ownS s c).2,(ownS s c).1):=by
 unfold zcy ownS
 simp only[zgJ h,no_R,Option.bind_some]
 rcases zdC s.Tens c.Tenant with ⟨j,hj,e,hid,_⟩ | ⟨e,_⟩
 ·rw[e,decide_eq_false (by omega: ¬(j:Int)<0)]
  simp only[Bool.false_eq_true,if_false,cond_false]
  cases decide (c.Kind=2) with
  | true=>
    simp only[if_true,zmH h c,Option.bind_some,cond_true]
    unfold quotaS
    cases decide (0≤c.N∧c.N≤40) with
    | false=>rfl
    | true=>cases (setR s.Shares c.Tenant c.N).2<;>rfl
  | false=>
    cases decide (c.Kind=3) with
    | true=>
      simp only[Bool.false_eq_true,if_false,if_true,zlR h j hj c.Tenant hid,Option.bind_some,cond_true,cond_false]
      unfold removeS
      cases decide (1000≤s.Boot)||decide (1000000≤s.Keys.Wiped)<;>rfl
    | false=>
      cases decide (c.Kind=4) with
      | true=>
        simp only[Bool.false_eq_true,if_false,if_true,zlS h j hj c.Tenant hid e,Option.bind_some,cond_true,cond_false]
        unfold rotateS
        cases decide ((tenE s.Tens (j:Int)).Epoch≥1000000)<;>rfl
      | false=>
        simp only[Bool.false_eq_true,if_false,zjG h j hj c.Tenant hid e,Option.bind_some,cond_false]
        rfl
 ·rw[e]
  rfl
theorem znY {s:Store} (h:storeP s):zdG s=some (codeR 0,syncS s):=by
 have hr:=h.rlen
 unfold zdG syncS
 refine set_loop markL s.Rows (by omega) (fun k us hk hu=>?_) (fun us hu=>?_) rfl
 ·simp only
  rw[if_pos (by simpa using hk)]
  rfl
 ·simp
def keepJ:Int→List LogRow→List LogRow
 | _,[]=>[]
 | n,r::l=>bif r.Synced then markL r::keepJ n l else bif decide (n - 1≥0) then markL r::keepJ (n - 1) l else keepJ (n - 1) l
theorem zi6: ∀(l:List LogRow) (n k:Int),(k=n∧0≤n)∨(n<1∧k<1)→keepJ k l=keepL n l
 | [],_,_,_=>rfl
 | r::l,n,k,h=>by
   unfold keepJ keepL
   cases r.Synced with
   | true=>
     simp only[cond_true]
     rw[zi6 l n k h]
   | false=>
     simp only[cond_false]
     by_cases h1:n<1
     ·have hk:k<1:=by omega
      rw[decide_eq_true h1,decide_eq_false (by omega: ¬k - 1≥0)]
      simp only[cond_true,cond_false]
      exact zi6 l n (k - 1) (.inr ⟨h1,by omega⟩)
     ·have hk:k=n:=by omega
      subst hk
      rw[decide_eq_false h1,decide_eq_true (by omega:k - 1≥0)]
      simp only[cond_true,cond_false]
      rw[zi6 l (k - 1) (k - 1) (.inl ⟨rfl,by omega⟩)]
theorem zrt (l:List LogRow) (n:Int):(keepL n l).length≤l.length:=by
 obtain ⟨q,h,e⟩:=zj8 l n
 rw[e,List.length_map]
 exact h.length_le
theorem zqq {R:Type} (l:List LogRow) (n:Int) (hl:l.length≤1000000) (hn: -9223372036854775808≤n∧n≤9223372036854775807) {body:Int × Int × List LogRow→Option (Ctl (Int × Int × List LogRow) (Ctl (List LogRow) R))} {f:List LogRow→Option R} {z:R}
 (hb:body=fun (S6:Int × Int × List LogRow)=>if (decide (S6.2.1<(l.length:Int)))=true then ((idx l S6.2.1).bind fun E11=>
 bindC (if (!E11.Synced)=true then (some (.go (IntKind.i64.wrap (S6.1 - (1:Int)))))
 else (some (.go S6.1)))
 (fun (T14:Int)=>(if E11.Synced=true then (some true)
 else (some (decide (T14≥(0:Int))))).bind (fun (T17:Bool)=>
 bindC (if T17=true then ((app 48 S6.2.2 ([(⟨E11.Tenant,E11.Boot,E11.Seq,E11.Text,true⟩:LogRow)])).bind fun E25=>
 some (.go E25))
 else (some (.go S6.2.2)))
 (fun (T20:List LogRow)=>some (.go (T14,IntKind.i64.wrap (S6.2.1+(1:Int)),T20))))))
 else (some (.done (.go S6.2.2))))
 (hf:f (keepL n l)=some z):bindC (loopO body (goMax n 0,(0:Int),([]:List LogRow))) f=some z:=by
 have hkeep:keepJ (max n 0) l=keepL n l:=zi6 l n (max n 0) (by omega)
 have hgm:goMax n 0=max n 0:=by unfold goMax;split<;>omega
 rw[hgm]
 refine zbR (fun k (S:Int × Int × List LogRow)=>(-(k:Int)≤S.1∧S.1≤9223372036854775807)∧S.2.1=(k:Int)∧S.2.2.length≤k∧S.2.2++keepJ S.1 (l.drop k)=keepL n l) l.length
  (fun r=>r= .go (keepL n l)) ⟨by simp only;omega,rfl,by simp,by simpa using hkeep⟩ ?_ ?_ (fun r hr=>by rw[hr];exact hf)
 ·rintro k ⟨c,i,out⟩ hk ⟨hc,h1,h3,h4⟩
  simp only at hc h1 h3 h4
  subst h1
  left
  have hw:IntKind.i64.wrap ((k:Int)+(1:Int))=((k+1:Nat):Int):=by rw[zb (by omega) (by omega)];omega
  have hap: ∀x:LogRow,app 48 out [x]=some (out++ [x]):=fun x=>zm (by simp only[List.length_singleton];omega) (by simp only[List.length_singleton];omega)
  rw[List.drop_eq_getElem_cons hk,keepJ]at h4
  rw[hb]
  simp only[ze l k hk,Option.bind_some]
  rw[if_pos (by simpa using hk),hw]
  cases hs:l[k].Synced with
  | true=>
    rw[hs]at h4
    simp only[Bool.not_true,Bool.false_eq_true,if_false,zf,if_true,Option.bind_some,hap]
    exact ⟨_,rfl,by simp only;omega,rfl,by simp;omega,by simpa[markL] using h4⟩
  | false=>
    rw[hs]at h4
    rw[zb (n:=c - 1) (by omega) (by omega)]
    simp only[Bool.not_false,if_true,zf,Bool.false_eq_true,if_false,Option.bind_some]
    simp only[cond_false]at h4
    cases hd:decide (c - 1≥0) with
    | true=>
      rw[hd]at h4
      simp only[if_true,hap,Option.bind_some,zf]
      exact ⟨_,rfl,by simp only;omega,rfl,by simp;omega,by simpa[markL] using h4⟩
    | false=>
      rw[hd]at h4
      simp only[Bool.false_eq_true,if_false,zf]
      exact ⟨_,rfl,by simp only;omega,rfl,by simp only;omega,by simpa using h4⟩
 ·rintro ⟨c,i,out⟩ ⟨hc,h1,h3,h4⟩
  simp only at h1 h4
  subst h1
  rw[List.drop_length,keepJ,List.append_nil]at h4
  exact ⟨.go (keepL n l),by rw[hb];simp[h4],rfl⟩
theorem zqg {s:Store} (h:storeP s) (n:Int): ∀r∈keepL n s.Rows,r.Text.length≤1048576:=by
 intro r hr
 obtain ⟨q,hq,rfl⟩:=zj7 _ _ _ hr
 exact h.small.text q hq
theorem set_loopP {α R:Type} (g:α→α) (l:List α) (hl:l.length≤1000000) {body:Int × List α→Option (Ctl (Int × List α) (Ctl (List α) R))} {f:List α→Option R} {z:R}
 (hb: ∀k (us:List α) (hk:k<l.length),us.length=l.length→idx us (k:Int)=some l[k]→body ((k:Int),us)=some (.go (IntKind.i64.wrap ((k:Int)+(1:Int)),us.set ((k:Nat):Int).toNat (g l[k]))))
 (hn: ∀us:List α,us.length=l.length→body ((l.length:Int),us)=some (.done (.go us))) (hf:f (l.map g)=some z):bindC (loopO body ((0:Int),l)) f=some z:=by
 refine zbR (fun k (S:Int × List α)=>S=((k:Int),(l.take k).map g++l.drop k)) l.length (fun r=>r= .go (l.map g)) rfl ?_ ?_ (fun r hr=>by rw[hr];exact hf)
 ·rintro k _ hk rfl
  left
  refine ⟨_,?_,rfl⟩
  have hlen:((l.take k).map g++l.drop k).length=l.length:=by simp;omega
  have hg:((l.take k).map g++l.drop k)[k]'(by omega)=l[k]:=by
   rw[List.getElem_append_right (by rw[List.length_map,List.length_take];omega),List.getElem_drop]
   congr 1
   simp;omega
  rw[hb k _ hk hlen (by rw[ze _ k (by omega),hg]),Int.toNat_natCast,zb (n:=(k:Int)+1) (by omega) (by omega)]
  congr 3
  rw[zbL l k hk,List.map_append,List.set_append_right _ _ (by rw[List.length_map,List.length_take];omega),List.length_map,List.length_take,show k - min k l.length=0 by omega,List.drop_eq_getElem_cons hk,List.set_cons_zero]
  simp
 ·rintro _ rfl
  refine ⟨.go (l.map g),?_,rfl⟩
  rw[List.take_length,List.drop_length,List.append_nil,hn _ (by simp)]
theorem zmG {s:Store} (h:storeP s) (n:Int) (hn: -9223372036854775808≤n∧n≤9223372036854775807):zdf s n=some ((crashS s n).2,(crashS s n).1):=by
 have hs:=h.small
 have hb:=h.boot
 have hr:=h.rlen
 have hkl:=zrt s.Rows n
 obtain ⟨l1,l2,l3⟩:=h.lens
 unfold zdf crashS
 simp only[no_R,ge_iff_le]
 by_cases hc:1000≤s.Boot
 ·rw[decide_eq_true hc];rfl
 ·rw[decide_eq_false hc]
  simp only[Bool.false_eq_true,if_false,cond_false]
  refine zqq s.Rows n (by omega) hn rfl ?_
  refine set_loopP (fun t=>crashT (keyOfV s.Keys t.Id) (ofLR t.Id (keepL n s.Rows)) t) s.Tens (by omega) (fun k us hk hu hi=>?_) (fun us hu=>?_) ?_
  ·have hT:=h.tens _ (List.getElem_mem hk)
   simp only[hi,Option.bind_some]
   have hrp:=zij ⟨s.Secret,s.Keys,s.Shares,us,keepL n s.Rows,s.Hist,s.Boot⟩ s.Tens[k] (ofLR s.Tens[k].Id (keepL n s.Rows)) (Nat.le_trans (List.length_filter_le _ _) (by omega)) (fun r hr2=>zqg h n r (List.mem_filter.1 hr2).1) hs.slots hT.eng hT.start
   have er:rowsV ⟨s.Secret,s.Keys,s.Shares,us,keepL n s.Rows,s.Hist,s.Boot⟩ s.Tens[k].Id=ofLR s.Tens[k].Id (keepL n s.Rows):=rfl
   rw[if_pos (by simpa using hk),zf4 _ _ (by simp only;omega),Option.bind_some,er,hrp]
   rfl
  ·simp
  ·rw[zb (n:=s.Boot+1) (by omega) (by omega)]
   rfl
theorem zk9 (s:Store) (i:Int) (ops:List Op):(writeS s i ops).1.Keys=s.Keys∧(writeS s i ops).1.Shares=s.Shares:=by
 unfold writeS
 cases decide (120≤s.Hist.length) with
 | true=>exact ⟨rfl,rfl⟩
 | false=>
 cases batchV ops with
 | false=>exact ⟨rfl,rfl⟩
 | true=>
 cases decide ((bytesN (applyK (mapR (tenE s.Tens i).Eng (tenE s.Tens i).Eng.Seq) ops):Int)>quoV (-1) s.Shares (tenE s.Tens i).Id) with
 | true=>exact ⟨rfl,rfl⟩
 | false=>
 have hroom:(roomS s i).Keys=s.Keys∧(roomS s i).Shares=s.Shares:=by
  unfold roomS
  cases decide (6≤(ofLR (tenE s.Tens i).Id s.Rows).length)<;>exact ⟨rfl,rfl⟩
 cases okB (tenE (roomS s i).Tens i).Eng ops&& !decide (sealB (keyOfV s.Keys (tenE s.Tens i).Id) s.Boot ((tenE s.Tens i).Eng.Seq+1) ops= []) with
 | false=>exact ⟨rfl,rfl⟩
 | true=>exact hroom
theorem znX {s:Store} (h:storeP s) (j:Nat) (hj:j<s.Tens.length):zbX s.Tens (j:Int)=some ((snapS s (j:Int)).2,(snapS s (j:Int)).1.Tens):=by
 have hT:=h.tens _ (List.getElem_mem hj)
 have hsn:=hT.snaps
 unfold zbX snapS
 rw[zP _ j hj,ze s.Tens j hj]
 simp only[Option.bind_some,zo7 s.Tens[j].Eng.Snaps s.Tens[j].Eng.Seq (by omega),no_R]
 cases decide (s.Tens[j].Eng.Seq∈s.Tens[j].Eng.Snaps) with
 | true=>rfl
 | false=>
   simp only[Bool.false_eq_true,if_false,cond_false]
   by_cases h2:2≤s.Tens[j].Eng.Snaps.length
   ·rw[decide_eq_true (by omega:((s.Tens[j].Eng.Snaps.length:Nat):Int)≥2),decide_eq_true h2]
    rfl
   ·rw[decide_eq_false (by omega: ¬((s.Tens[j].Eng.Snaps.length:Nat):Int)≥2),decide_eq_false h2]
    simp only[Bool.false_eq_true,if_false,cond_false]
    rw[zm (by simp only[List.length_singleton];omega) (by simp only[List.length_singleton];omega)]
    unfold withE withT
    rw[zP _ j hj]
    rfl
theorem zmh (s:Store) (i:Int):(snapS s i).1=⟨s.Secret,s.Keys,s.Shares,(snapS s i).1.Tens,s.Rows,s.Hist,s.Boot⟩:=by
 unfold snapS
 cases decide ((tenE s.Tens i).Eng.Seq∈(tenE s.Tens i).Eng.Snaps) with
 | true=>rfl
 | false=>cases decide (2≤(tenE s.Tens i).Eng.Snaps.length)<;>rfl
theorem zq9 (s:Store) (c:Call) (j:Nat) (hj:j<s.Tens.length) (ha:atE s.Tens (tokR s.Secret c.Token).1=(j:Int)):
 callS s c=(bif !(tokR s.Secret c.Token).2.2|| !decide (s.Tens[j].Epoch=(tokR s.Secret c.Token).2.1) then (s,codeR 2) else tenS s (j:Int) c):=by
 unfold callS
 rw[ha,zP _ j hj,decide_eq_false (by omega: ¬(j:Int)<0),Bool.false_or]
theorem zqe (s:Store) (c:Call) (ha:atE s.Tens (tokR s.Secret c.Token).1= -1):callS s c=(s,codeR 2):=by
 unfold callS
 rw[ha]
 have:(!(tokR s.Secret c.Token).2.2||(decide ((-1:Int)<0)|| !decide ((tenE s.Tens (-1)).Epoch=(tokR s.Secret c.Token).2.1)))=true:=by simp
 rw[this]
 rfl
theorem znW {s:Store} (h:storeP s) (c:Call) (ht:c.Token.length≤1048576) (hc:c.Ops.length≤1048576):zci s c=some ((callS s c).2,(callS s c).1):=by
 unfold zci
 rw[zgW s.Secret c.Token (by omega)]
 simp only[Option.bind_some,zgJ h,no_R]
 rcases zdC s.Tens (tokR s.Secret c.Token).1 with ⟨j,hj,e,_,_⟩ | ⟨e,_⟩
 ·rw[zq9 s c j hj e,e,decide_eq_false (by omega: ¬(j:Int)<0)]
  simp only[ze s.Tens j hj,Option.bind_some]
  cases (tokR s.Secret c.Token).2.2 with
  | false=>rfl
  | true=>
    cases decide (s.Tens[j].Epoch=(tokR s.Secret c.Token).2.1) with
    | false=>rfl
    | true=>
      simp only[Bool.not_true,Bool.false_eq_true,if_false,Option.bind_some,Bool.or_self,cond_false]
      have hT:=h.tens _ (List.getElem_mem hj)
      have hsn:=hT.snaps
      have hml:=zls s.Tens[j].Eng s.Tens[j].Eng.Seq
      have hkv:=zpT hT.eng s.Tens[j].Eng.Seq
      unfold tenS
      rw[zP _ j hj]
      cases decide (c.Kind=5) with
      | true=>
        simp only[if_true,zmI h j hj c hc,Option.bind_some,cond_true]
        obtain ⟨w1,w2⟩:=zk9 s (j:Int) c.Ops
        rw[←w1,←w2]
      | false=>
        cases decide (c.Kind=6) with
        | true=>simp only[Bool.false_eq_true,if_false,if_true,znM s.Tens j hj hT.eng,Option.bind_some,cond_true,cond_false]
        | false=>
          cases decide (c.Kind=7) with
          | true=>simp only[Bool.false_eq_true,if_false,if_true,zke s.Tens j hj hT.eng,zlV _ _ _ (show (mapR s.Tens[j].Eng s.Tens[j].Eng.Seq).length≤1048576 by omega),Option.bind_some,cond_true,cond_false]
          | false=>
            cases decide (c.Kind=8) with
            | true=>
              simp only[Bool.false_eq_true,if_false,if_true,znX h j hj,Option.bind_some,cond_true,cond_false]
              rw[←zmh s (j:Int)]
            | false=>
              cases decide (c.Kind=11) with
              | true=>simp only[Bool.false_eq_true,if_false,if_true,zke s.Tens j hj hT.eng,zh2 _ hkv (show (mapR s.Tens[j].Eng s.Tens[j].Eng.Seq).length≤1048576 by omega),Option.bind_some,cond_true,cond_false]
              | false=>
                simp only[Bool.false_eq_true,if_false,cond_false]
                unfold heldS
                rw[zP _ j hj]
                rcases zpe s.Tens[j].Eng.Snaps c.N (by omega) with ⟨k,hk,e5,e6⟩ | ⟨e5,e6⟩
                ·rw[e5]
                 simp only[Option.bind_some]
                 rw[decide_eq_false (by omega: ¬(k:Int)<0),decide_eq_true (e6 ▸ List.getElem_mem hk:c.N∈s.Tens[j].Eng.Snaps)]
                 simp only[Bool.false_eq_true,if_false,cond_true]
                 cases decide (c.Kind=10) with
                 | true=>simp only[if_true,znM s.Tens j hj hT.eng,Option.bind_some,cond_true]
                 | false=>
                   simp only[Bool.false_eq_true,if_false,cond_false]
                   rw[zqj s.Tens[j].Eng.Snaps k hk (by omega),←zok (zqn hT.eng).2 k hk,e6]
                   unfold withE withT
                   rw[zP _ j hj]
                   rfl
                ·rw[e5,decide_eq_false fun hm=>e6 _ hm rfl]
                 rfl
 ·rw[zqe s c e,e]
  cases (tokR s.Secret c.Token).2.2<;>rfl
theorem zlp {s:Store} (h:storeP s) (c:Call) (hc:smC c):zcz s c=some ((doS s c).2,(doS s c).1):=by
 unfold zcz doS
 simp only[zY,no_R,Option.bind_some]
 cases h1:decide (c.Kind=1) with
 | true=>
   simp only[if_true,zlQ h c,Option.bind_some,cond_true]
   unfold createS
   cases !decide (1≤c.Tenant∧c.Tenant≤99)||(!decide (0≤c.N∧c.N≤40)||(!decide (c.Key.length=32)||decide (atE s.Tens c.Tenant≥0))) with
   | true=>rfl
   | false=>
     cases decide (4≤s.Tens.length) with
     | true=>rfl
     | false=>cases (setR s.Shares c.Tenant c.N).2<;>rfl
 | false=>
   simp only[Bool.false_eq_true,if_false,cond_false]
   have hk1:=of_decide_eq_false h1
   by_cases h12:c.Kind=12
   ·rw[decide_eq_true h12,decide_eq_false (by omega: ¬(2≤c.Kind∧c.Kind≤4)),decide_eq_false (by omega: ¬c.Kind=13),decide_eq_false (by omega: ¬(5≤c.Kind∧c.Kind≤11))]
    simp only[Bool.false_eq_true,if_false,if_true,Option.bind_some,znY h,cond_true]
    rfl
   ·by_cases h14:c.Kind=14
    ·rw[decide_eq_false h12,decide_eq_true h14,decide_eq_false (by omega: ¬(2≤c.Kind∧c.Kind≤4)),decide_eq_false (by omega: ¬c.Kind=13),decide_eq_false (by omega: ¬(5≤c.Kind∧c.Kind≤11))]
     simp only[Bool.false_eq_true,if_false,if_true,Option.bind_some,zmG h c.N hc.num,cond_true,cond_false]
     unfold crashS
     cases decide (1000≤s.Boot)<;>rfl
    ·rw[decide_eq_false h12,decide_eq_false h14]
     simp only[zrN,Option.bind_some,cond_false]
     cases decide (2≤c.Kind∧c.Kind≤4)||decide (c.Kind=13) with
     | true=>
       simp only[if_true,zon h c,Option.bind_some,cond_true]
       have hh:(ownS s c).1.Hist=s.Hist:=by
        unfold ownS
        cases decide (atE s.Tens c.Tenant<0) with
        | true=>rfl
        | false=>
        cases decide (c.Kind=2) with
        | true=>
          simp only[cond_true,cond_false]
          unfold quotaS
          cases decide (0≤c.N∧c.N≤40)<;>cases (setR s.Shares c.Tenant c.N).2<;>rfl
        | false=>
        cases decide (c.Kind=3) with
        | true=>
          simp only[cond_true,cond_false]
          unfold removeS
          cases decide (1000≤s.Boot)||decide (1000000≤s.Keys.Wiped)<;>rfl
        | false=>
        cases decide (c.Kind=4) with
        | true=>
          simp only[cond_true,cond_false]
          unfold rotateS
          cases decide ((tenE s.Tens (atE s.Tens c.Tenant)).Epoch≥1000000)<;>rfl
        | false=>rfl
       rw[←hh]
     | false=>
       simp only[Bool.false_eq_true,if_false,cond_false]
       cases decide (5≤c.Kind∧c.Kind≤11) with
       | true=>
         have hsh:(callS s c).1.Keys=s.Keys∧(callS s c).1.Shares=s.Shares:=by
          unfold callS
          cases (!(tokR s.Secret c.Token).2.2||(decide (atE s.Tens (tokR s.Secret c.Token).1<0)|| !decide ((tenE s.Tens (atE s.Tens (tokR s.Secret c.Token).1)).Epoch=(tokR s.Secret c.Token).2.1))) with
          | true=>exact ⟨rfl,rfl⟩
          | false=>
            unfold tenS
            cases decide (c.Kind=5) with
            | true=>exact zk9 _ _ _
            | false=>
            cases decide (c.Kind=6) with
            | true=>exact ⟨rfl,rfl⟩
            | false=>
            cases decide (c.Kind=7) with
            | true=>exact ⟨rfl,rfl⟩
            | false=>
            cases decide (c.Kind=8) with
            | true=>simp only[cond_true,cond_false];rw[zmh];exact ⟨rfl,rfl⟩
            | false=>
            cases decide (c.Kind=11) with
            | true=>exact ⟨rfl,rfl⟩
            | false=>
              simp only[cond_false]
              unfold heldS
              cases decide (c.N∈(tenE s.Tens (atE s.Tens (tokR s.Secret c.Token).1)).Eng.Snaps)<;>cases decide (c.Kind=10)<;>exact ⟨rfl,rfl⟩
         simp only[if_true,znW h c hc.tok hc.ops,Option.bind_some,cond_true]
         rw[←hsh.1,←hsh.2]
       | false=>rfl
theorem znK (e:Eng) (key:List UInt8) (seq:Int):(valR e key seq).List= []:=by
 unfold valR
 cases (getR e key seq).2<;>rfl
theorem zr5 (s:Store) (i:Int) (c:Call):(tenS s i c).2.List.length≤400:=by
 unfold tenS
 cases decide (c.Kind=5) with
 | true=>
   simp only[cond_true]
   unfold writeS
   cases decide (120≤s.Hist.length) with
   | true=>exact Nat.zero_le _
   | false=>
   cases batchV c.Ops with
   | false=>exact Nat.zero_le _
   | true=>
   cases decide ((bytesN (applyK (mapR (tenE s.Tens i).Eng (tenE s.Tens i).Eng.Seq) c.Ops):Int)>quoV (-1) s.Shares (tenE s.Tens i).Id) with
   | true=>exact Nat.zero_le _
   | false=>
   cases okB (tenE (roomS s i).Tens i).Eng c.Ops&& !decide (sealB (keyOfV s.Keys (tenE s.Tens i).Id) s.Boot ((tenE s.Tens i).Eng.Seq+1) c.Ops= [])<;>exact Nat.zero_le _
 | false=>
 cases decide (c.Kind=6) with
 | true=>simp only[cond_true,cond_false];rw[znK];exact Nat.zero_le _
 | false=>
 cases decide (c.Kind=7) with
 | true=>exact Nat.le_trans (List.length_filter_le _ _) (zls _ _)
 | false=>
 cases decide (c.Kind=8) with
 | true=>
   simp only[cond_true,cond_false]
   unfold snapS
   cases decide ((tenE s.Tens i).Eng.Seq∈(tenE s.Tens i).Eng.Snaps)<;>cases decide (2≤(tenE s.Tens i).Eng.Snaps.length)<;>exact Nat.zero_le _
 | false=>
 cases decide (c.Kind=11) with
 | true=>exact Nat.zero_le _
 | false=>
   simp only[cond_false]
   unfold heldS
   cases decide (c.N∈(tenE s.Tens i).Eng.Snaps) with
   | false=>exact Nat.zero_le _
   | true=>
     cases decide (c.Kind=10) with
     | true=>simp only[cond_true];rw[znK];exact Nat.zero_le _
     | false=>exact Nat.zero_le _
theorem zsq (s:Store) (c:Call):(doS s c).2.List.length≤400:=by
 unfold doS
 cases decide (c.Kind=1) with
 | true=>
   simp only[cond_true]
   unfold createS
   cases !decide (1≤c.Tenant∧c.Tenant≤99)||(!decide (0≤c.N∧c.N≤40)||(!decide (c.Key.length=32)||decide (atE s.Tens c.Tenant≥0)))<;>cases decide (4≤s.Tens.length)<;>cases (setR s.Shares c.Tenant c.N).2<;>exact Nat.zero_le _
 | false=>
 cases decide (c.Kind=12) with
 | true=>exact Nat.zero_le _
 | false=>
 cases decide (c.Kind=14) with
 | true=>
   simp only[cond_true,cond_false]
   unfold crashS
   cases decide (1000≤s.Boot)<;>exact Nat.zero_le _
 | false=>
 cases decide (2≤c.Kind∧c.Kind≤4)||decide (c.Kind=13) with
 | true=>
   simp only[cond_true,cond_false]
   unfold ownS
   cases decide (atE s.Tens c.Tenant<0) with
   | true=>exact Nat.zero_le _
   | false=>
   cases decide (c.Kind=2) with
   | true=>
     simp only[cond_true,cond_false]
     unfold quotaS
     cases decide (0≤c.N∧c.N≤40)<;>cases (setR s.Shares c.Tenant c.N).2<;>exact Nat.zero_le _
   | false=>
   cases decide (c.Kind=3) with
   | true=>
     simp only[cond_true,cond_false]
     unfold removeS
     cases decide (1000≤s.Boot)||decide (1000000≤s.Keys.Wiped)<;>exact Nat.zero_le _
   | false=>
   cases decide (c.Kind=4) with
   | true=>
     simp only[cond_true,cond_false]
     unfold rotateS
     cases decide ((tenE s.Tens (atE s.Tens c.Tenant)).Epoch≥1000000)<;>exact Nat.zero_le _
   | false=>exact Nat.zero_le _
 | false=>
 cases decide (5≤c.Kind∧c.Kind≤11) with
 | false=>exact Nat.zero_le _
 | true=>
   simp only[cond_true,cond_false]
   unfold callS
   cases !(tokR s.Secret c.Token).2.2||(decide (atE s.Tens (tokR s.Secret c.Token).1<0)|| !decide ((tenE s.Tens (atE s.Tens (tokR s.Secret c.Token).1)).Epoch=(tokR s.Secret c.Token).2.1)) with
   | true=>exact Nat.zero_le _
   | false=>exact zr5 _ _ _
def noStore:Store:=⟨[],⟨[],[],0⟩,⟨0,[]⟩,[],[],[],0⟩
def othE (x:STen):STen:=⟨x.Id,x.Epoch,0,⟨[],[],0,[]⟩⟩
def mineE (t:Int) (x:STen):STen:=bif decide (x.Id=t) then x else othE x
def viewS (t:Int) (s:Store):Store:=⟨s.Secret,s.Keys,s.Shares,s.Tens.map (mineE t),ofLR t s.Rows,[],s.Boot⟩
theorem zew {t:Int} {x:STen} (h:x.Id=t):mineE t x=x:=by unfold mineE;rw[decide_eq_true h];rfl
theorem zmU {t:Int} {x:STen} (h: ¬x.Id=t):mineE t x=othE x:=by unfold mineE;rw[decide_eq_false h];rfl
theorem zcK (t:Int) (x:STen):(mineE t x).Id=x.Id∧(mineE t x).Epoch=x.Epoch:=by
 by_cases h:x.Id=t
 ·rw[zew h];exact ⟨rfl,rfl⟩
 ·rw[zmU h];exact ⟨rfl,rfl⟩
theorem zhd {t:Int} {x y:STen} (h1:x.Id=y.Id) (h2:x.Epoch=y.Epoch) (h: ¬y.Id=t):mineE t x=mineE t y:=by
 rw[zmU h,zmU (by rw[h1];exact h)]
 unfold othE
 rw[h1,h2]
theorem zrL (t:Int) (x:STen):mineE t (mineE t x)=mineE t x:=by
 by_cases h:x.Id=t
 ·rw[zew h,zew h]
 ·rw[zhd (zcK t x).1 (zcK t x).2 h]
theorem zeW (t:Int) (l:List STen):(l.map (mineE t)).map (mineE t)=l.map (mineE t):=by
 rw[List.map_map]
 exact List.map_congr_left fun x _=>zrL t x
theorem zdm (t:Int) (l:List LogRow):ofLR t (ofLR t l)=ofLR t l:=by
 unfold ofLR
 rw[List.filter_filter]
 exact List.filter_congr fun x _=>by simp
theorem zld (t id:Int) (l:List STen):atE (l.map (mineE t)) id=atE l id:=by
 unfold atE fstV
 rw[List.findIdx?_map]
 have:((fun x:STen=>decide (x.Id=id)) ∘ mineE t)=fun x:STen=>decide (x.Id=id):=by
  funext x
  show decide ((mineE t x).Id=id)=_
  rw[(zcK t x).1]
 rw[this]
theorem ze4 (t:Int) (l:List STen) (i:Int):tenE (l.map (mineE t)) i=mineE t (tenE l i):=by
 unfold tenE
 rw[List.getD_eq_getElem?_getD,List.getD_eq_getElem?_getD,List.getElem?_map]
 cases l[i.toNat]? with
 | none=>
   show _=mineE t _
   simp only[Option.map_none,Option.getD_none]
   have: ∀x:STen,othE x=x→mineE t x=x:=by
    intro x hx
    unfold mineE
    rw[hx]
    cases decide (x.Id=t)<;>rfl
   exact (this _ rfl).symm
 | some x=>rfl
theorem set_other {t:Int} {l:List STen} {i:Int} {x:STen} (h1:x.Id=(tenE l i).Id) (h2:x.Epoch=(tenE l i).Epoch) (h: ¬(tenE l i).Id=t):(l.set i.toNat x).map (mineE t)=l.map (mineE t):=by
 rw[List.map_set,zhd h1 h2 h]
 by_cases hi:i.toNat<l.length
 ·have e:mineE t (tenE l i)=(l.map (mineE t))[i.toNat]'(by simpa using hi):=by
   unfold tenE
   rw[List.getD_eq_getElem?_getD,List.getElem?_eq_getElem hi,List.getElem_map]
   rfl
  rw[e,List.set_getElem_self]
 ·exact List.set_eq_of_length_le (by rw[List.length_map];omega)
theorem zqT (t id:Int) (l:List STen):placeE (l.map (mineE t)) id=placeE l id:=by
 unfold placeE
 rw[List.takeWhile_map,List.length_map]
 have:((fun x:STen=>decide (x.Id<id)) ∘ mineE t)=fun x:STen=>decide (x.Id<id):=by
  funext x
  show decide ((mineE t x).Id<id)=_
  rw[(zcK t x).1]
 rw[this]
theorem zsC (t:Int) (l:List STen) (x:STen):(insTE l x).map (mineE t)=insTE (l.map (mineE t)) (mineE t x):=by
 unfold insTE
 rw[(zcK t x).1,zqT,List.map_append,List.map_cons,List.map_take,List.map_drop]
theorem zrM (t id:Int) (l:List STen):(noTE id l).map (mineE t)=noTE id (l.map (mineE t)):=by
 unfold noTE
 rw[List.filter_map]
 congr 1
 refine List.filter_congr fun x _=>?_
 show _= !decide ((mineE t x).Id=id)
 rw[(zcK t x).1]
theorem zpU (t id:Int) (l:List LogRow):ofLR t (noLR id l)=noLR id (ofLR t l):=by
 unfold ofLR noLR
 rw[List.filter_filter,List.filter_filter]
 exact List.filter_congr fun x _=>Bool.and_comm _ _
theorem zi7 (t n:Int) (h:n<1): ∀l:List LogRow,ofLR t (keepL n l)=keepL n (ofLR t l)
 | []=>rfl
 | r::l=>by
   have ih:=zi7 t n h l
   have hn:decide (n<1)=true:=decide_eq_true h
   have e:ofLR t (r::l)=bif decide (r.Tenant=t) then r::ofLR t l else ofLR t l:=by
    unfold ofLR
    rw[List.filter_cons]
    cases decide (r.Tenant=t)<;>rfl
   have e2: ∀q:List LogRow,ofLR t (markL r::q)=bif decide (r.Tenant=t) then markL r::ofLR t q else ofLR t q:=by
    intro q
    unfold ofLR
    rw[List.filter_cons]
    show (if decide (r.Tenant=t)=true then _ else _)=_
    cases decide (r.Tenant=t)<;>rfl
   rw[e,keepL,hn]
   cases hs:r.Synced with
   | true=>
     rw[cond_true,e2,ih]
     cases decide (r.Tenant=t) with
     | true=>rw[cond_true,cond_true,keepL,hs];rfl
     | false=>rfl
   | false=>
     rw[cond_false,cond_true,ih]
     cases decide (r.Tenant=t) with
     | true=>rw[cond_true,keepL,hs,hn];rfl
     | false=>rfl
theorem znN (t:Int) (s:Store):viewS t (viewS t s)=viewS t s:=by
 unfold viewS
 simp only[zeW,zdm]
def stepV (t:Int) (p q:Store × Reply):Prop:=viewS t p.1=viewS t q.1∧p.2=q.2
theorem stepV.if {t:Int} {b:Bool} {p q p2 q2:Store × Reply} (h1:stepV t p q) (h2:stepV t p2 q2):stepV t (bif b then p else p2) (bif b then q else q2):=by
 cases b
 ·exact h2
 ·exact h1
theorem stepV.no (t:Int) (s:Store) (r:Reply):stepV t (s,r) (viewS t s,r):=⟨(znN t s).symm,rfl⟩
theorem zo8 (t:Int) (s:Store) (c:Call):stepV t (createS s c) (createS (viewS t s) c):=by
 unfold createS
 have e1:atE (viewS t s).Tens c.Tenant=atE s.Tens c.Tenant:=zld t c.Tenant s.Tens
 have e2:(viewS t s).Tens.length=s.Tens.length:=List.length_map _
 rw[e1,e2]
 refine .if (.no t s _) (.if (.no t s _) (.if ⟨?_,rfl⟩ (.no t s _)))
 unfold viewS
 simp only[zsC,zeW,zdm]
theorem zqG (t:Int) (s:Store) (c:Call):stepV t (quotaS s c) (quotaS (viewS t s) c):=by
 unfold quotaS
 refine .if (.if ⟨?_,rfl⟩ (.no t s _)) (.no t s _)
 unfold viewS
 simp only[zeW,zdm]
theorem zpl (t:Int) (s:Store) (id:Int):stepV t (removeS s id) (removeS (viewS t s) id):=by
 unfold removeS
 refine .if (.no t s _) ⟨?_,rfl⟩
 unfold viewS
 simp only[zrM,zeW,zpU,zdm]
theorem zpm (t:Int) (s:Store) (i:Int):stepV t (rotateS s i) (rotateS (viewS t s) i):=by
 unfold rotateS
 have e:tenE (viewS t s).Tens i=mineE t (tenE s.Tens i):=ze4 t s.Tens i
 rw[e,(zcK t _).1,(zcK t _).2]
 refine .if (.no t s _) ⟨?_,rfl⟩
 unfold viewS withT
 simp only[List.map_set,zeW,zdm]
 have: ∀y:STen,mineE t ⟨y.Id,y.Epoch+1,(mineE t y).Base,(mineE t y).Eng⟩=mineE t ⟨y.Id,y.Epoch+1,y.Base,y.Eng⟩:=by
  intro y
  by_cases h:y.Id=t
  ·rw[zew h]
  ·exact zhd rfl rfl h
 rw[this]
theorem zlN {t:Int} {s:Store} {i:Int} (h:(tenE s.Tens i).Id=t) (r:Reply):stepV t (flushO s i,r) (flushO (viewS t s) i,r):=by
 have e:tenE (viewS t s).Tens i=tenE s.Tens i:=(ze4 t s.Tens i).trans (zew h)
 refine ⟨?_,rfl⟩
 unfold flushO
 rw[e]
 unfold viewS
 simp only[List.map_set,zeW,zpU,zdm]
theorem zkW {t:Int} {s:Store} {i:Int} (h: ¬(tenE s.Tens i).Id=t):viewS t (flushO s i)=viewS t s:=by
 unfold flushO viewS
 simp only
 rw[set_other (x:=flushT (tenE s.Tens i)) rfl rfl h,zjf fun e=>h e.symm]
theorem zlH {l:List STen} {id:Int} (h: ¬atE l id<0):(tenE l (atE l id)).Id=id:=by
 rcases zdC l id with ⟨j,hj,e,h1,_⟩ | ⟨e,_⟩
 ·rw[e,zP l j hj,h1]
 ·rw[e]at h;omega
theorem zsO (t:Int) (s:Store) (c:Call) (h:c.Kind=13→c.Tenant=t) (h2:(2≤c.Kind∧c.Kind≤4)∨c.Kind=13):stepV t (ownS s c) (ownS (viewS t s) c):=by
 unfold ownS
 have e1:atE (viewS t s).Tens c.Tenant=atE s.Tens c.Tenant:=zld t c.Tenant s.Tens
 rw[e1]
 by_cases ha:atE s.Tens c.Tenant<0
 ·rw[decide_eq_true ha];exact .no t s _
 ·rw[decide_eq_false ha]
  by_cases k2:c.Kind=2
  ·rw[decide_eq_true k2];exact zqG t s c
  ·by_cases k3:c.Kind=3
   ·rw[decide_eq_false k2,decide_eq_true k3];exact zpl t s _
   ·by_cases k4:c.Kind=4
    ·rw[decide_eq_false k2,decide_eq_false k3,decide_eq_true k4];exact zpm t s _
    ·rw[decide_eq_false k2,decide_eq_false k3,decide_eq_false k4]
     exact zlN ((zlH ha).trans (h (by omega))) _
theorem zr3 (t:Int) (s:Store) (r:Reply):stepV t (syncS s,r) (syncS (viewS t s),r):=by
 refine ⟨?_,rfl⟩
 unfold syncS viewS
 simp only[zeW,zkf,zdm]
theorem zqh (t:Int) (s:Store) (n:Int) (h:n<1):stepV t (crashS s n) (crashS (viewS t s) n):=by
 unfold crashS
 refine .if (.no t s _) ⟨?_,rfl⟩
 unfold viewS
 simp only[List.map_map]
 rw[zi7 t n h s.Rows,zi7 t n h (ofLR t s.Rows),zdm]
 congr 1
 refine List.map_congr_left fun x _=>?_
 show mineE t (crashT (keyOfV s.Keys x.Id) (ofLR x.Id (keepL n s.Rows)) x)=mineE t (crashT (keyOfV s.Keys (mineE t x).Id) (ofLR (mineE t x).Id (keepL n (ofLR t s.Rows))) (mineE t x))
 by_cases hx:x.Id=t
 ·rw[zew hx,hx,←zi7 t n h s.Rows,zdm]
 ·exact zhd (zcK t x).1.symm (zcK t x).2.symm (by show ¬(mineE t x).Id=t;rw[(zcK t x).1];exact hx)
theorem zqX {t:Int} {s:Store} {i:Int} {x:STen} (r:Reply):stepV t (withT s i x,r) (withT (viewS t s) i x,r):=by
 refine ⟨?_,rfl⟩
 unfold withT viewS
 simp only[List.map_set,zeW,zdm]
theorem zmt {t:Int} {s:Store} {i:Int} (h:(tenE s.Tens i).Id=t) (l:List Int) (r:Reply):stepV t (withE s i l,r) (withE (viewS t s) i l,r):=by
 have e:tenE (viewS t s).Tens i=tenE s.Tens i:=(ze4 t s.Tens i).trans (zew h)
 unfold withE
 rw[e]
 exact zqX r
theorem zrS {t:Int} {s:Store} {i:Int} (hi:0≤i∧i<s.Tens.length) (h:(tenE s.Tens i).Id=t):viewS t (roomS s i)=viewS t (roomS (viewS t s) i)∧tenE (roomS (viewS t s) i).Tens i=tenE (roomS s i).Tens i∧(tenE (roomS s i).Tens i).Id=t:=by
 have e:tenE (viewS t s).Tens i=tenE s.Tens i:=(ze4 t s.Tens i).trans (zew h)
 have e2:ofLR t (viewS t s).Rows=ofLR t s.Rows:=zdm t s.Rows
 unfold roomS
 rw[e,h,e2]
 cases decide (6≤(ofLR t s.Rows).length) with
 | false=>exact ⟨(znN t s).symm,e,h⟩
 | true=>
   simp only[cond_true]
   have hs: ∀(l:List STen) (x:STen),l.length=s.Tens.length→tenE (l.set i.toNat x) i=x:=by
    intro l x hl
    unfold tenE
    rw[List.getD_eq_getElem?_getD,List.getElem?_set_self (by omega)]
    rfl
   refine ⟨(zlN h (codeR 0)).1,?_,?_⟩
   ·show tenE ((viewS t s).Tens.set i.toNat (flushT (tenE (viewS t s).Tens i))) i=tenE (s.Tens.set i.toNat (flushT (tenE s.Tens i))) i
    rw[hs (viewS t s).Tens _ (List.length_map _),hs s.Tens _ rfl,e]
   ·show (tenE (s.Tens.set i.toNat (flushT (tenE s.Tens i))) i).Id=t
    rw[hs s.Tens _ rfl]
    exact h
theorem zrR (s:Store) (i:Int):(roomS s i).Secret=s.Secret∧(roomS s i).Keys=s.Keys∧(roomS s i).Shares=s.Shares∧(roomS s i).Boot=s.Boot∧(roomS s i).Hist=s.Hist:=by
 unfold roomS
 cases decide (6≤(ofLR (tenE s.Tens i).Id s.Rows).length)<;>exact ⟨rfl,rfl,rfl,rfl,rfl⟩
theorem zsS {t:Int} {s a p b:Store} {i:Int} (ops:List Op) (hab:viewS t a=viewS t b) (he:tenE b.Tens i=tenE a.Tens i):viewS t (putS s a i ops)=viewS t (putS p b i ops):=by
 have h1:a.Secret=b.Secret:=(congrArg Store.Secret hab:(viewS t a).Secret=(viewS t b).Secret)
 have h2:a.Keys=b.Keys:=(congrArg Store.Keys hab:(viewS t a).Keys=(viewS t b).Keys)
 have h3:a.Shares=b.Shares:=(congrArg Store.Shares hab:(viewS t a).Shares=(viewS t b).Shares)
 have h4:a.Boot=b.Boot:=(congrArg Store.Boot hab:(viewS t a).Boot=(viewS t b).Boot)
 have h5:a.Tens.map (mineE t)=b.Tens.map (mineE t):=(congrArg Store.Tens hab:(viewS t a).Tens=(viewS t b).Tens)
 have h6:ofLR t a.Rows=ofLR t b.Rows:=(congrArg Store.Rows hab:(viewS t a).Rows=(viewS t b).Rows)
 unfold putS viewS
 rw[he,h1,h2,h3,h4]
 simp only[List.map_set,zje]
 rw[h5,h6]
theorem zqY {t:Int} {s:Store} {i:Int} (hi:0≤i∧i<s.Tens.length) (h:(tenE s.Tens i).Id=t) (hh:s.Hist.length<120) (ops:List Op):stepV t (writeS s i ops) (writeS (viewS t s) i ops):=by
 have e:tenE (viewS t s).Tens i=tenE s.Tens i:=(ze4 t s.Tens i).trans (zew h)
 obtain ⟨r1,r2,r3⟩:=zrS hi h
 unfold writeS
 rw[decide_eq_false (by omega: ¬120≤s.Hist.length),decide_eq_false (by show ¬120≤0;omega: ¬120≤(viewS t s).Hist.length),e,r2]
 simp only[cond_false]
 exact .if (.if (.no t s _) (.if ⟨zsS ops r1 r2,rfl⟩ (.no t s _))) (.no t s _)
theorem zs7 {t:Int} {s:Store} {i:Int} (hi:0≤i∧i<s.Tens.length) (h:(tenE s.Tens i).Id=t) (hh:s.Hist.length<120) (c:Call):stepV t (tenS s i c) (tenS (viewS t s) i c):=by
 have e:tenE (viewS t s).Tens i=tenE s.Tens i:=(ze4 t s.Tens i).trans (zew h)
 unfold tenS
 rw[e]
 refine .if (zqY hi h hh _) (.if (.no t s _) (.if (.no t s _) (.if ?_ (.if (.no t s _) ?_))))
 ·unfold snapS
  rw[e]
  exact .if (.no t s _) (.if (.no t s _) (zmt h _ _))
 ·unfold heldS
  rw[e]
  exact .if (.if (.no t s _) (zmt h _ _)) (.no t s _)
theorem zpw {t:Int} {s:Store} {i:Int} (h: ¬(tenE s.Tens i).Id=t) (hl:0≤i∧i<s.Tens.length) (ops:List Op):viewS t (writeS s i ops).1=viewS t s:=by
 have hr:viewS t (roomS s i)=viewS t s∧(tenE (roomS s i).Tens i).Id=(tenE s.Tens i).Id:=by
  unfold roomS
  cases decide (6≤(ofLR (tenE s.Tens i).Id s.Rows).length) with
  | false=>exact ⟨rfl,rfl⟩
  | true=>
    refine ⟨zkW h,?_⟩
    show (tenE (s.Tens.set i.toNat (flushT (tenE s.Tens i))) i).Id=_
    unfold tenE
    rw[List.getD_eq_getElem?_getD,List.getElem?_set_self (by omega)]
    rfl
 have hp:viewS t (putS s (roomS s i) i ops)=viewS t s:=by
  rw[←hr.1]
  have hne: ¬(tenE (roomS s i).Tens i).Id=t:=by rw[hr.2];exact h
  generalize roomS s i=a at hne
  unfold putS viewS
  simp only
  rw[set_other (x:=⟨(tenE a.Tens i).Id,(tenE a.Tens i).Epoch,(tenE a.Tens i).Base,engB (tenE a.Tens i).Eng ops⟩) rfl rfl hne,zje]
  have: ∀r:LogRow,¬r.Tenant=t→ofLR t [r]= []:=by
   intro r hr
   unfold ofLR
   rw[List.filter_cons,decide_eq_false hr]
   rfl
  rw[this _ hne,List.append_nil]
 unfold writeS
 cases decide (120≤s.Hist.length)
 ·cases batchV ops
  ·rfl
  ·cases decide ((bytesN (applyK (mapR (tenE s.Tens i).Eng (tenE s.Tens i).Eng.Seq) ops):Int)>quoV (-1) s.Shares (tenE s.Tens i).Id)
   ·simp only[cond_false,cond_true]
    cases (okB (tenE (roomS s i).Tens i).Eng ops&& !decide (sealB (keyOfV s.Keys (tenE s.Tens i).Id) s.Boot ((tenE s.Tens i).Eng.Seq+1) ops= []))
    ·rfl
    ·exact hp
   ·rfl
 ·rfl
theorem zk8 {t:Int} {s:Store} {i:Int} (h: ¬(tenE s.Tens i).Id=t) (l:List Int):viewS t (withE s i l)=viewS t s:=by
 unfold withE withT viewS
 simp only
 rw[set_other (x:=⟨(tenE s.Tens i).Id,(tenE s.Tens i).Epoch,(tenE s.Tens i).Base,⟨(tenE s.Tens i).Eng.Mem,(tenE s.Tens i).Eng.Tables,(tenE s.Tens i).Eng.Seq,l⟩⟩) rfl rfl h]
theorem zr7 {t:Int} {s:Store} {i:Int} (h: ¬(tenE s.Tens i).Id=t) (hl:0≤i∧i<s.Tens.length) (c:Call):viewS t (tenS s i c).1=viewS t s:=by
 have hsn:viewS t (snapS s i).1=viewS t s:=by
  unfold snapS
  cases decide ((tenE s.Tens i).Eng.Seq∈(tenE s.Tens i).Eng.Snaps)
  ·cases decide (2≤(tenE s.Tens i).Eng.Snaps.length)
   ·exact zk8 h _
   ·rfl
  ·rfl
 have hhe:viewS t (heldS s i c).1=viewS t s:=by
  unfold heldS
  cases decide (c.N∈(tenE s.Tens i).Eng.Snaps)
  ·rfl
  ·cases decide (c.Kind=10)
   ·exact zk8 h _
   ·rfl
 unfold tenS
 cases decide (c.Kind=5)
 ·cases decide (c.Kind=6)
  ·cases decide (c.Kind=7)
   ·cases decide (c.Kind=8)
    ·cases decide (c.Kind=11)
     ·exact hhe
     ·rfl
    ·exact hsn
   ·rfl
  ·rfl
 ·exact zpw h hl _
theorem zq5 {l:List STen} {id:Int} (h: ¬atE l id<0):0≤atE l id∧atE l id<l.length:=by
 rcases zdC l id with ⟨j,hj,e,h1,_⟩ | ⟨e,_⟩
 ·rw[e];omega
 ·rw[e]at h;omega
theorem storeP.pos {s:Store} (h:storeP s) {x:STen} (hx:x∈s.Tens):1≤x.Id:=by
 obtain ⟨y,hy,e⟩:=h.slot hx
 have:=(((zce _).1 h.keys).2.2.2.1 y hy).1.1
 omega
theorem zpF {t:Int} {s:Store} (h:storeP s) (hh:s.Hist.length<120) (c:Call) (hc:c.Kind=14→c.N<1) (hk:skipV s.Secret t c=false):stepV t (doS s c) (doS (viewS t s) c):=by
 unfold skipV at hk
 rw[Bool.or_eq_false_iff,Bool.and_eq_false_iff,Bool.and_eq_false_iff]at hk
 obtain ⟨hw,hf⟩:=hk
 have hf2:c.Kind=13→c.Tenant=t:=by
  intro h13
  rcases hf with hf | hf
  ·exact absurd h13 (of_decide_eq_false hf)
  ·simpa using hf
 unfold doS
 by_cases k1:c.Kind=1
 ·rw[decide_eq_true k1];exact zo8 t s c
 rw[decide_eq_false k1]
 by_cases k12:c.Kind=12
 ·rw[decide_eq_true k12];exact zr3 t s _
 rw[decide_eq_false k12]
 by_cases k14:c.Kind=14
 ·rw[decide_eq_true k14];exact zqh t s _ (hc k14)
 rw[decide_eq_false k14]
 by_cases ko:(2≤c.Kind∧c.Kind≤4)∨c.Kind=13
 ·have:(decide (2≤c.Kind∧c.Kind≤4)||decide (c.Kind=13))=true:=by simpa using ko
  rw[this]
  exact zsO t s c hf2 ko
 have:(decide (2≤c.Kind∧c.Kind≤4)||decide (c.Kind=13))=false:=by
  rw[Bool.or_eq_false_iff]
  exact ⟨decide_eq_false fun h=>ko (.inl h),decide_eq_false fun h=>ko (.inr h)⟩
 rw[this]
 simp only[cond_false]
 by_cases kt:5≤c.Kind∧c.Kind≤11
 ·rw[decide_eq_true kt]
  simp only[cond_true]
  have ew:whoseV s.Secret c=(tokR s.Secret c.Token).1:=by unfold whoseV;rw[decide_eq_true kt];rfl
  have e1:atE (viewS t s).Tens (tokR s.Secret c.Token).1=atE s.Tens (tokR s.Secret c.Token).1:=zld t _ s.Tens
  have e2:(tenE (viewS t s).Tens (atE s.Tens (tokR s.Secret c.Token).1)).Epoch=(tenE s.Tens (atE s.Tens (tokR s.Secret c.Token).1)).Epoch:=by
   rw[show tenE (viewS t s).Tens (atE s.Tens (tokR s.Secret c.Token).1)=mineE t _ from ze4 t s.Tens _,(zcK t _).2]
  show stepV t (callS s c) (bif !(tokR s.Secret c.Token).2.2||(decide (atE (viewS t s).Tens (tokR s.Secret c.Token).1<0)|| !decide ((tenE (viewS t s).Tens (atE (viewS t s).Tens (tokR s.Secret c.Token).1)).Epoch=(tokR s.Secret c.Token).2.1)) then (viewS t s,codeR 2) else tenS (viewS t s) (atE (viewS t s).Tens (tokR s.Secret c.Token).1) c)
  rw[e1,e2]
  unfold callS
  cases hb:(!(tokR s.Secret c.Token).2.2||(decide (atE s.Tens (tokR s.Secret c.Token).1<0)|| !decide ((tenE s.Tens (atE s.Tens (tokR s.Secret c.Token).1)).Epoch=(tokR s.Secret c.Token).2.1))) with
  | true=>exact .no t s _
  | false=>
    simp only[cond_false]
    rw[Bool.or_eq_false_iff,Bool.or_eq_false_iff]at hb
    have ha:=of_decide_eq_false hb.2.1
    have hid:=zlH ha
    have hin:=zq5 ha
    refine zs7 hin (hid.trans ?_) hh c
    rcases hw with hw | hw
    ·exfalso
     have h0:whoseV s.Secret c=0:=by simpa using hw
     rw[ew]at h0
     have hm:tenE s.Tens (atE s.Tens (tokR s.Secret c.Token).1)∈s.Tens:=by
      obtain ⟨j,hj⟩:=Int.eq_ofNat_of_zero_le hin.1
      rw[hj,zP s.Tens j (by omega)]
      exact List.getElem_mem _
     have:=h.pos hm
     omega
    ·rw[←ew];simpa using hw
 ·rw[decide_eq_false kt];exact .no t s _
theorem zss {t:Int} {s:Store} (c:Call) (hk:skipV s.Secret t c=true):viewS t (doS s c).1=viewS t s:=by
 unfold skipV at hk
 rw[Bool.or_eq_true,Bool.and_eq_true,Bool.and_eq_true]at hk
 rcases hk with ⟨h0,h1⟩ | ⟨h0,h1⟩
 ·have kt:5≤c.Kind∧c.Kind≤11:=by
   apply Classical.byContradiction
   intro kt
   unfold whoseV at h0
   rw[decide_eq_false kt]at h0
   simp at h0
  have ew:whoseV s.Secret c=(tokR s.Secret c.Token).1:=by unfold whoseV;rw[decide_eq_true kt];rfl
  have hne: ¬(tokR s.Secret c.Token).1=t:=by rw[←ew];simpa using h1
  have ed:doS s c=callS s c:=by
   unfold doS
   rw[decide_eq_false (by omega: ¬c.Kind=1),decide_eq_false (by omega: ¬c.Kind=12),decide_eq_false (by omega: ¬c.Kind=14),decide_eq_false (by omega: ¬(2≤c.Kind∧c.Kind≤4)),decide_eq_false (by omega: ¬c.Kind=13),decide_eq_true kt]
   rfl
  rw[ed]
  unfold callS
  cases hb:(!(tokR s.Secret c.Token).2.2||(decide (atE s.Tens (tokR s.Secret c.Token).1<0)|| !decide ((tenE s.Tens (atE s.Tens (tokR s.Secret c.Token).1)).Epoch=(tokR s.Secret c.Token).2.1))) with
  | true=>rfl
  | false=>
    simp only[cond_false]
    rw[Bool.or_eq_false_iff,Bool.or_eq_false_iff]at hb
    have ha:=of_decide_eq_false hb.2.1
    exact zr7 (by rw[zlH ha];exact hne) (zq5 ha) c
 ·have h13:=of_decide_eq_true h0
  have hne: ¬c.Tenant=t:=by simpa using h1
  have ed:doS s c=ownS s c:=by
   unfold doS
   rw[decide_eq_false (by omega: ¬c.Kind=1),decide_eq_false (by omega: ¬c.Kind=12),decide_eq_false (by omega: ¬c.Kind=14),decide_eq_true h13,Bool.or_true]
   rfl
  rw[ed]
  unfold ownS
  by_cases ha:atE s.Tens c.Tenant<0
  ·rw[decide_eq_true ha];rfl
  ·rw[decide_eq_false ha,decide_eq_false (by omega: ¬c.Kind=2),decide_eq_false (by omega: ¬c.Kind=3),decide_eq_false (by omega: ¬c.Kind=4)]
   exact zkW (by rw[zlH ha];exact hne)
noncomputable def toldZ (secret:List UInt8) (t:Int):List Call→List Reply→List Reply
 | c::l,x::r=>bif decide (whoseV secret c=t) then x::toldZ secret t l r else toldZ secret t l r
 | _,_=>[]
theorem bifP {α:Type} {P:α→Prop} {b:Bool} {p q:α} (h1:P p) (h2:P q):P (bif b then p else q):=by
 cases b
 ·exact h2
 ·exact h1
def restP (s:Store) (p:Store × Reply):Prop:=p.1.Secret=s.Secret∧p.1.Hist.length≤s.Hist.length+1
theorem zpE (s:Store) (c:Call):restP s (doS s c):=by
 have z: ∀(a:Store) (r:Reply),a.Secret=s.Secret→a.Hist=s.Hist→restP s (a,r):=fun a r h1 h2=>⟨h1,by rw[h2];exact Nat.le_succ _⟩
 have hw: ∀i,restP s (writeS s i c.Ops):=by
  intro i
  unfold writeS
  refine bifP (z s _ rfl rfl) (bifP (bifP (z s _ rfl rfl) (bifP ⟨(zrR s i).1,?_⟩ (z s _ rfl rfl))) (z s _ rfl rfl))
  show (s.Hist++ [_]).length≤_
  simp
 unfold doS createS crashS ownS quotaS removeS rotateS callS tenS snapS heldS
 repeat' (first | exact z _ _ rfl rfl | exact hw _ | refine bifP ?_ ?_)
theorem zta {secret:List UInt8} {c:Call} (h:c.Kind=13):whoseV secret c=0:=by
 unfold whoseV
 rw[decide_eq_false (by omega)]
 rfl
noncomputable def runS:Store→List Call→List Reply
 | _,[]=>[]
 | s,c::l=>(doS s c).2::runS (doS s c).1 l
noncomputable def endS:Store→List Call→Store
 | s,[]=>s
 | s,c::l=>endS (doS s c).1 l
structure goodS (s:Store) (n:Nat):Prop where
 p:storeP s
 y:syncP s.Rows
 h:s.Hist.length≤n
theorem goodS.next {s:Store} {n:Nat} (h:goodS s n) (c:Call):goodS (doS s c).1 (n+1):=
 ⟨ztM h.p h.y c,zsr h.y c,by have:=(zpE s c).2;have:=h.h;omega⟩
theorem goodS.mono {s:Store} {n k:Nat} (h:goodS s n) (hk:n≤k):goodS s k:=⟨h.p,h.y,Nat.le_trans h.h hk⟩
theorem zlz {t:Int} (ht: ¬t=0) (secret:List UInt8): ∀(l:List Call) (s q:Store) (n:Nat),goodS s n→goodS q n→n+l.length≤120→viewS t s=viewS t q→s.Secret=secret→(∀c∈l,c.Kind=14→c.N<1)→
 toldZ secret t l (runS s l)=toldZ secret t (aloneV secret t l) (runS q (aloneV secret t l))
 | [],_,_,_,_,_,_,_,_,_=>rfl
 | c::l,s,q,n,hs,hq,hn,hv,he,hc=>by
   have hcl: ∀x∈l,x.Kind=14→x.N<1:=fun x hx=>hc x (List.mem_cons_of_mem _ hx)
   rw[List.length_cons]at hn
   have he2:(doS s c).1.Secret=secret:=((zpE s c).1).trans he
   cases hk:skipV secret t c with
   | true=>
     have hw:decide (whoseV secret c=t)=false:=by
      refine decide_eq_false fun hw=>?_
      unfold skipV at hk
      rw[hw,decide_eq_true (rfl:t=t),Bool.not_true,Bool.and_false,Bool.false_or,Bool.and_eq_true]at hk
      have:=zta (secret:=secret) (of_decide_eq_true hk.1)
      exact ht (hw.symm.trans this)
     have ea:aloneV secret t (c::l)=aloneV secret t l:=by
      unfold aloneV
      rw[List.filter_cons,hk]
      rfl
     rw[ea,runS,toldZ,hw,cond_false]
     exact zlz ht secret l _ q (n+1) (hs.next c) (hq.mono (by omega)) (by omega) ((zss c (by rw[he];exact hk)).trans hv) he2 hcl
   | false=>
     have ea:aloneV secret t (c::l)=c::aloneV secret t l:=by
      unfold aloneV
      rw[List.filter_cons,hk]
      rfl
     have hsec:q.Secret=secret:=by rw[←he];exact (congrArg Store.Secret hv).symm
     have hc0:=hc c (List.mem_cons_self ..)
     have h1:=zpF hs.p (by have:=hs.h;omega) c hc0 (by rw[he];exact hk)
     have h2:=zpF hq.p (by have:=hq.h;omega) c hc0 (by rw[hsec];exact hk)
     rw[hv]at h1
     have hr:(doS s c).2=(doS q c).2:=h1.2.trans h2.2.symm
     have hvv:viewS t (doS s c).1=viewS t (doS q c).1:=h1.1.trans h2.1.symm
     rw[ea,runS,runS,toldZ,toldZ,hr,zlz ht secret l _ _ (n+1) (hs.next c) (hq.next c) (by omega) hvv he2 hcl]
theorem zhG: ∀(l:List Call) (s:Store),(runS s l).length=l.length
 | [],_=>rfl
 | c::l,s=>by rw[runS,List.length_cons,zhG l,List.length_cons]
theorem zp9 (secret:List UInt8) (t:Int) (l:List Call) (r:List Reply) (h:l.length=r.length): ∀k,k≤l.length→toldV secret t l r k++toldZ secret t (l.drop k) (r.drop k)=toldZ secret t l r
 | 0,_=>rfl
 | k+1,hk=>by
   rw[←zp9 secret t l r h k (by omega),zhg secret t l r k (by omega) (by omega),List.drop_eq_getElem_cons (show k<l.length by omega),List.drop_eq_getElem_cons (show k<r.length by omega),toldZ]
   cases decide (whoseV secret l[k]=t)
   ·simp only[cond_false,List.append_nil]
   ·simp only[cond_true,List.append_assoc,List.singleton_append]
theorem zp8 {secret:List UInt8} {t:Int} (ht: ¬t=0) {l:List Call} {r:List Reply} (h:l.length=r.length):toldR secret t l r=toldZ secret t l r:=by
 unfold toldR
 rw[decide_eq_true h,decide_eq_false ht]
 have:=zp9 secret t l r h l.length (Nat.le_refl _)
 rw[List.drop_length]at this
 simp only[toldZ,List.append_nil]at this
 exact this
def newS (secret master:List UInt8) (size:Int):Store:=⟨secret,⟨master,[],0⟩,⟨size,[]⟩,[],[],[],0⟩
def newSOk (secret master:List UInt8) (size:Int):Bool:=decide (secret.length=32)&&(decide (master.length=32)&&decide (0≤size∧size≤1000))
noncomputable def playS (secret master:List UInt8) (size:Int) (l:List Call):Store × List Reply:=bif newSOk secret master size&&decide (l.length≤120) then (endS (newS secret master size) l,runS (newS secret master size) l) else (noStore,[])
theorem zky {secret master:List UInt8} {size:Int} (h:newSOk secret master size=true):goodS (newS secret master size) 0:=by
 unfold newSOk at h
 rw[Bool.and_eq_true,Bool.and_eq_true]at h
 have h1:=of_decide_eq_true h.1
 have h2:=of_decide_eq_true h.2.1
 have h3:=of_decide_eq_true h.2.2
 refine ⟨⟨h1,(zce _).2 ⟨h2,Nat.zero_le _,⟨Int.le_refl _,by show (0:Int)≤1000000;omega⟩,fun x hx=>(by cases hx),List.Pairwise.nil⟩,?_,⟨Int.le_refl _,by show (0:Int)≤1000;omega⟩,Nat.zero_le _,rfl,rfl,fun t ht=>(by cases ht),fun r hr=>(by cases hr)⟩,List.Pairwise.nil,Nat.le_refl _⟩
 rw[zfx]
 exact ⟨h3,by simp[newS],fun x hx=>(by cases hx),List.Pairwise.nil,by simp[allNeed,newS];omega⟩
theorem zqS (secret master:List UInt8) (size:Int):zeq secret master size=some (bif newSOk secret master size then (newS secret master size,true) else (noStore,false)):=by
 unfold zeq newSOk
 simp only[zY,len32,Option.bind_some]
 cases decide (secret.length=32) with
 | false=>rfl
 | true=>
   cases decide (master.length=32) with
   | false=>rfl
   | true=>cases decide (0≤size∧size≤1000)<;>rfl
theorem ztz (l:List Call) (s:Store) (k:Nat) (hk:k<l.length):runS s (l.drop k)=(doS s l[k]).2::runS (doS s l[k]).1 (l.drop (k+1)):=by
 rw[List.drop_eq_getElem_cons hk,runS]
theorem ztj (l:List Call) (s:Store) (k:Nat) (hk:k<l.length):endS s (l.drop k)=endS (doS s l[k]).1 (l.drop (k+1)):=by
 rw[List.drop_eq_getElem_cons hk,endS]
theorem zgY (secret master:List UInt8) (size:Int) (l:List Call) (hl:l.length≤1048576) (hc: ∀c∈l,smC c):zc8 secret master size l=some (playS secret master size l):=by
 unfold zc8 playS
 rw[zqS,Option.bind_some]
 cases hn:newSOk secret master size with
 | false=>rfl
 | true=>
   simp only[cond_true,Bool.not_true,Bool.false_eq_true,if_false,Option.bind_some,Bool.true_and]
   by_cases h120:l.length≤120
   ·rw[decide_eq_false (by omega: ¬(l.length:Int)>120),decide_eq_true h120]
    simp only[Bool.false_eq_true,if_false,cond_true]
    refine zbR (fun k (S:List UInt8 × List UInt8 × Int × Int × Int × Int × List KeySlot × List Share × List STen × List LogRow × List LogRow × List Reply)=>∃s out,S=(s.Secret,s.Keys.Master,s.Keys.Wiped,s.Shares.Size,s.Boot,(k:Int),s.Keys.Slots,s.Shares.List,s.Tens,s.Rows,s.Hist,out)∧goodS s k∧out.length=k∧out++runS s (l.drop k)=runS (newS secret master size) l∧endS s (l.drop k)=endS (newS secret master size) l) l.length
     (fun r=>∃s:Store,s=endS (newS secret master size) l∧r= .go (s.Secret,s.Keys.Master,s.Keys.Wiped,s.Shares.Size,s.Boot,s.Keys.Slots,s.Shares.List,s.Tens,s.Rows,s.Hist,runS (newS secret master size) l)) ⟨newS secret master size,[],rfl,zky hn,rfl,by simp,by simp⟩ ?_ ?_ ?_
    ·rintro k _ hk ⟨s,out,rfl,hs,hol,ho,he⟩
     left
     rw[ztz l s k hk]at ho
     rw[ztj l s k hk]at he
     have hp:=zlp hs.p l[k] (hc _ (List.getElem_mem hk))
     have hE:(⟨s.Secret,⟨s.Keys.Master,s.Keys.Slots,s.Keys.Wiped⟩,⟨s.Shares.Size,s.Shares.List⟩,s.Tens,s.Rows,s.Hist,s.Boot⟩:Store)=s:=rfl
     refine ⟨_,?_,(doS s l[k]).1,out++ [(doS s l[k]).2],rfl,hs.next _,by simp[hol],by simpa using ho,he⟩
     simp only[ze l k hk,Option.bind_some,hE,hp]
     rw[if_pos (by simpa using hk),zm (by simp only[List.length_singleton];omega) (by simp only[List.length_singleton];omega),zb (n:=(k:Int)+1) (by omega) (by omega)]
     rfl
    ·rintro _ ⟨s,out,rfl,hs,hol,ho,he⟩
     rw[List.drop_length,runS,List.append_nil]at ho
     rw[List.drop_length,endS]at he
     refine ⟨.go (s.Secret,s.Keys.Master,s.Keys.Wiped,s.Shares.Size,s.Boot,s.Keys.Slots,s.Shares.List,s.Tens,s.Rows,s.Hist,out),?_,s,he,by rw[ho]⟩
     simp
    ·rintro _ ⟨s,hs,rfl⟩
     rw[←hs]
     rfl
   ·rw[decide_eq_true (by omega:(l.length:Int)>120),decide_eq_false h120]
    rfl
def calmC (c:Call):Call:=⟨c.Kind,c.Token,c.Tenant,bif decide (c.Kind=14) then 0 else c.N,c.Key,c.To,c.Ops⟩
def holes (l:List Call) (k:Nat):List (Option Call):=List.replicate k none++(l.drop k).map some
theorem zsB (l:List Call) (k:Nat) (hk:k<l.length):idx (holes l k) (k:Int)=some (some l[k])∧(holes l k).set k none=holes l (k+1)∧(holes l k).length=l.length:=by
 have e:holes l k=List.replicate k none++(some l[k]::(l.drop (k+1)).map some):=by
  unfold holes
  rw[List.drop_eq_getElem_cons hk,List.map_cons]
 have hlen:(holes l k).length=l.length:=by
  unfold holes
  simp
  omega
 refine ⟨?_,?_,hlen⟩
 ·rw[ze _ k (by omega)]
  congr 1
  simp only[e]
  rw[List.getElem_append_right (by simp)]
  simp
 ·rw[e,List.set_append_right _ _ (by simp),List.length_replicate,Nat.sub_self,List.set_cons_zero]
  unfold holes
  rw[List.replicate_succ',List.append_assoc]
  rfl
theorem zo3 (l:List Call) (h:l.length≤1048576) (hc: ∀c∈l,c.Kind=14→c.N<1):zdV l=some true:=by
 unfold zdV
 rw[zo (fun k=>(k:Int)) l.length (r:=Ctl.go ()) ?h0]
 case h0=>rfl
 ·rfl
 ·intro k hk
  have:=hc _ (List.getElem_mem hk)
  simp only[ze l k hk,Option.bind_some]
  rw[if_pos (by simpa using hk),zb (n:=(k:Int)+1) (by omega) (by omega)]
  by_cases h1:l[k].Kind=14
  ·have h2:=this h1
   rw[decide_eq_true h1,decide_eq_false (by omega: ¬l[k].N>0)]
   rfl
  ·rw[decide_eq_false h1]
   rfl
 ·simp
theorem zre {s:Store} {n:Nat} (h:goodS s n) (l:List Call): ∀r∈runS s l,r.List.length≤400:=by
 induction l generalizing s n with
 | nil=>intro r hr;cases hr
 | cons c l ih=>
   intro r hr
   rw[runS]at hr
   rcases List.mem_cons.1 hr with rfl | hr
   ·exact zsq s c
   ·exact ih (h.next c) r hr
theorem zla (code:List UInt8) (hb:code.length≤1048576): ∃s m n l,zcD code=some (s,m,n,l)∧l.length≤2000∧∀c∈l,litC c:=by
 unfold zcD
 obtain ⟨q,hq⟩:=zsD code hb
 obtain ⟨x1,i1,h1,e1,k1⟩:=zcf code 0 q 30 (by omega) hb
 obtain ⟨n,hn,hn1,hn2⟩:=zrE code 36 hb (by omega)
 simp only[hq,zkb,e1,hn,Option.bind_some]
 refine zfE (P:=fun o=>∃(s m:List UInt8) (n:Int) (l:List Call),o=some (s,m,n,l)∧l.length≤2000∧∀c∈l,litC c) (fun t:Int × Int × List UInt8=>inB code t.1) (zbC ?_ ?_) fun T hT=>?_
 ·obtain ⟨s,i2,h2,e2,g2,k2⟩:=zsE code i1 h1 k1 hb
  simp only[e2,Option.bind_some]
  exact zy k2
 ·exact zy k1
 ·obtain ⟨x3,i3,h3,e3,g3,k3⟩:=zeb code T.1 T.2.1 [100,100,12,20,1001] (by simp) hT hb
  obtain ⟨l,i4,h4,e4,g4,g5,k4⟩:=zph code i3 h3 (List.replicate 32 115) n (by omega) k3 hb
  simp only[e3,e4,Option.bind_some]
  exact ⟨_,_,_,_,rfl,g4,g5⟩
theorem znI (secret:List UInt8) (t:Int): ∀(l:List Call) (r:List Reply),(toldZ secret t l r).length≤l.length∧∀x∈toldZ secret t l r,x∈r
 | [],r=>⟨Nat.le_refl _,fun x hx=>(by cases hx)⟩
 | c::l,[]=>⟨Nat.zero_le _,fun x hx=>(by cases hx)⟩
 | c::l,y::r=>by
   obtain ⟨h1,h2⟩:=znI secret t l r
   rw[toldZ,List.length_cons]
   cases decide (whoseV secret c=t)
   ·exact ⟨by simp only[cond_false];omega,fun x hx=>List.mem_cons_of_mem _ (h2 x hx)⟩
   ·refine ⟨by simp only[cond_true,List.length_cons];omega,fun x hx=>?_⟩
    rcases List.mem_cons.1 hx with rfl | hx
    ·exact List.mem_cons_self ..
    ·exact List.mem_cons_of_mem _ (h2 x hx)
theorem zq3 {secret master:List UInt8} {size:Int} {l:List Call} (hok:newSOk secret master size=true) (h120:l.length≤120) (hc: ∀c∈l,c.Kind=14→c.N<1) {t:Int} (ht: ¬t=0):
 (playS secret master size l).2.length=l.length∧(playS secret master size (aloneV secret t l)).2.length=(aloneV secret t l).length∧toldZ secret t l (playS secret master size l).2=toldZ secret t (aloneV secret t l) (playS secret master size (aloneV secret t l)).2:=by
 have h2:(aloneV secret t l).length≤120:=Nat.le_trans (List.length_filter_le _ _) h120
 unfold playS
 rw[hok,decide_eq_true h120,decide_eq_true h2]
 simp only[Bool.and_self,cond_true]
 exact ⟨zhG _ _,zhG _ _,zlz ht secret l _ _ 0 (zky hok) (zky hok) (by omega) rfl rfl hc⟩
theorem zk1 (secret master:List UInt8) (size:Int) (l:List Call):(playS secret master size l).2.length≤120∧∀r∈(playS secret master size l).2,r.List.length≤400:=by
 unfold playS
 cases hok:newSOk secret master size with
 | false=>exact ⟨Nat.zero_le _,fun r hr=>(by cases hr)⟩
 | true=>
   by_cases h:l.length≤120
   ·rw[decide_eq_true h]
    exact ⟨by simp only[Bool.and_self,cond_true];rw[zhG];exact h,zre (zky hok) l⟩
   ·rw[decide_eq_false h]
    exact ⟨Nat.zero_le _,fun r hr=>(by cases hr)⟩
theorem zob (code:List UInt8):zec code=some true:=by
 unfold zec zi9
 simp only[Option.bind_some]
 by_cases hbig:(code.length:Int)>1048576
 ·rw[decide_eq_true hbig,if_pos rfl]
 ·rw[decide_eq_false hbig,if_neg (by simp)]
  have hb:code.length≤1048576:=by omega
  obtain ⟨s,m,n,l0,e1,hl0,hL⟩:=zla code hb
  rw[e1,Option.bind_some]
  simp only
  rw[zo (fun k=>((k:Int),holes l0 k,(l0.take k).map calmC)) l0.length (r:=Ctl.go (l0.map calmC)) ?h0]
  case h0=>rfl
  ·rw[zf]
   have hl:(l0.map calmC).length≤2000:=by rw[List.length_map];exact hl0
   have hsm: ∀c∈l0.map calmC,smC c:=by
    intro c hc
    obtain ⟨x,hx,rfl⟩:=List.mem_map.1 hc
    obtain ⟨a1,a2,a3⟩:=hL x hx
    refine litC.sm ⟨a1,a2,?_⟩
    unfold calmC smN at*
    simp only
    cases decide (x.Kind=14)
    ·exact a3
    ·show -1000≤(0:Int)∧(0:Int)≤1000
     omega
   have hcalm: ∀c∈l0.map calmC,c.Kind=14→c.N<1:=by
    intro c hc hk
    obtain ⟨x,hx,rfl⟩:=List.mem_map.1 hc
    have hk2:x.Kind=14:=hk
    unfold calmC
    simp only
    rw[decide_eq_true hk2]
    show (0:Int)<1
    omega
   generalize l0.map calmC=l at hl hsm hcalm
   have hlit: ∀c∈l,c.Token.length≤1048576∧c.Ops.length≤1048576:=fun c hc=>⟨(hsm c hc).tok,(hsm c hc).ops⟩
   rw[zgY s m n l (by omega) hsm,Option.bind_some,zo3 l (by omega) hcalm]
   simp only[Option.bind_some,Bool.not_true,Bool.false_eq_true,if_false]
   obtain ⟨p1,p2⟩:=zk1 s m n l
   by_cases hlen:(playS s m n l).2.length=l.length
   ·rw[decide_eq_true (by omega:(((playS s m n l).2.length:Nat):Int)=(l.length:Int))]
    simp only[Bool.not_true,Bool.false_eq_true,if_false]
    rw[zo (fun k=>1+(k:Int)) 3 (r:=Ctl.go ()) ?h1]
    case h1=>rfl
    ·rfl
    ·intro k hk
     have ht: ¬(1+(k:Int))=0:=by omega
     have hal:(aloneV s (1+(k:Int)) l).length≤l.length:=List.length_filter_le _ _
     have hsm2: ∀c∈aloneV s (1+(k:Int)) l,smC c:=fun c hc=>hsm c (List.mem_filter.1 hc).1
     have hlit2: ∀c∈aloneV s (1+(k:Int)) l,c.Token.length≤1048576∧c.Ops.length≤1048576:=fun c hc=>hlit c (List.mem_filter.1 hc).1
     obtain ⟨q1,q2⟩:=zk1 s m n (aloneV s (1+(k:Int)) l)
     have h3: ∀x∈(playS s m n l).2,x.List.length≤1048576:=fun x hx=>Nat.le_trans (p2 x hx) (by decide)
     have h4: ∀x∈(playS s m n (aloneV s (1+(k:Int)) l)).2,x.List.length≤1048576:=fun x hx=>Nat.le_trans (q2 x hx) (by decide)
     have key:toldR s (1+(k:Int)) l (playS s m n l).2=toldR s (1+(k:Int)) (aloneV s (1+(k:Int)) l) (playS s m n (aloneV s (1+(k:Int)) l)).2∧(toldR s (1+(k:Int)) l (playS s m n l).2).length≤l.length∧∀x∈toldR s (1+(k:Int)) l (playS s m n l).2,x∈(playS s m n l).2:=by
      have hz:=znI s (1+(k:Int)) l (playS s m n l).2
      rw[zp8 ht hlen.symm]
      cases hok:newSOk s m n with
      | false=>
        have hp: ∀l,(playS s m n l).2= []:=by intro l;unfold playS;rw[hok];rfl
        have h0:l= []:=by
         rw[hp l]at hlen
         exact List.eq_nil_of_length_eq_zero hlen.symm
        subst h0
        refine ⟨?_,hz⟩
        show toldZ s _ [] _=toldR s _ [] _
        rw[hp]
        unfold toldR
        simp[toldZ,toldV]
      | true=>
        by_cases h120:l.length≤120
        ·obtain ⟨a1,a2,a3⟩:=zq3 (l:=l) hok h120 hcalm ht
         exact ⟨by rw[zp8 ht a2.symm];exact a3,hz⟩
        ·exfalso;omega
     simp only[znT s (1+(k:Int)) l (by omega) hlit,Option.bind_some,zgY s m n _ (show (aloneV s (1+(k:Int)) l).length≤1048576 by omega) hsm2,zj0 s (1+(k:Int)) l (playS s m n l).2 (by omega) hlit h3,
      zj0 s (1+(k:Int)) _ (playS s m n (aloneV s (1+(k:Int)) l)).2 (show (aloneV s (1+(k:Int)) l).length≤1048576 by omega) hlit2 h4,zn4 s (1+(k:Int)) l (by omega) hlit,zoQ s (1+(k:Int)) l (playS s m n l).2 (by omega) hlit h3]
     obtain ⟨k1,k2,k3⟩:=key
     rw[←k1,zmY _ _ (by omega) (fun r hr=>h3 r (k3 r hr))]
     rw[if_pos (by simp only[decide_eq_true_eq];omega),zb (n:=1+(k:Int)+1) (by omega) (by omega)]
     simp
     omega
    ·rfl
   ·have hz:(playS s m n l).2.length=0:=by
     unfold playS at hlen ⊢
     cases hok:newSOk s m n with
     | false=>rfl
     | true=>
       by_cases h:l.length≤120
       ·rw[hok,decide_eq_true h]at hlen
        simp only[Bool.and_self,cond_true]at hlen
        exact absurd (zhG _ _) hlen
       ·rw[decide_eq_false h];rfl
    rw[decide_eq_false (by omega: ¬(((playS s m n l).2.length:Nat):Int)=(l.length:Int)),decide_eq_true (by omega:(((playS s m n l).2.length:Nat):Int)=0)]
    rfl
  ·intro k hk
   obtain ⟨h1,h2,h3⟩:=zsB l0 k hk
   simp only[h1,h3,Option.bind_some,Int.toNat_natCast,h2]
   rw[if_pos (by simpa using hk),zb (n:=(k:Int)+1) (by omega) (by omega)]
   have e: ∀x:Int,(bindC (some (Ctl.go x):Option (Ctl Int (Ctl (Int × List (Option Call) × List Call) (Ctl (List Call) Bool)))) fun T21=>(app 96 ((l0.take k).map calmC) [⟨l0[k].Kind,l0[k].Token,l0[k].Tenant,T21,l0[k].Key,l0[k].To,l0[k].Ops⟩]).bind fun E26=>some (.go ((k:Int)+1,holes l0 (k+1),E26)))=some (.go ((k:Int)+1,holes l0 (k+1),(l0.take k).map calmC++ [⟨l0[k].Kind,l0[k].Token,l0[k].Tenant,x,l0[k].Key,l0[k].To,l0[k].Ops⟩])):=by
    intro x
    rw[zf,zm (by simp;omega) (by simp;omega)]
    rfl
   rw[zbL l0 k hk,List.map_append]
   by_cases h14:l0[k].Kind=14
   ·rw[decide_eq_true h14,if_pos rfl]
    refine (e 0).trans ?_
    simp[calmC,h14]
   ·rw[decide_eq_false h14,if_neg (by simp)]
    refine (e l0[k].N).trans ?_
    simp[calmC,h14]
  ·have:(holes l0 l0.length).length=l0.length:=by unfold holes;simp
   simp[this]
theorem FnAlone_proved:Rows.FnAloneSaid:=zoa fun code _=>zob code
end Go.Proofs.YtfgjhefhlabpkaaGreat
