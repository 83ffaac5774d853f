/-
  The rules of the small separation logic, continued: slices.Insert. Rows seen as blocks, and the cells in them moved. Generic: no statement about a given function.
-/
import Derived.Test.YtfgjhefhlabpkaaGreatSo
import Derived.Lib.Overlaps
import Derived.Lib.AppendZerosOnto
namespace Go.Proofs.YtfgjhefhlabpkaaGreat.Sl
open Go Go.RowKit
def ins {α:Type} (by_:Nat) (l:List α) (i:Int) (k:List α):Option (List α):=
 if 0≤i∧i≤l.length∧(l.length+k.length)*by_≤140737488355328∧l.length+k.length≤4611686018427387904 then some (l.take i.toNat++(k++l.drop i.toNat)) else none
theorem ziD {α:Type} {by_:Nat} {l k r:List α} {i:Int} (h:ins by_ l i k=some r):0≤i∧i≤l.length∧(l.length+k.length)*by_≤140737488355328∧l.length+k.length≤4611686018427387904∧r=l.take i.toNat++(k++l.drop i.toNat):=by
 unfold ins at h
 split at h
 ·rename_i hc;cases h;exact ⟨hc.1,hc.2.1,hc.2.2.1,hc.2.2.2,rfl⟩
 ·cases h
section
variable {P:Program} {w0:World} {S0:List Nat} {R:Type} {m:Option R} {n:Nat} {fr:Fr} {is:List Item} {Q:R→Exit→Act→World→Prop}
variable {dst:Option Nat} {ty:TypeId} {pos:String} {aft:Array Edge} {gd:Option (Nat × Bool)}
theorem TW.cond_t {c:Operand} {x y:Code} {b:Bool} (hc:ev fr c=some (.bool b)) (hb:b=true) (h1:TW P w0 S0 m n fr is x Q):TW P w0 S0 m n fr is (.cond c x y) Q:=by
 subst hb;exact TW.cond_true hc h1
theorem TW.cond_f {c:Operand} {x y:Code} {b:Bool} (hc:ev fr c=some (.bool b)) (hb:b=false) (h1:TW P w0 S0 m n fr is y Q):TW P w0 S0 m n fr is (.cond c x y) Q:=by
 subst hb;exact TW.cond_false hc h1
theorem TW.known {c:Code} (h: ∀r,m=some r→TW P w0 S0 (some r) n fr is c Q):TW P w0 S0 m n fr is c Q:=fun r hr=>h r hr r rfl
theorem zio (p z us:List Value):splice (p++z) p.length us=p++(us++z.drop us.length):=by
 have:=zfl p z us 0
 rw[Nat.add_zero]at this
 rw[this]
 simp[splice]
theorem zpq (p z us:List Value) (c:Nat):splice (p++z) (p.length+c) us=p++(z.take c++us++z.drop (c+us.length)):=zfl p z us c
theorem insA {cur cur2 zs:List Value} {n m I sz cap cap2 G:Nat} (hI:I≤n) (hn:n≤cap) (hm:m≤cap2) (h1:cap*sz≤cur.length) (h2:cap2*sz≤cur2.length) (hz:zs.length=(G - I)*sz) (hG:n+m≤G):
 ((cur2.drop 0).take (m*sz)).length=m*sz∧((cur.drop (0+I*sz)).take ((n - I)*sz)).length=(n - I)*sz∧(cur.take (I*sz)++zs).length=G*sz∧
 (splice (cur.take (I*sz)++zs) (0+I*sz) ((cur2.drop 0).take (m*sz))).length=G*sz∧
 (splice (splice (cur.take (I*sz)++zs) (0+I*sz) ((cur2.drop 0).take (m*sz))) (0+(I+m)*sz) ((cur.drop (0+I*sz)).take ((n - I)*sz))).length=G*sz∧
 (splice (splice (cur.take (I*sz)++zs) (0+I*sz) ((cur2.drop 0).take (m*sz))) (0+(I+m)*sz) ((cur.drop (0+I*sz)).take ((n - I)*sz))).take ((n+m)*sz)=(cur.take (n*sz)).take (I*sz)++(cur2.take (m*sz)++(cur.take (n*sz)).drop (I*sz)):=by
 have a1:I*sz≤cur.length:=Nat.le_trans (Nat.mul_le_mul_right _ (by omega)) h1
 have a2:m*sz≤cur2.length:=Nat.le_trans (Nat.mul_le_mul_right _ hm) h2
 have a3:I*sz+(n - I)*sz≤cur.length:=by rw[←Nat.add_mul];exact Nat.le_trans (Nat.mul_le_mul_right _ (by omega)) h1
 have a4:(n+m)*sz=I*sz+(m*sz+(n - I)*sz):=by rw[←Nat.add_mul,←Nat.add_mul];congr 1;omega
 have a5:G*sz=I*sz+(G - I)*sz:=by rw[←Nat.add_mul];congr 1;omega
 have a6:m*sz+(n - I)*sz≤(G - I)*sz:=by rw[←Nat.add_mul];exact Nat.mul_le_mul_right _ (by omega)
 have a7:(I+m)*sz=I*sz+m*sz:=Nat.add_mul _ _ _
 have hp:(cur.take (I*sz)).length=I*sz:=by rw[List.length_take];omega
 have hk:(cur2.take (m*sz)).length=m*sz:=by rw[List.length_take];omega
 have hd:((cur.drop (I*sz)).take ((n - I)*sz)).length=(n - I)*sz:=by rw[List.length_take,List.length_drop];omega
 have hds:(cur.take (n*sz)).drop (I*sz)=(cur.drop (I*sz)).take ((n - I)*sz):=by
  rw[List.drop_take]
  congr 1
  rw[←Nat.sub_mul]
 have htt:(cur.take (n*sz)).take (I*sz)=cur.take (I*sz):=by rw[List.take_take,Nat.min_eq_left (Nat.mul_le_mul_right _ hI)]
 rw[hds,htt]
 simp only[Nat.zero_add,List.drop_zero]
 have e1:splice (cur.take (I*sz)++zs) (I*sz) (cur2.take (m*sz))=cur.take (I*sz)++(cur2.take (m*sz)++zs.drop (m*sz)):=by
  have:=zio (cur.take (I*sz)) zs (cur2.take (m*sz))
  rw[hp,hk]at this
  exact this
 have e2:splice (cur.take (I*sz)++(cur2.take (m*sz)++zs.drop (m*sz))) ((I+m)*sz) ((cur.drop (I*sz)).take ((n - I)*sz))=cur.take (I*sz)++(cur2.take (m*sz)++((cur.drop (I*sz)).take ((n - I)*sz)++(zs.drop (m*sz)).drop ((n - I)*sz))):=by
  have:=zio (cur.take (I*sz)++cur2.take (m*sz)) (zs.drop (m*sz)) ((cur.drop (I*sz)).take ((n - I)*sz))
  rw[List.length_append,hp,hk,hd,←a7]at this
  simpa using this
 rw[e1,e2]
 refine ⟨hk,hd,?_,?_,?_,?_⟩
 ·rw[List.length_append,hp,hz];omega
 ·rw[List.length_append,List.length_append,hp,hk,List.length_drop,hz];omega
 ·rw[List.length_append,List.length_append,List.length_append,hp,hk,hd,List.length_drop,List.length_drop,hz];omega
 ·have hall:(cur.take (I*sz)++(cur2.take (m*sz)++(cur.drop (I*sz)).take ((n - I)*sz))).length=(n+m)*sz:=by rw[List.length_append,List.length_append,hp,hk,hd];omega
  rw[show cur.take (I*sz)++(cur2.take (m*sz)++((cur.drop (I*sz)).take ((n - I)*sz)++(zs.drop (m*sz)).drop ((n - I)*sz)))=(cur.take (I*sz)++(cur2.take (m*sz)++(cur.drop (I*sz)).take ((n - I)*sz)))++(zs.drop (m*sz)).drop ((n - I)*sz) by simp]
  rw[List.take_append_of_le_length (by rw[hall];exact Nat.le_refl _),List.take_of_length_le (by rw[hall];exact Nat.le_refl _)]
theorem insB {cur cur2:List Value} {n m I sz cap cap2:Nat} (hI:I≤n) (hn:n+m≤cap) (hm:m≤cap2) (h1:cap*sz≤cur.length) (h2:cap2*sz≤cur2.length):
 ((cur2.drop 0).take (m*sz)).length=m*sz∧((cur.drop (0+I*sz)).take ((n - I)*sz)).length=(n - I)*sz∧
 (splice cur (0+(I+m)*sz) ((cur.drop (0+I*sz)).take ((n - I)*sz))).length=cur.length∧
 (splice (splice cur (0+(I+m)*sz) ((cur.drop (0+I*sz)).take ((n - I)*sz))) (0+I*sz) ((cur2.drop 0).take (m*sz))).length=cur.length∧
 (splice (splice cur (0+(I+m)*sz) ((cur.drop (0+I*sz)).take ((n - I)*sz))) (0+I*sz) ((cur2.drop 0).take (m*sz))).take ((n+m)*sz)=(cur.take (n*sz)).take (I*sz)++(cur2.take (m*sz)++(cur.take (n*sz)).drop (I*sz)):=by
 have a1:I*sz≤cur.length:=Nat.le_trans (Nat.mul_le_mul_right _ (by omega)) h1
 have a2:m*sz≤cur2.length:=Nat.le_trans (Nat.mul_le_mul_right _ hm) h2
 have a3:I*sz+(n - I)*sz≤cur.length:=by rw[←Nat.add_mul];exact Nat.le_trans (Nat.mul_le_mul_right _ (by omega)) h1
 have a4:(n+m)*sz=I*sz+(m*sz+(n - I)*sz):=by rw[←Nat.add_mul,←Nat.add_mul];congr 1;omega
 have a5:(n+m)*sz≤cap*sz:=Nat.mul_le_mul_right _ hn
 have a7:(I+m)*sz=I*sz+m*sz:=Nat.add_mul _ _ _
 have hp:(cur.take (I*sz)).length=I*sz:=by rw[List.length_take];omega
 have hk:(cur2.take (m*sz)).length=m*sz:=by rw[List.length_take];omega
 have hd:((cur.drop (I*sz)).take ((n - I)*sz)).length=(n - I)*sz:=by rw[List.length_take,List.length_drop];omega
 have hds:(cur.take (n*sz)).drop (I*sz)=(cur.drop (I*sz)).take ((n - I)*sz):=by
  rw[List.drop_take]
  congr 1
  rw[←Nat.sub_mul]
 have htt:(cur.take (n*sz)).take (I*sz)=cur.take (I*sz):=by rw[List.take_take,Nat.min_eq_left (Nat.mul_le_mul_right _ hI)]
 rw[hds,htt]
 simp only[Nat.zero_add,List.drop_zero]
 generalize hDs:(cur.drop (I*sz)).take ((n - I)*sz)=ds at hd
 have hrest:(cur.drop (I*sz)).length=cur.length - I*sz:=by rw[List.length_drop]
 have e1:splice cur ((I+m)*sz) ds=cur.take (I*sz)++((cur.drop (I*sz)).take (m*sz)++ds++(cur.drop (I*sz)).drop (m*sz+(n - I)*sz)):=by
  have:=zpq (cur.take (I*sz)) (cur.drop (I*sz)) ds (m*sz)
  rw[List.take_append_drop,hp,←a7,hd]at this
  exact this
 have hq:((cur.drop (I*sz)).take (m*sz)).length=m*sz:=by rw[List.length_take,hrest];omega
 have e2:splice (cur.take (I*sz)++((cur.drop (I*sz)).take (m*sz)++ds++(cur.drop (I*sz)).drop (m*sz+(n - I)*sz))) (I*sz) (cur2.take (m*sz))=cur.take (I*sz)++(cur2.take (m*sz)++(ds++(cur.drop (I*sz)).drop (m*sz+(n - I)*sz))):=by
  have:=zio (cur.take (I*sz)) ((cur.drop (I*sz)).take (m*sz)++ds++(cur.drop (I*sz)).drop (m*sz+(n - I)*sz)) (cur2.take (m*sz))
  rw[hp,hk]at this
  rw[this,List.append_assoc,List.drop_append,List.drop_of_length_le (by rw[hq];exact Nat.le_refl _),hq,Nat.sub_self,List.drop_zero,List.nil_append]
 rw[e1,e2]
 refine ⟨hk,hd,?_,?_,?_⟩
 ·rw[List.length_append,List.length_append,List.length_append,hp,hq,hd,List.length_drop,hrest];omega
 ·rw[List.length_append,List.length_append,List.length_append,hp,hk,hd,List.length_drop,hrest];omega
 ·have hall:(cur.take (I*sz)++(cur2.take (m*sz)++ds)).length=(n+m)*sz:=by rw[List.length_append,List.length_append,hp,hk,hd];omega
  rw[show cur.take (I*sz)++(cur2.take (m*sz)++(ds++(cur.drop (I*sz)).drop (m*sz+(n - I)*sz)))=(cur.take (I*sz)++(cur2.take (m*sz)++ds))++(cur.drop (I*sz)).drop (m*sz+(n - I)*sz) by simp]
  rw[List.take_append_of_le_length (by rw[hall];exact Nat.le_refl _),List.take_of_length_le (by rw[hall];exact Nat.le_refl _)]
theorem zdA {cur:List Value} {n I sz:Nat} (h: ∀u∈cur.take (n*sz),u.oneCell'=true) (hI:I≤n): ∀u∈(cur.drop (0+I*sz)).take ((n - I)*sz),u.oneCell'=true:=by
 intro u hu
 refine h u ?_
 have:(cur.take (n*sz)).drop (I*sz)=(cur.drop (I*sz)).take ((n - I)*sz):=by
  rw[List.drop_take]
  congr 1
  rw[←Nat.sub_mul]
 rw[Nat.zero_add,←this]at hu
 exact List.mem_of_mem_drop hu
theorem Ow.row_inv {w:World} {v:Value} {sz k:Nat} {cs:List C} {S:List Nat} (h:Ow w v (.sl sz k cs) S) (hk:0<k):
 ∃b cap e cur T,v= .slice (some ⟨b,0,none⟩) k cap∧w.heap[b]? =some (.cells cur e (0,0))∧k≤cap∧cap≤maxLen∧cap*sz≤cur.size∧Ows w (cur.toList.take (k*sz)) cs T∧S=b::T:=by
 cases h with
 | nil=>omega
 | row b n cap e sz cur vs cs S hh hc hm hs ht hr=>subst ht;exact ⟨b,cap,e,cur,S,rfl,hh,hc,hm,hs,hr,rfl⟩
theorem TW.openRows {α:Type} [Enc α] {l k:List α} {V U:Value} {c:Code} (hl:0<l.length) (hk:0<k.length)
 (h: ∀b cap e cur b2 cap2 e2 cur2,V= .slice (some ⟨b,0,none⟩) l.length cap→U= .slice (some ⟨b2,0,none⟩) k.length cap2→b≠b2→l.length≤cap→cap≤maxLen→k.length≤cap2→cap2≤maxLen→
   cap*Enc.sz α≤cur.length→cap2*Enc.sz α≤cur2.length→(∀u∈cur.take (l.length*Enc.sz α),u.oneCell'=true)→(∀u∈cur2.take (k.length*Enc.sz α),u.oneCell'=true)→
   TW P w0 S0 m n fr [.box b e cur,.box b2 e2 cur2,.ows (cur.take (l.length*Enc.sz α)) (l.flatMap Enc.enc),.ows (cur2.take (k.length*Enc.sz α)) (k.flatMap Enc.enc)] c Q):
 TW P w0 S0 m n fr [.own V (lc l),.own U (lc k)] c Q:=by
 intro r hr a w hf hs
 obtain ⟨os,tape,output,size,base,S,⟨A,B,rfl,hA,A2,B2,rfl,hA2,hB2⟩,hnd,hin⟩:=hs
 rw[show B2= [] from hB2,List.append_nil]at hnd hin
 obtain ⟨b,cap,e,cur,T,hV,hh,h1,h2,h3,h4,rfl⟩:=Ow.row_inv hA hl
 obtain ⟨b2,cap2,e2,cur2,T2,hU,hh2,h5,h6,h7,h8,rfl⟩:=Ow.row_inv hA2 hk
 have hbb:b≠b2:=by
  intro e
  subst e
  exact (List.nodup_append.1 hnd).2.2 b (by simp) b (by simp) rfl
 refine h b cap e cur.toList b2 cap2 e2 cur2.toList hV hU hbb h1 h2 h5 h6 (by rw[Array.length_toList];exact h3) (by rw[Array.length_toList];exact h7) h4.oneCells h8.oneCells r hr a w hf ?_
 have hp:([b]++([b2]++(T++T2))).Perm ((b::T)++(b2::T2)):=by
  simp only[List.cons_append,List.nil_append]
  refine List.Perm.cons _ ?_
  exact (List.perm_middle).symm
 refine ⟨os,tape,output,size,base,[b]++([b2]++(T++(T2++ []))),⟨[b],_,rfl,⟨rfl,by simpa using hh⟩,[b2],_,rfl,⟨rfl,by simpa using hh2⟩,T,_,rfl,h4,T2,[],by simp,h8,rfl⟩,?_,?_⟩
 ·rw[List.append_nil];exact hp.symm.nodup hnd
 ·intro x hx
  rw[List.append_nil]at hx
  exact hin x (hp.mem_iff.1 hx)
theorem Gh.fold {α:Type} [Enc α] {l k:List α} {us ks cur:List Value} {b e cap i:Nat} {r:List Item} (qs:List Nat) (hp:pulls qs is=some (.box b e cur:: .ows us (l.flatMap Enc.enc):: .ows ks (k.flatMap Enc.enc)::r))
 (hi:i≤l.length) (hc:l.length+k.length≤cap) (hm:cap≤maxLen) (hl:cap*Enc.sz α≤cur.length) (ht:cur.take ((l.length+k.length)*Enc.sz α)=us.take (i*Enc.sz α)++(ks++us.drop (i*Enc.sz α))):
 Gh w0 S0 is (fun _:Unit=>.own (.slice (some ⟨b,0,none⟩) (l.length+k.length) cap) (lc (l.take i++(k++l.drop i)))::r):=by
 intro w h
 refine ⟨(),?_⟩
 have h':St w0 S0 ([.box b e cur,.ows us (l.flatMap Enc.enc),.ows ks (k.flatMap Enc.enc)]++r) w:=h.pulls qs hp
 refine St.trade (js:=[_]) h' fun A hA=>?_
 obtain ⟨A1,B1,rfl,⟨rfl,hh⟩,A2,B2,rfl,h2,A3,B3,rfl,h3,h4⟩:=hA
 rw[show B3= [] from h4]
 have hls:l=l.take i++l.drop i:=(List.take_append_drop i l).symm
 have h2':Ows w us ((l.take i).flatMap Enc.enc++(l.drop i).flatMap Enc.enc) A2:=by rw[←List.flatMap_append,←hls];exact h2
 obtain ⟨S1,S2,rfl,k1,k2⟩:=h2'.split
 rw[zbM,List.length_take,Nat.min_eq_left hi]at k1 k2
 have hlen:(l.take i++(k++l.drop i)).length=l.length+k.length:=by simp only[List.length_append,List.length_take,List.length_drop];omega
 refine ⟨[b]++(S1++(A3++S2)),⟨b::(S1++(A3++S2)),[],by simp,?_,rfl⟩,?_⟩
 ·show Ow w _ (.sl (Enc.sz α) (l.take i++(k++l.drop i)).length _) _
  rw[hlen,List.flatMap_append,List.flatMap_append]
  exact .row b _ cap e (Enc.sz α) cur.toArray _ _ _ hh hc hm (by simpa using hl) (by simpa using ht) (k1.append (h3.append k2))
 ·refine List.Perm.append_left _ ?_
  rw[List.append_nil,List.append_assoc]
  exact List.Perm.append_left _ List.perm_append_comm
theorem Y.capRaw {x:Operand} {t e sz by_ len cap:Nat} {a0:Option Addr} (he:elemB P t=some (e,sz,by_)) (hx:ev fr x=some (.slice a0 len cap)):
 Y P w0 S0 n fr is ⟨dst,.call {callee:=.builtin .cap,args:=#[x],argTypes:=#[t]},ty,pos,aft,gd⟩ (.int .i64 cap):=by
 obtain ⟨hu,_⟩:=zJ he
 intro a w hf hs
 simp[execOp,resolve,invoke,builtin,hf.eval hx,Builtin.cap_,run_underlying hu,goInt]
theorem Y.toRaw {x y:Operand} {t e sz by_ len cap b o hi:Nat} {zi:Int} {k:IntKind} (he:elemB P t=some (e,sz,by_)) (hle:hi≤cap) (hzi:zi=(hi:Int)) (hx:ev fr x=some (.slice (some ⟨b,o,none⟩) len cap)) (hy:ev fr y=some (.int k zi)):
 Y P w0 S0 n fr is ⟨dst,.slice t x none (some y) none,ty,pos,aft,gd⟩ (.slice (some ⟨b,o,none⟩) hi cap):=by
 subst hzi
 obtain ⟨hu,ti,hti,hsz,_⟩:=zJ he
 intro a w hf hs
 have h0:(⟨b,o,none⟩:Addr).add 0=⟨b,o,none⟩:=by simp[Addr.add]
 simp[execOp,hf.eval hx,hf.eval hy,Instr.sliceAt,Instr.slice,Instr.sliceBounds,Instr.sliceBound,asIntOf,run_underlying hu,sizeOf,typeInfo,hti,hsz,hle,h0]
theorem Y.fromRaw {x y:Operand} {t e sz by_ len cap b o lo:Nat} {zi:Int} {k:IntKind} (he:elemB P t=some (e,sz,by_)) (hle:lo≤len) (hlt:lo<cap) (hzi:zi=(lo:Int)) (hx:ev fr x=some (.slice (some ⟨b,o,none⟩) len cap)) (hy:ev fr y=some (.int k zi)):
 Y P w0 S0 n fr is ⟨dst,.slice t x (some y) none none,ty,pos,aft,gd⟩ (.slice (some ⟨b,o+lo*sz,none⟩) (len - lo) (cap - lo)):=by
 subst hzi
 obtain ⟨hu,ti,hti,hsz,_⟩:=zJ he
 intro a w hf hs
 have h0:(⟨b,o,none⟩:Addr).add (lo*sz)=⟨b,o+lo*sz,none⟩:=add_lit b o (lo*sz)
 simp[execOp,hf.eval hx,hf.eval hy,Instr.sliceAt,Instr.slice,Instr.sliceBounds,Instr.sliceBound,asIntOf,run_underlying hu,sizeOf,typeInfo,hti,hsz,hle,h0,show ¬cap=lo by omega]
theorem Ef.rawCopy {d:Option Nat} {x y:Operand} {t e sz by_ b o dl dc b' o' sl sl0 sc bt bt':Nat} {cur cur':List Value} (p q:Nat) (he:elemB P t=some (e,sz,by_)) (hp:is[p]? =some (.box b bt cur)) (hq:is[q]? =some (.box b' bt' cur'))
 (hx:ev fr x=some (.slice (some ⟨b,o,none⟩) dl dc)) (hy:ev fr y=some (.slice (some ⟨b',o',none⟩) sl0 sc)) (hle:min sl0 dl=sl) (h1:o+sl*sz≤cur.length) (h2:o'+sl*sz≤cur'.length)
 (hone: ∀u∈(cur'.drop o').take (sl*sz),u.oneCell'=true) {is':List Item} (his:is.set p (.box b bt (splice cur o ((cur'.drop o').take (sl*sz))))=is'):
 Ef P w0 S0 n fr is ⟨d,.call {callee:=.builtin .copy,args:=#[x,y],argTypes:=#[t,t]},ty,pos,aft,gd⟩ (fun _:Unit=>goInt sl) (fun _=>is'):=by
 obtain ⟨hu,ti,hti,hsz,_⟩:=zJ he
 intro a w K Q hf hst hK
 have hh:=zek hst hp
 have hh':=zek hst hq
 have hlen:((cur'.drop o').take (sl*sz)).length=sl*sz:=by rw[List.length_take,List.length_drop];omega
 have hl:=run_loadCells_list (P:=P) w ⟨b',o',none⟩ ((cur'.drop o').take (sl*sz)) (fun j v hv=>by
  have hj:j<sl*sz:=by rw[←hlen];exact (List.getElem?_eq_some_iff.1 hv).1
  rw[add_lit,cell_of_row w b' (o'+j) _ bt' (0,0) hh',←hv,List.getElem?_take,if_pos hj,List.getElem?_drop]
  simp)
 have hst2:=run_storeCells_at P b o bt ((cur'.drop o').take (sl*sz)) 0 cur.toArray w hh (by rw[hlen];simpa using h1) hone
 simp only[Nat.add_zero]at hst2
 rw[hlen]at hl
 have hrun:(execOp a.eval ⟨d,.call {callee:=.builtin .copy,args:=#[x,y],argTypes:=#[t,t]},ty,pos,aft,gd⟩).run P w= .ok (.value (goInt sl)) (w.setRow b (splice cur o ((cur'.drop o').take (sl*sz))).toArray):=by
  have hmin:min sl0 dl=sl:=hle
  simp[execOp,resolve,invoke,builtin,hf.eval hx,hf.eval hy,Builtin.copy_,run_underlying hu,Builtin.lenOf,Builtin.firstCells,sizeOf,typeInfo,hti,hsz,hmin,hl,hst2,splice]
 unfold Oper.wp
 rw[hrun]
 refine hK () _ ?_
 subst his
 refine hst.upd hp fun A hA hnd=>?_
 obtain ⟨rfl,hA2⟩:=hA
 refine ⟨[b],Chg.setRow w b _,⟨rfl,?_⟩,by simp,fun x hx=>.inl hx⟩
 exact setRow_heap w b _ _ bt _ hA2
abbrev Grown (k N sz:Nat):={x:(Nat × Nat) × (Nat × List Value) // x.2.2.length=(x.1.2 - k)*sz∧N≤x.1.2∧x.1.2≤maxLen}
theorem Ef.rawGrow {d:Option Nat} {x y:Operand} {t tn e sz by_ b k cap q bt N:Nat} {zi:Int} {kq:IntKind} {z:Value} {cur:List Value} (p:Nat) (he:elemB P t=some (e,sz,by_)) (hn:intB P tn=some kq) (hz:zeroB P e=some z) (hzs:Nat.beq z.cells.size sz=true)
 (hpos:Nat.blt 0 sz=true) (hp:is[p]? =some (.box b bt cur)) (hx:ev fr x=some (.slice (some ⟨b,0,none⟩) k cap)) (hy:ev fr y=some (.int kq zi)) (hzi:zi=(q:Int)) (hN:k+q=N) (hk:k≤cap) (hl:cap*sz≤cur.length) (hq:0<q) (hg:cap<N) (h63:N≤9223372036854775807) (hb:N*by_≤140737488355328):
 Ef P w0 S0 n fr is ⟨d,.call {callee:=.builtin .append,args:=#[x,y],argTypes:=#[t,tn]},ty,pos,aft,gd⟩ (fun X:Grown k N sz=>.slice (some ⟨X.1.1.1,0,none⟩) N X.1.1.2)
  (fun X=>.box X.1.1.1 X.1.2.1 (cur.take (k*sz)++X.1.2.2)::is):=by
 subst hN hzi
 obtain ⟨hu,ti,hti,hsz,hby⟩:=zJ he
 have hn':P.underlying tn=some (.int kq):=by unfold intB at hn;split at hn<;>simp_all
 have hzi:ti.zero=some z:=by unfold zeroB at hz;rw[hti]at hz;simpa using hz
 have hzs':z.cells.size=sz:=by simpa using hzs
 have hpos':0<sz:=by simpa using hpos
 intro a w K Q hf hst hK
 have hh:=zek hst hp
 have hkl:k*sz≤cur.length:=Nat.le_trans (Nat.mul_le_mul_right _ hk) hl
 have hold:(Builtin.firstCells ti.size k (.slice (some ⟨b,0,none⟩) k cap)).run P w.drew= .ok (cur.take (k*sz)).toArray w.drew:=by
  refine run_firstCells_some (P:=P) w.drew ti.size k ⟨b,0,none⟩ k cap (cur.take (k*sz)) (by rw[List.length_take,hsz];omega) ?_
  intro j u hu
  have hj:=(List.getElem?_eq_some_iff.1 hu).1
  rw[List.length_take]at hj
  rw[add_lit,cell_of_row w.drew b (0+j) cur.toArray bt (0,0) hh,←hu,List.getElem?_take,if_pos (by omega)]
  simp
 have hqb:q*ti.bytes≤281474976710656:=by
  have:q*by_≤(k+q)*by_:=Nat.mul_le_mul_right _ (by omega)
  rw[hby];omega
 have hr:=Lib.run_append_grow_zeros (P:=P) w t tn ty e ti z kq kq hu hn' hti hzi (some ⟨b,0,none⟩) k cap _ hold q hq (by omega) hg (by omega) hqb (growslice_fits (by omega) (by rw[hby];exact hb))
 have hge:=grownCap_ge w (k+q) cap e
 have hcm:grownCap w (k+q) cap e≤maxLen:=grownCap_le_maxLen w (k+q) cap e (by simp only[maxLen];omega)
 have hrun:(execOp a.eval ⟨d,.call {callee:=.builtin .append,args:=#[x,y],argTypes:=#[t,tn]},ty,pos,aft,gd⟩).run P w= .ok (.value (.slice (some ⟨w.heap.size,0,none⟩) (k+q) (grownCap w (k+q) cap e)))
  (w.drew.alloc (.cells ((cur.take (k*sz)).toArray++Builtin.zeroCells z.cells q++Builtin.zeroCells z.cells (grownCap w (k+q) cap e - (k+q))) e)):=by
  simp[execOp,resolve,invoke,builtin,hf.eval hx,hf.eval hy,hr]
 unfold Oper.wp
 rw[hrun]
 have hzl:(Builtin.zeroCells z.cells q++Builtin.zeroCells z.cells (grownCap w (k+q) cap e - (k+q))).toList.length=(grownCap w (k+q) cap e - k)*sz:=by
  rw[Array.length_toList,Array.size_append,size_zeroCells,size_zeroCells,hzs',←Nat.add_mul]
  congr 1
  omega
 refine hK ⟨((w.heap.size,grownCap w (k+q) cap e),(e,(Builtin.zeroCells z.cells q++Builtin.zeroCells z.cells (grownCap w (k+q) cap e - (k+q))).toList)),hzl,hge,hcm⟩ _ ?_
 have hchg:Chg w (w.drew.alloc (.cells ((cur.take (k*sz)).toArray++Builtin.zeroCells z.cells q++Builtin.zeroCells z.cells (grownCap w (k+q) cap e - (k+q))) e)) []:=⟨rfl,rfl,rfl,by simp,fun j hj _=>heap_alloc_old w.drew _ hj⟩
 have hsat:(Item.box w.heap.size e (cur.take (k*sz)++(Builtin.zeroCells z.cells q++Builtin.zeroCells z.cells (grownCap w (k+q) cap e - (k+q))).toList)).sat (w.drew.alloc (.cells ((cur.take (k*sz)).toArray++Builtin.zeroCells z.cells q++Builtin.zeroCells z.cells (grownCap w (k+q) cap e - (k+q))) e)) [w.heap.size]:=by
  refine ⟨rfl,?_⟩
  have:=heap_alloc_new w.drew (.cells ((cur.take (k*sz)).toArray++Builtin.zeroCells z.cells q++Builtin.zeroCells z.cells (grownCap w (k+q) cap e - (k+q))) e)
  rw[show w.heap.size=w.drew.heap.size from rfl,this]
  congr 2
  apply Array.ext'
  simp
 exact hst.add hchg _ [w.heap.size] hsat (by simp) (by simp)
def zapp (by_:Nat) (q:Int):Option Nat:=if 0<q∧q*by_≤140737488355328∧q≤4611686018427387904 then some q.toNat else none
theorem ztL {by_ k:Nat} {q:Int} (h:zapp by_ q=some k):q=(k:Int)∧0<k∧k*by_≤140737488355328∧k≤4611686018427387904:=by
 unfold zapp at h
 split at h
 ·rename_i hc
  cases h
  obtain ⟨h1,h2,h3⟩:=hc
  refine ⟨by omega,by omega,?_,by omega⟩
  have:((q.toNat*by_:Nat):Int)≤140737488355328:=by rw[Int.natCast_mul,Int.toNat_of_nonneg (by omega)];exact h2
  omega
 ·cases h
theorem Ef.appZeros {α:Type} [Flat α] {d:Option Nat} {x y:Operand} {t tn e sz by_ k:Nat} {q:Int} {kq:IntKind} {zv:Value} {z:α} (hq:zapp by_ q=some k) (he:elemB P t=some (e,sz,by_)) (hn:intB P tn=some kq) (hz:zeroB P e=some zv)
 (hzs:zv.cells.toList=Flat.vals z) (hsz:Enc.sz α=sz) (hsz':zv.cells.size=sz) (hx:ev fr x=some (.slice none 0 0)) (hy:ev fr y=some (.int kq q)):
 Ef P w0 S0 n fr is ⟨d,.call {callee:=.builtin .append,args:=#[x,y],argTypes:=#[t,tn]},ty,pos,aft,gd⟩ (fun v:Value=>v) (fun v=>.own v (lc (List.replicate k z))::is):=by
 obtain ⟨rfl,hk,hb,h62⟩:=ztL hq
 obtain ⟨hu,ti,hti,hsz2,hby⟩:=zJ he
 have hn':P.underlying tn=some (.int kq):=by unfold intB at hn;split at hn<;>simp_all
 have hzi:ti.zero=some zv:=by unfold zeroB at hz;rw[hti]at hz;simpa using hz
 have hpos':0<sz:=by rw[←hsz];exact Enc.pos
 intro a w K Q hf hst hK
 have hold:(Builtin.firstCells ti.size 0 (.slice none 0 0)).run P w.drew= .ok #[] w.drew:=by simp[Builtin.firstCells,loadCells,loadCellsFrom]
 have hqb:k*ti.bytes≤281474976710656:=by rw[hby];omega
 have hr:=Lib.run_append_grow_zeros (P:=P) w t tn ty e ti zv kq kq hu hn' hti hzi none 0 0 _ hold k hk (by omega) (by omega) (by omega) hqb (growslice_fits (by omega) (by rw[hby];simpa using hb))
 have hge:=grownCap_ge w (0+k) 0 e
 have hcm:grownCap w (0+k) 0 e≤maxLen:=grownCap_le_maxLen w (0+k) 0 e (by simp only[maxLen];omega)
 have hrun:(execOp a.eval ⟨d,.call {callee:=.builtin .append,args:=#[x,y],argTypes:=#[t,tn]},ty,pos,aft,gd⟩).run P w= .ok (.value (.slice (some ⟨w.heap.size,0,none⟩) (0+k) (grownCap w (0+k) 0 e)))
  (w.drew.alloc (.cells (#[]++Builtin.zeroCells zv.cells k++Builtin.zeroCells zv.cells (grownCap w (0+k) 0 e - (0+k))) e)):=by
  simp[execOp,resolve,invoke,builtin,hf.eval hx,hf.eval hy,hr]
 unfold Oper.wp
 rw[hrun]
 refine hK (.slice (some ⟨w.heap.size,0,none⟩) (0+k) (grownCap w (0+k) 0 e)) _ ?_
 have hchg:Chg w (w.drew.alloc (.cells (#[]++Builtin.zeroCells zv.cells k++Builtin.zeroCells zv.cells (grownCap w (0+k) 0 e - (0+k))) e)) []:=⟨rfl,rfl,rfl,by simp,fun j hj _=>heap_alloc_old w.drew _ hj⟩
 have hfl:(Builtin.zeroCells zv.cells k).toList=(List.replicate k z).flatMap Flat.vals:=by
  rw[←znp z k,hsz,←hzs]
  simp[Builtin.zeroCells,madeCells,hsz']
 refine hst.add hchg _ [w.heap.size] ?_ (by simp) (by simp)
 show Ow _ _ (.sl (Enc.sz α) (List.replicate k z).length ((List.replicate k z).flatMap Enc.enc)) [w.heap.size]
 rw[List.length_replicate]
 have e0:(0+k)=k:=Nat.zero_add k
 rw[e0]at hge hcm ⊢
 refine .row w.heap.size k _ e (Enc.sz α) _ ((List.replicate k z).flatMap Flat.vals) _ [] (heap_alloc_new w.drew _) hge hcm ?_ ?_ (Ows.of_vals (zba _))
 ·rw[Array.size_append,Array.size_append,size_zeroCells,size_zeroCells,hsz',hsz]
  have:(#[]:Array Value).size=0:=rfl
  rw[this,Nat.zero_add,←Nat.add_mul]
  exact Nat.mul_le_mul_right _ (by omega)
 ·have hl:((List.replicate k z).flatMap (Flat.vals (α:=α))).length=k*Enc.sz α:=by rw[z8,List.length_replicate]
  simp only[Array.toList_append,List.nil_append]
  rw[hfl,←hl]
  exact List.take_left
theorem Ef.overlaps {d:Option Nat} {f:FuncId} {fn:Func} {x y:Operand} {t tr e sz by_ b o la ca b2 o2 lb cb bt bt2:Nat} {ats:Array TypeId} {cur cur2:List Value} (p q:Nat) (hf0:P.funcs[f]? =some fn) (hname:(fn.name == "runtime.NumGoroutine")=false) (hbody:fn.body.isNone=true) (hnext:Extern.findNext fn=none)
 (hext:Extern.find fn=some (Extern.SlicesOverlaps.overlaps #[t,t] #[tr])) (he:elemB P t=some (e,sz,by_)) (hx:ev fr x=some (.slice (some ⟨b,o,none⟩) la ca)) (hy:ev fr y=some (.slice (some ⟨b2,o2,none⟩) lb cb)) (hne:b≠b2)
 (hp:is[p]? =some (.box b bt cur)) (hq:is[q]? =some (.box b2 bt2 cur2)) (hl:cur2≠[]):
 Ef P w0 S0 n fr is ⟨d,.call {callee:=.value (.func f),args:=#[x,y],argTypes:=ats},ty,pos,aft,gd⟩ (fun _:Unit=>.bool false) (fun _=>is):=by
 obtain ⟨hu,ti,hti,hsz,hby⟩:=zJ he
 intro a w K Q hf hst hK
 have hh:=zek hst hp
 have hh2:=zek hst hq
 have hs: ∀w,(Go.sizeOf e).run P w= .ok ti.size w:=fun w=>by simp[sizeOf,typeInfo,hti]
 have hov:=Lib.run_overlaps_apart (P:=P) w t tr e hu ti.size hs ⟨b,o,none⟩ ⟨b2,o2,none⟩ la ca lb cb hne bt bt2 cur.length cur2.length
  (by simp[World.shape?,hh]) (by simp[World.shape?,hh2]) (by simpa using hl) (by simp[World.frozen?,hh]) (by simp[World.frozen?,hh])
 have hrun:(execOp a.eval ⟨d,.call {callee:=.value (.func f),args:=#[x,y],argTypes:=ats},ty,pos,aft,gd⟩).run P w= .ok (.value (.bool false)) w:=by
  have h1:=run_callFunc_extern hf0 hname hbody hnext hext #[.slice (some ⟨b,o,none⟩) la ca,.slice (some ⟨b2,o2,none⟩) lb cb] w
  rw[hov]at h1
  simp only[Result.andThen_ok]at h1
  have h2:a.eval (.func f)= .func (.func f) #[] #[]:=rfl
  simp[execOp,resolve,h2,Deferred.ofValue,invoke,hf.eval hx,hf.eval hy]
  simpa using h1
 unfold Oper.wp
 rw[hrun]
 exact hK () w hst
end
end Go.Proofs.YtfgjhefhlabpkaaGreat.Sl
