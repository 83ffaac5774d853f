/-
  Runs of operations reckoned at once: what lies where is told by numbers, what must be equal is gathered and shown once. Generic: no statement about a given function.
-/
import Derived.Test.YtmenicbkddagmaaGreatSo
import Derived.Lib.Overlaps
import Derived.Lib.AppendZerosOnto
import Derived.Lib.Builder
import Derived.Lib.UnsafeStr
import Derived.Laws.Externs
import Derived.Laws.StructEq
import Derived.ChangeKeysEq
import Derived.Lib.ConvBytes
import Derived.ProofKit
import Derived.OpenShut
import Derived.ShutString
import Derived.ChangeOld
import Derived.Below
import Derived.Lib.Bytealg
set_option linter.unusedVariables false
set_option linter.unusedSimpArgs false
set_option linter.defProp false
set_option maxRecDepth 100000
section
open Nat renaming mul_le_mul_right->An,add_mul->Bf,le_trans->Bl,zero_add->By,min_eq_left->Bz,add_zero->Cu
open List renaming length_take->Ba,replicate->Bh,length_drop->Bm,flatMap_append->Bp,getElem?_eq_some_iff->Bt,length_replicate->Cg,drop_take->Cj,getElem?_take->Cq,take_take->Cr,drop_zero->Ct
open Array renaming length_toList->Bo,size_append->Bw
namespace Go.Proofs.YtmenicbkddagmaaGreat.Sl
open Go Go.RowKit
variable {sz by_ e b t n k:Nat} {α:Type} {cur:List Value} {x:Operand} {l:List α} {zi:Int} {d:Option Nat}
def ins (by_:Nat) (l:List α) (i:Int) (k:List α):Option (List α):=
 if 0<=i/\i<=l.length/\(l.length+k.length)*by_<=140737488355328/\l.length+k.length<=4611686018427387904 then some (l.take i.toNat++(k++l.drop i.toNat)) else none
def zvh {k r:List α} {i:Int} (h:ins by_ l i k=some r):0<=i/\i<=l.length/\(l.length+k.length)*by_<=140737488355328/\l.length+k.length<=4611686018427387904/\r=l.take i.toNat++(k++l.drop i.toNat):=by unfold ins at h;simp_all
def zwR {s v r:List α} {i:Int} (h:ins b s i v=some r):app b s v=some (s++v):=by obtain ⟨_,_,a,c,_⟩:=zvh h;unfold app;rw[if_pos ⟨a,by omega⟩]
section
variable {P:Program} {w0:World} {S0:List Nat} {R:Type} {m:Option R} {fr:Fr} {is:List Item} {Q:R->Exit->Act->World->Prop}
variable {dst:Option Nat} {ty:TypeId} {pos:String} {aft:Array Edge} {gd:Option (Nat × Bool)}
def TW.cond_t {c:Operand} {x y:Code} {b:Bool} (a:ev fr c=some (.bool b)) (d:b=true) (e:TW P w0 S0 m n fr is x Q):TW P w0 S0 m n fr is (.cond c x y) Q:=by subst d;exact TW.cond_true a e
def TW.cond_f {c:Operand} {x y:Code} {b:Bool} (a:ev fr c=some (.bool b)) (d:b=false) (e:TW P w0 S0 m n fr is y Q):TW P w0 S0 m n fr is (.cond c x y) Q:=by subst d;exact TW.cond_false a e
def TW.known {c:Code} (h: ∀r,m=some r->TW P w0 S0 (some r) n fr is c Q):TW P w0 S0 m n fr is c Q:=λr a=>h r a r rfl
def zkr (p z us:List Value):splice (p++z) p.length us=p++(us++z.drop us.length):=by have:=zfO p z us 0;rw[Cu]at this;rw[this];simp[splice]
def ztm (p z us:List Value) (c:Nat):splice (p++z) (p.length+c) us=p++(z.take c++us++z.drop (c+us.length)):=zfO p z us c
theorem insA {A zs:List Value} {m I cap B G:Nat} (D:I<=n) (j:n<=cap) (b:m<=B) (a:cap*sz<=cur.length) (c:B*sz<=A.length) (k:zs.length=(G - I)*sz) (E:n+m<=G):
 ((A.drop 0).take (m*sz)).length=m*sz/\((cur.drop (0+I*sz)).take ((n - I)*sz)).length=(n - I)*sz/\(cur.take (I*sz)++zs).length=G*sz/\
 (splice (cur.take (I*sz)++zs) (0+I*sz) ((A.drop 0).take (m*sz))).length=G*sz/\
 (splice (splice (cur.take (I*sz)++zs) (0+I*sz) ((A.drop 0).take (m*sz))) (0+(I+m)*sz) ((cur.drop (0+I*sz)).take ((n - I)*sz))).length=G*sz/\
 (splice (splice (cur.take (I*sz)++zs) (0+I*sz) ((A.drop 0).take (m*sz))) (0+(I+m)*sz) ((cur.drop (0+I*sz)).take ((n - I)*sz))).take ((n+m)*sz)=(cur.take (n*sz)).take (I*sz)++(A.take (m*sz)++(cur.take (n*sz)).drop (I*sz)):=by
 have l:I*sz<=cur.length:=Bl (An _ (by omega)) a;have o:m*sz<=A.length:=Bl (An _ b) c;have p:I*sz+(n - I)*sz<=cur.length:=by rw[<-Bf];exact Bl (An _ (by omega)) a
 have q:(n+m)*sz=I*sz+(m*sz+(n - I)*sz):=by rw[<-Bf,<-Bf];congr 1;omega
 have s:G*sz=I*sz+(G - I)*sz:=by rw[<-Bf];congr 1;omega
 have t:m*sz+(n - I)*sz<=(G - I)*sz:=by rw[<-Bf];exact An _ (by omega)
 have u:(I+m)*sz=I*sz+m*sz:=Bf _ _ _;have v:(cur.take (I*sz)).length=I*sz:=by rw[Ba];omega
 have d:(A.take (m*sz)).length=m*sz:=by rw[Ba];omega
 have e:((cur.drop (I*sz)).take ((n - I)*sz)).length=(n - I)*sz:=by rw[Ba,Bm];omega
 have f:(cur.take (n*sz)).drop (I*sz)=(cur.drop (I*sz)).take ((n - I)*sz):=by rw[Cj];grind
 have g:(cur.take (n*sz)).take (I*sz)=cur.take (I*sz):=by rw[Cr,Bz (An _ D)]
 rw[f,g];simp only[By,Ct];have h:splice (cur.take (I*sz)++zs) (I*sz) (A.take (m*sz))=cur.take (I*sz)++(A.take (m*sz)++zs.drop (m*sz)):=by have:=zkr (cur.take (I*sz)) zs (A.take (m*sz));simp_all
 have i:splice (cur.take (I*sz)++(A.take (m*sz)++zs.drop (m*sz))) ((I+m)*sz) ((cur.drop (I*sz)).take ((n - I)*sz))=cur.take (I*sz)++(A.take (m*sz)++((cur.drop (I*sz)).take ((n - I)*sz)++(zs.drop (m*sz)).drop ((n - I)*sz))):=by have:=zkr (cur.take (I*sz)++A.take (m*sz)) (zs.drop (m*sz)) ((cur.drop (I*sz)).take ((n - I)*sz));simp_all
 rw[h,i];refine ⟨d,e,?_,?_,?_,?_⟩
 ·simp_all
 ·grind
 ·grind
 ·grind
theorem insB {A:List Value} {m I cap B:Nat} (E:I<=n) (c:n+m<=cap) (d:m<=B) (a:cap*sz<=cur.length) (e:B*sz<=A.length):
 ((A.drop 0).take (m*sz)).length=m*sz/\((cur.drop (0+I*sz)).take ((n - I)*sz)).length=(n - I)*sz/\
 (splice cur (0+(I+m)*sz) ((cur.drop (0+I*sz)).take ((n - I)*sz))).length=cur.length/\
 (splice (splice cur (0+(I+m)*sz) ((cur.drop (0+I*sz)).take ((n - I)*sz))) (0+I*sz) ((A.drop 0).take (m*sz))).length=cur.length/\
 (splice (splice cur (0+(I+m)*sz) ((cur.drop (0+I*sz)).take ((n - I)*sz))) (0+I*sz) ((A.drop 0).take (m*sz))).take ((n+m)*sz)=(cur.take (n*sz)).take (I*sz)++(A.take (m*sz)++(cur.take (n*sz)).drop (I*sz)):=by
 have l:I*sz<=cur.length:=Bl (An _ (by omega)) a;have o:m*sz<=A.length:=Bl (An _ d) e;have p:I*sz+(n - I)*sz<=cur.length:=by rw[<-Bf];exact Bl (An _ (by omega)) a
 have q:(n+m)*sz=I*sz+(m*sz+(n - I)*sz):=by rw[<-Bf,<-Bf];congr 1;omega
 have s:(n+m)*sz<=cap*sz:=An _ c;have t:(I+m)*sz=I*sz+m*sz:=Bf _ _ _;have u:(cur.take (I*sz)).length=I*sz:=by rw[Ba];omega
 have f:(A.take (m*sz)).length=m*sz:=by rw[Ba];omega
 have b:((cur.drop (I*sz)).take ((n - I)*sz)).length=(n - I)*sz:=by rw[Ba,Bm];omega
 have g:(cur.take (n*sz)).drop (I*sz)=(cur.drop (I*sz)).take ((n - I)*sz):=by rw[Cj];grind
 have h:(cur.take (n*sz)).take (I*sz)=cur.take (I*sz):=by rw[Cr,Bz (An _ E)]
 rw[g,h];simp only[By,Ct];generalize D:(cur.drop (I*sz)).take ((n - I)*sz)=ds at b;have i:(cur.drop (I*sz)).length=cur.length - I*sz:=by rw[Bm]
 have j:splice cur ((I+m)*sz) ds=cur.take (I*sz)++((cur.drop (I*sz)).take (m*sz)++ds++(cur.drop (I*sz)).drop (m*sz+(n - I)*sz)):=by have:=ztm (cur.take (I*sz)) (cur.drop (I*sz)) ds (m*sz);simp_all
 have v:((cur.drop (I*sz)).take (m*sz)).length=m*sz:=by rw[Ba,i];omega
 have k:splice (cur.take (I*sz)++((cur.drop (I*sz)).take (m*sz)++ds++(cur.drop (I*sz)).drop (m*sz+(n - I)*sz))) (I*sz) (A.take (m*sz))=cur.take (I*sz)++(A.take (m*sz)++(ds++(cur.drop (I*sz)).drop (m*sz+(n - I)*sz))):=by have:=zkr (cur.take (I*sz)) ((cur.drop (I*sz)).take (m*sz)++ds++(cur.drop (I*sz)).drop (m*sz+(n - I)*sz)) (A.take (m*sz));simp_all
 rw[j,k];refine ⟨f,b,?_,?_,?_⟩
 ·grind
 ·grind
 ·grind
theorem ztM {I:Nat} (h: ∀u∈cur.take (n*sz),u.oneCell'=true) (A:I<=n): ∀u∈(cur.drop (0+I*sz)).take ((n - I)*sz),u.oneCell'=true:=by
 intro u a;refine h u ?_;have:(cur.take (n*sz)).drop (I*sz)=(cur.drop (I*sz)).take ((n - I)*sz):=by rw[Cj];congr 1;rw[<-Nat.sub_mul]
 grind
def Ow.row_inv {w:World} {v:Value} {cs:List C} {S:List Nat} (h:Ow w v (.sl sz k cs) S) (i:0<k):
    ∃b cap e cur T,v= .slice (some ⟨b,0,none⟩) k cap/\w.heap[b]? =some (.cells cur e (0,0))/\k<=cap/\cap<=maxLen/\cap*sz<=cur.size/\Ows w (cur.toList.take (k*sz)) cs T/\S=b::T:=by
 cases h with
 | nil=>omega
 | row b n cap e sz cur vs cs S a c d hs f g=>subst f;exact ⟨b,cap,e,cur,S,rfl,a,c,d,hs,g,rfl⟩
theorem TW.openRows [Enc α] {k:List α} {V U:Value} {c:Code} (hl:0<l.length) (j:0<k.length) (h: ∀b cap e cur d I f J,V= .slice (some ⟨b,0,none⟩) l.length cap->U= .slice (some ⟨d,0,none⟩) k.length I->b≠d->l.length<=cap->cap<=maxLen->k.length<=I->I<=maxLen->
 cap*Enc.sz α<=cur.length->I*Enc.sz α<=J.length->(∀u∈cur.take (l.length*Enc.sz α),u.oneCell'=true)->(∀u∈J.take (k.length*Enc.sz α),u.oneCell'=true)->
 TW P w0 S0 m n fr [.box b e cur,.box d f J,.ows (cur.take (l.length*Enc.sz α)) (l.flatMap Enc.enc),.ows (J.take (k.length*Enc.sz α)) (k.flatMap Enc.enc)] c Q):
 TW P w0 S0 m n fr [.own V (lc l),.own U (lc k)] c Q:=by
 intro r o a w p hs;obtain ⟨os,tape,output,size,base,S,⟨A,B,rfl,Z,A2,W,rfl,N,O⟩,q,s⟩:=hs;rw[show W= [] from O,List.append_nil]at q s;obtain ⟨b,cap,e,cur,T,hV,t,v,x,y,g,rfl⟩:=Ow.row_inv Z hl;obtain ⟨d,I,f,J,M,hU,z,C,D,E,i,rfl⟩:=Ow.row_inv N j;have F:b≠d:=by simp_all
 refine h b cap e cur.toList d I f J.toList hV hU F v x C D (by rw[Bo];exact y) (by rw[Bo];exact E) g.oneCells i.oneCells r o a w p ?_;have G:([b]++([d]++(T++M))).Perm ((b::T)++(d::M)):=by grind
 refine ⟨os,tape,output,size,base,[b]++([d]++(T++(M++ []))),⟨[b],_,rfl,⟨rfl,by simpa using t⟩,[d],_,rfl,⟨rfl,by simpa using z⟩,T,_,rfl,g,M,[],by simp,i,rfl⟩,?_,?_⟩
 ·grind
 ·grind
theorem Gh.fold [Enc α] {k:List α} {us B:List Value} {cap i:Nat} {r:List Item} (qs:List Nat) (d:pulls qs is=some (.box b e cur:: .ows us (l.flatMap Enc.enc):: .ows B (k.flatMap Enc.enc)::r)) (hi:i<=l.length) (f:l.length+k.length<=cap) (g:cap<=maxLen) (hl:cap*Enc.sz α<=cur.length) (j:cur.take ((l.length+k.length)*Enc.sz α)=us.take (i*Enc.sz α)++(B++us.drop (i*Enc.sz α))):
 Gh w0 S0 is (λ_:Unit=>.own (.slice (some ⟨b,0,none⟩) (l.length+k.length) cap) (lc (l.take i++(k++l.drop i)))::r):=by
 intro w h;refine ⟨(),?_⟩;have m:St w0 S0 ([.box b e cur,.ows us (l.flatMap Enc.enc),.ows B (k.flatMap Enc.enc)]++r) w:=h.pulls qs d;refine St.trade (js:=[_]) m λA I=>?_;obtain ⟨A1,J,rfl,⟨rfl,n⟩,A2,M,rfl,o,D,G,rfl,p,q⟩:=I;rw[show G= [] from q];have s:l=l.take i++l.drop i:=(List.take_append_drop i l).symm;have t:Ows w us ((l.take i).flatMap Enc.enc++(l.drop i).flatMap Enc.enc) A2:=by rw[<-Bp,<-s];exact o
 obtain ⟨E,F,rfl,a,c⟩:=t.split;rw[zbj,Ba,Bz hi]at a c;have u:(l.take i++(k++l.drop i)).length=l.length+k.length:=by simp only[List.length_append,Ba,Bm];omega
 refine ⟨[b]++(E++(D++F)),⟨b::(E++(D++F)),[],by simp,?_,rfl⟩,?_⟩
 ·show Ow w _ (.sl (Enc.sz α) (l.take i++(k++l.drop i)).length _) _;rw[u,Bp,Bp];exact .row b _ cap e (Enc.sz α) cur.toArray _ _ _ n f g (by simpa using hl) (by simpa using j) (a.append (p.append c))
 ·grind
def Y.capRaw {len cap:Nat} {b:Option Addr} (c:elemB P t=some (e,sz,by_)) (d:ev fr x=some (.slice b len cap)):
    Y P w0 S0 n fr is ⟨dst,.call {callee:=.builtin .cap,args:=#[x],argTypes:=#[t]},ty,pos,aft,gd⟩ (.int .i64 cap):=by obtain ⟨f,_⟩:=zC c;intro a w g hs;simp[execOp,resolve,invoke,builtin,g.eval d,Builtin.cap_,run_underlying f,goInt]
def Y.toRaw {y:Operand} {len cap o hi:Nat} {k:IntKind} (d:elemB P t=some (e,sz,by_)) (f:hi<=cap) (g:zi=(hi:Int)) (h:ev fr x=some (.slice (some ⟨b,o,none⟩) len cap)) (i:ev fr y=some (.int k zi)):
    Y P w0 S0 n fr is ⟨dst,.slice t x none (some y) none,ty,pos,aft,gd⟩ (.slice (some ⟨b,o,none⟩) hi cap):=by
 subst g;obtain ⟨j,A,l,m,_⟩:=zC d;intro a w c hs;have p:(⟨b,o,none⟩:Addr).add 0=⟨b,o,none⟩:=by simp[Addr.add]
 simp[execOp,c.eval h,c.eval i,Instr.sliceAt,Instr.slice,Instr.sliceBounds,Instr.sliceBound,asIntOf,run_underlying j,sizeOf,typeInfo,l,m,f,p]
def Y.fromRaw {y:Operand} {len cap o lo:Nat} {k:IntKind} (d:elemB P t=some (e,sz,by_)) (f:lo<=len) (q:lo<cap) (g:zi=(lo:Int)) (h:ev fr x=some (.slice (some ⟨b,o,none⟩) len cap)) (i:ev fr y=some (.int k zi)):
    Y P w0 S0 n fr is ⟨dst,.slice t x (some y) none none,ty,pos,aft,gd⟩ (.slice (some ⟨b,o+lo*sz,none⟩) (len - lo) (cap - lo)):=by subst g;obtain ⟨j,A,l,m,_⟩:=zC d;intro a w c hs;have p:(⟨b,o,none⟩:Addr).add (lo*sz)=⟨b,o+lo*sz,none⟩:=add_lit b o (lo*sz);simp[execOp,c.eval h,c.eval i,Instr.sliceAt,Instr.slice,Instr.sliceBounds,Instr.sliceBound,asIntOf,run_underlying j,sizeOf,typeInfo,l,m,f,p,show ¬cap=lo by omega]
def Ef.rawCopy {y:Operand} {o dl dc b' V sl W sc bt Z:Nat} {U:List Value} (p q:Nat) (m:elemB P t=some (e,sz,by_)) (h:is[p]? =some (.box b bt cur)) (s:is[q]? =some (.box b' Z U)) (c:ev fr x=some (.slice (some ⟨b,o,none⟩) dl dc)) (z:ev fr y=some (.slice (some ⟨b',V,none⟩) W sc)) (B:min W dl=sl) (C:o+sl*sz<=cur.length) (O:V+sl*sz<=U.length) (D: ∀u∈(U.drop V).take (sl*sz),u.oneCell'=true) {is':List Item} (E:is.set p (.box b bt (splice cur o ((U.drop V).take (sl*sz))))=is'):
    Ef P w0 S0 n fr is ⟨d,.call {callee:=.builtin .copy,args:=#[x,y],argTypes:=#[t,t]},ty,pos,aft,gd⟩ (λ_:Unit=>goInt sl) (λ_=>is'):=by
 obtain ⟨F,ti,G,H,_⟩:=zC m;intro a w K Q i f hK;have I:=zem f h;have J:=zem f s;have g:((U.drop V).take (sl*sz)).length=sl*sz:=by rw[Ba,Bm];omega
 have hl:=run_loadCells_list (P:=P) w ⟨b',V,none⟩ ((U.drop V).take (sl*sz)) (λj v k=>by
  have L:j<sl*sz:=by rw[<-g];exact (Bt.1 k).1
  rw[add_lit,cell_of_row w b' (V+j) _ Z (0,0) J,<-k,Cq,if_pos L,List.getElem?_drop];simp)
 have l:=run_storeCells_at P b o bt ((U.drop V).take (sl*sz)) 0 cur.toArray w I (by rw[g];simpa using C) D;simp only[Cu]at l;rw[g]at hl;have M:(execOp a.eval ⟨d,.call {callee:=.builtin .copy,args:=#[x,y],argTypes:=#[t,t]},ty,pos,aft,gd⟩).run P w= .ok (.value (goInt sl)) (w.setRow b (splice cur o ((U.drop V).take (sl*sz))).toArray):=by have N:min W dl=sl:=B;simp[execOp,resolve,invoke,builtin,i.eval c,i.eval z,Builtin.copy_,run_underlying F,Builtin.lenOf,Builtin.firstCells,sizeOf,typeInfo,G,H,N,hl,l,splice]
 unfold Oper.wp;rw[M];refine hK () _ ?_;subst E;refine f.upd h λA hA R=>?_;obtain ⟨rfl,hA2⟩:=hA;refine ⟨[b],Chg.setRow w b _,⟨rfl,?_⟩,by simp,λx c=>.inl c⟩;exact setRow_heap w b _ _ bt _ hA2
abbrev Grown (k N sz:Nat):={x:(Nat × Nat) × (Nat × List Value) // x.2.2.length=(x.1.2 - k)*sz/\N<=x.1.2/\x.1.2<=maxLen}
theorem Ef.rawGrow {y:Operand} {tn cap q bt N:Nat} {kq:IntKind} {z:Value} (p:Nat) (s:elemB P t=some (e,sz,by_)) (i:intB P tn=some kq) (f:zeroB P e=some z) (v:Nat.beq z.cells.size sz=true) (A:Nat.blt 0 sz=true) (B:is[p]? =some (.box b bt cur)) (C:ev fr x=some (.slice (some ⟨b,0,none⟩) k cap)) (D:ev fr y=some (.int kq zi)) (g:zi=(q:Int)) (hN:k+q=N) (E:k<=cap) (hl:cap*sz<=cur.length) (F:0<q) (G:cap<N) (a1:N<=9223372036854775807) (H:N*by_<=140737488355328):
 Ef P w0 S0 n fr is ⟨d,.call {callee:=.builtin .append,args:=#[x,y],argTypes:=#[t,tn]},ty,pos,aft,gd⟩ (λX:Grown k N sz=>.slice (some ⟨X.1.1.1,0,none⟩) N X.1.1.2)
  (λX=>.box X.1.1.1 X.1.2.1 (cur.take (k*sz)++X.1.2.2)::is):=by
 subst hN g;obtain ⟨c,ti,l,I,J⟩:=zC s;have L:P.underlying tn=some (.int kq):=by unfold intB at i;split at i<;>simp_all
 have g:ti.zero=some z:=by unfold zeroB at f;rw[l]at f;simpa using f
 have M:z.cells.size=sz:=by simpa using v
 have a2:0<sz:=by simpa using A
 intro a w K Q m o hK;have O:=zem o B;have a3:k*sz<=cur.length:=Bl (An _ E) hl;have R:(Builtin.firstCells ti.size k (.slice (some ⟨b,0,none⟩) k cap)).run P w.drew= .ok (cur.take (k*sz)).toArray w.drew:=by refine run_firstCells_some (P:=P) w.drew ti.size k ⟨b,0,none⟩ k cap (cur.take (k*sz)) (by rw[Ba,I];omega) ?_;intro j u c;have h:=(Bt.1 c).1;rw[Ba]at h;rw[add_lit,cell_of_row w.drew b (0+j) cur.toArray bt (0,0) O,<-c,Cq,if_pos (by omega)];simp
 have S:q*ti.bytes<=281474976710656:=by grind
 have T:=Lib.run_append_grow_zeros (P:=P) w t tn ty e ti z kq kq c L l g (some ⟨b,0,none⟩) k cap _ R q F (by omega) G (by omega) S (growslice_fits (by omega) (by rw[J];exact H));have U:=grownCap_ge w (k+q) cap e;have V:grownCap w (k+q) cap e<=maxLen:=grownCap_le_maxLen w (k+q) cap e (by simp only[maxLen];omega);have W:(execOp a.eval ⟨d,.call {callee:=.builtin .append,args:=#[x,y],argTypes:=#[t,tn]},ty,pos,aft,gd⟩).run P w= .ok (.value (.slice (some ⟨w.heap.size,0,none⟩) (k+q) (grownCap w (k+q) cap e)))
  (w.drew.alloc (.cells ((cur.take (k*sz)).toArray++Builtin.zeroCells z.cells q++Builtin.zeroCells z.cells (grownCap w (k+q) cap e - (k+q))) e)):=by
  simp[execOp,resolve,invoke,builtin,m.eval C,m.eval D,T]
 unfold Oper.wp;rw[W];have Y:(Builtin.zeroCells z.cells q++Builtin.zeroCells z.cells (grownCap w (k+q) cap e - (k+q))).toList.length=(grownCap w (k+q) cap e - k)*sz:=by rw[Bo,Bw,size_zeroCells,size_zeroCells,M,<-Bf];grind
 refine hK ⟨((w.heap.size,grownCap w (k+q) cap e),(e,(Builtin.zeroCells z.cells q++Builtin.zeroCells z.cells (grownCap w (k+q) cap e - (k+q))).toList)),Y,U,V⟩ _ ?_;have Z:Chg w (w.drew.alloc (.cells ((cur.take (k*sz)).toArray++Builtin.zeroCells z.cells q++Builtin.zeroCells z.cells (grownCap w (k+q) cap e - (k+q))) e)) []:=⟨rfl,rfl,rfl,by simp,λj h _=>heap_alloc_old w.drew _ h⟩;have a0:(Item.box w.heap.size e (cur.take (k*sz)++(Builtin.zeroCells z.cells q++Builtin.zeroCells z.cells (grownCap w (k+q) cap e - (k+q))).toList)).sat (w.drew.alloc (.cells ((cur.take (k*sz)).toArray++Builtin.zeroCells z.cells q++Builtin.zeroCells z.cells (grownCap w (k+q) cap e - (k+q))) e)) [w.heap.size]:=by refine ⟨rfl,?_⟩;have:=heap_alloc_new w.drew (.cells ((cur.take (k*sz)).toArray++Builtin.zeroCells z.cells q++Builtin.zeroCells z.cells (grownCap w (k+q) cap e - (k+q))) e);simp_all
 exact o.add Z _ [w.heap.size] a0 (by simp) (by simp)
def zapp (by_:Nat) (q:Int):Option Nat:=if 0<q/\q*by_<=140737488355328/\q<=4611686018427387904 then some q.toNat else none
theorem zxc {q:Int} (h:zapp by_ q=some k):q=(k:Int)/\0<k/\k*by_<=140737488355328/\k<=4611686018427387904:=by unfold zapp at h;grind
def Ef.appZeros [Flat α] {y:Operand} {W:Nat} {q:Int} {kq:IntKind} {zv:Value} {z:α} (p:zapp by_ q=some k) (s:elemB P t=some (e,sz,by_)) (f:intB P W=some kq) (b:zeroB P e=some zv) (u:zv.cells.toList=Flat.vals z) (c:Enc.sz α=sz) (g:zv.cells.size=sz) (A:ev fr x=some (.slice none 0 0)) (B:ev fr y=some (.int kq q)):
    Ef P w0 S0 n fr is ⟨d,.call {callee:=.builtin .append,args:=#[x,y],argTypes:=#[t,W]},ty,pos,aft,gd⟩ (λv:Value=>v) (λv=>.own v (lc (Bh k z))::is):=by
 obtain ⟨rfl,C,D,S⟩:=zxc p;obtain ⟨E,Z,h,T,i⟩:=zC s;have F:P.underlying W=some (.int kq):=by unfold intB at f;split at f<;>simp_all
 have G:Z.zero=some zv:=by unfold zeroB at b;rw[h]at b;simpa using b
 have U:0<sz:=by rw[<-c];exact Enc.pos
 intro a w K Q l H hK;have I:(Builtin.firstCells Z.size 0 (.slice none 0 0)).run P w.drew= .ok #[] w.drew:=by simp[Builtin.firstCells,loadCells,loadCellsFrom]
 have J:k*Z.bytes<=281474976710656:=by rw[i];omega
 have L:=Lib.run_append_grow_zeros (P:=P) w t W ty e Z zv kq kq E F h G none 0 0 _ I k C (by omega) (by omega) (by omega) J (growslice_fits (by omega) (by rw[i];simpa using D));have m:=grownCap_ge w (0+k) 0 e;have o:grownCap w (0+k) 0 e<=maxLen:=grownCap_le_maxLen w (0+k) 0 e (by simp only[maxLen];omega);have M:(execOp a.eval ⟨d,.call {callee:=.builtin .append,args:=#[x,y],argTypes:=#[t,W]},ty,pos,aft,gd⟩).run P w= .ok (.value (.slice (some ⟨w.heap.size,0,none⟩) (0+k) (grownCap w (0+k) 0 e)))
  (w.drew.alloc (.cells (#[]++Builtin.zeroCells zv.cells k++Builtin.zeroCells zv.cells (grownCap w (0+k) 0 e - (0+k))) e)):=by
  simp[execOp,resolve,invoke,builtin,l.eval A,l.eval B,L]
 unfold Oper.wp;rw[M];refine hK (.slice (some ⟨w.heap.size,0,none⟩) (0+k) (grownCap w (0+k) 0 e)) _ ?_;have N:Chg w (w.drew.alloc (.cells (#[]++Builtin.zeroCells zv.cells k++Builtin.zeroCells zv.cells (grownCap w (0+k) 0 e - (0+k))) e)) []:=⟨rfl,rfl,rfl,by simp,λj O _=>heap_alloc_old w.drew _ O⟩;have V:(Builtin.zeroCells zv.cells k).toList=(Bh k z).flatMap Flat.vals:=by rw[<-zqT z k,c,<-u];simp[Builtin.zeroCells,madeCells,g]
 refine H.add N _ [w.heap.size] ?_ (by simp) (by simp);show Ow _ _ (.sl (Enc.sz α) (Bh k z).length ((Bh k z).flatMap Enc.enc)) [w.heap.size];rw[Cg];have R:(0+k)=k:=By k;rw[R]at m o |-
 refine .row w.heap.size k _ e (Enc.sz α) _ ((Bh k z).flatMap Flat.vals) _ [] (heap_alloc_new w.drew _) m o ?_ ?_ (Ows.of_vals (zbb _))
 ·rw[Bw,Bw,size_zeroCells,size_zeroCells,g,c];have:(#[]:Array Value).size=0:=rfl;rw[this,By,<-Bf];simp_all
 ·have hl:((Bh k z).flatMap (Flat.vals (α:=α))).length=k*Enc.sz α:=by rw[z7,Cg]
  simp_all
def Ef.overlaps {d:Option Nat} {f:FuncId} {fn:Func} {x y:Operand} {t tr e sz by_ b o la ca c g lb cb bt bt2:Nat} {ats:Array TypeId} {cur cur2:List Value} (p q:Nat) (l:P.funcs[f]? =some fn) (m:(fn.name == "runtime.NumGoroutine")=false) (s:fn.body.isNone=true) (u:Extern.findNext fn=none) (v:Extern.find fn=some (Extern.SlicesOverlaps.overlaps #[t,t] #[tr])) (z:elemB P t=some (e,sz,by_)) (A:ev fr x=some (.slice (some ⟨b,o,none⟩) la ca)) (B:ev fr y=some (.slice (some ⟨c,g,none⟩) lb cb)) (C:b≠c) (D:is[p]? =some (.box b bt cur)) (E:is[q]? =some (.box c bt2 cur2)) (hl:cur2≠[]):
    Ef P w0 S0 n fr is ⟨d,.call {callee:=.value (.func f),args:=#[x,y],argTypes:=ats},ty,pos,aft,gd⟩ (λ_:Unit=>.bool false) (λ_=>is):=by
 obtain ⟨F,ti,G,M,N⟩:=zC z;intro a w K Q j h hK;have i:=zem h D;have H:=zem h E;have hs: ∀w,(Go.sizeOf e).run P w= .ok ti.size w:=λw=>by simp[sizeOf,typeInfo,G]
 have I:=Lib.run_overlaps_apart (P:=P) w t tr e F ti.size hs ⟨b,o,none⟩ ⟨c,g,none⟩ la ca lb cb C bt bt2 cur.length cur2.length
  (by simp[World.shape?,i]) (by simp[World.shape?,H]) (by simpa using hl) (by simp[World.frozen?,i]) (by simp[World.frozen?,i])
 have J:(execOp a.eval ⟨d,.call {callee:=.value (.func f),args:=#[x,y],argTypes:=ats},ty,pos,aft,gd⟩).run P w= .ok (.value (.bool false)) w:=by have k:=run_callFunc_extern l m s u v #[.slice (some ⟨b,o,none⟩) la ca,.slice (some ⟨c,g,none⟩) lb cb] w;rw[I]at k;simp only[Result.andThen_ok]at k;have L:a.eval (.func f)= .func (.func f) #[] #[]:=rfl;simp[execOp,resolve,L,Deferred.ofValue,invoke,j.eval A,j.eval B];trivial
 unfold Oper.wp;rw[J];exact hK () w h
end
end Go.Proofs.YtmenicbkddagmaaGreat.Sl
end
section
open Nat renaming le_refl->An
open List renaming toList_toArray->Ba
open Array renaming length_toList->Bf
namespace Go.Proofs.YtmenicbkddagmaaGreat.Sl
open Go Go.RowKit
variable {α:Type} {k t b s sz:Nat} {l:List α} {x:Operand}
def nn (q:Int):Option Unit:=if q<0 then none else some ()
def nn_ge {q:Int} {u:Unit} (h:nn q=some u):0<=q:=by unfold nn at h;simp_all
def lenIs (n:Nat) (l:List α):Option Unit:=if l.length=n then some () else none
def zju {n:Nat} {u:Unit} (h:lenIs n l=some u):l.length=n:=by unfold lenIs at h;simp_all
structure Wrd where
 v:Int
deriving DecidableEq
instance:Enc Wrd:=⟨1,λx=>[.int .u32 x.v],λ_=>rfl,Nat.one_pos⟩
instance:Flat Wrd:={vals:=λx=>[.int .u32 x.v],flat:=λ_=>rfl}
def arrV [Flat α] (l:List α):Value:=.agg (l.flatMap Flat.vals).toArray
def arrS (b n:Nat):Value:=.slice (some ⟨b,0,none⟩) n n
def arrB (P:Program) (t:TypeId):Option (Nat × TypeId × Nat):=match P.underlying t with
 | some (.array n e)=>(P.info? e).map λi=>(n,e,i.size)
 | _=>none
def zl5 {P:Program} {t:TypeId} {n:Nat} {e:TypeId} (h:arrB P t=some (n,e,sz)):P.underlying t=some (.array n e)/\∃i,P.info? e=some i/\i.size=sz:=by
 unfold arrB at h;split at h
 ·rename_i B A a;cases hi:P.info? A with
  | none=>rw[hi]at h;cases h
  | some i=>simp_all
 ·cases h
section
variable {P:Program} {w0:World} {S0:List Nat} {R:Type} {m:Option R} {n:Nat} {fr:Fr} {is:List Item} {Q:R->Exit->Act->World->Prop}
variable {dst:Option Nat} {ty:TypeId} {pos:String} {aft:Array Edge} {gd:Option (Nat × Bool)}
def Gh.arr [Flat α] {vs:List Value} (l:List α) (hl:l.flatMap Flat.vals=vs) (a:l.length=k) (c:k<=maxLen):Gh w0 S0 (.box b t vs::is) (λ_:Unit=>.own (arrS b k) (lc l)::is):=by
 intro w hs;refine ⟨(),?_⟩;obtain ⟨os,tape,output,size,base,S,⟨A,B,rfl,⟨rfl,d⟩,h⟩,e,f⟩:=hs;refine ⟨os,tape,output,size,base,[b]++B,⟨[b],B,rfl,?_,h⟩,e,f⟩;subst hl a;show Ow w (arrS b l.length) (.sl (Enc.sz α) l.length (l.flatMap Enc.enc)) [b];refine .row b l.length l.length t _ _ (l.flatMap Flat.vals) _ [] d (An _) c ?_ ?_ (Ows.of_vals (zbb _))
 ·rw[List.size_toArray,z7];exact An _
 ·rw[Ba,List.take_of_length_le (by rw[z7];exact An _)]
def Ef.allocArr [Flat α] (l:List α) (c:zeroB P t=some (arrV l)) (d:l.length=k) (e:k<=maxLen):
    Ef P w0 S0 n fr is ⟨dst,.alloc t,ty,pos,aft,gd⟩ (λb:Nat=>.pointer (some ⟨b,0,none⟩)) (λb=>.own (arrS b k) (lc l)::is):=by intro a w K Q f hs A;refine Ef.alloc (zs:=l.flatMap Flat.vals) c rfl a w K Q f hs λb w' hs'=>A b w' ?_;obtain ⟨_,h⟩:=Gh.arr l rfl d e w' hs';exact h
def Y.index_arr {y:Operand} {e:Nat} {E:IntKind} {i:Int} {sz':Nat} {cs':List C} {z:α} (f:arrB P t=some (k,e,sz)) (g:Can w0 S0 is (arrS b k) (.sl sz' l.length cs')) (hi:idx l i=some z) (h:ev fr x=some (.pointer (some ⟨b,0,none⟩))) (j:ev fr y=some (.int E i)):
    Y P w0 S0 n fr is ⟨dst,.indexAddr t x y,ty,pos,aft,gd⟩ (elP (arrS b k) (i.toNat*sz+0)):=by
 obtain ⟨m,F,o,p⟩:=zl5 f;obtain ⟨q,u,v⟩:=zbP hi;intro a w c hs;have A:l.length=k:=by
  rcases g.row hs with ⟨B,_,d⟩ | ⟨D,cap,vs,S,d,_⟩
  ·omega
  ·unfold arrS at d;simp_all
 have s:i<(k:Int):=by omega
 simp[execOp,c.eval h,c.eval j,Instr.indexAt,Instr.sureAddr,run_underlying m,asIntOf,q,s,sizeOf,typeInfo,o,p,elP,arrS]
def zqE [Flat α] {w:World} (c:Can w0 S0 is (arrS b k) (lc l)) (hs:St w0 S0 is w) (e:0<k):
    l.length=k/\∀j,j<(l.flatMap (Flat.vals (α:=α))).length->w.cell? ((⟨b,0,none⟩:Addr).add j)=(l.flatMap Flat.vals)[j]?:=by
 rcases c.row hs with ⟨f,_,a⟩ | ⟨g,cap,vs,S,a,h,i,m,d⟩
 ·cases a
 ·unfold arrS at a;cases a;have n:=d.vals (zbb l);simp_all
def Y.load_arr [Flat α] (c:kindB P t=some (true,s)) (hs':k*Enc.sz α=s) (d:0<k) (e:Can w0 S0 is (arrS b k) (lc l)) (f:ev fr x=some (.pointer (some ⟨b,0,none⟩))):
    Y P w0 S0 n fr is ⟨dst,.load t x,ty,pos,aft,gd⟩ (arrV l):=by intro a w g hs;obtain ⟨h,i⟩:=zqE e hs d;have:=zci (P:=P) (v:=arrV l) c i (.inl ⟨rfl,by rw[z7,h,hs'],rfl⟩);simp[execOp,g.eval f,Instr.loadAt,Instr.sureAddr,this]
def zwI [Flat α] (l:List α): ∀u∈l.flatMap (Flat.vals (α:=α)),u.oneCell'=true:=by
 have: ∀w:World,Ows w (l.flatMap (Flat.vals (α:=α))) (l.flatMap Enc.enc) []:=λw=>Ows.of_vals (zbb l);intro u a;obtain ⟨x,f,a⟩:=List.mem_flatMap.1 a;have e: ∀{cs:List C} {vs:List Value},valsC cs=some vs->∀u∈vs,u.oneCell'=true:=by
  intro cs;induction cs with
  | nil=>intro vs h u a;simp[valsC]at h;subst h;cases a
  | cons c cs ih=>
    intro vs h u a;unfold valsC at h;cases b:valC c with
    | none=>rw[b]at h;simp at h
    | some v=>
      cases d:valsC cs with
      | none=>rw[b,d]at h;simp at h
      | some r=>
        rw[b,d]at h;simp at h;subst h;rcases List.mem_cons.1 a with rfl | a
        ·exact zjJ b
        ·simp_all
 exact e (Flat.flat x) u a
def Ef.store_arr [Flat α] {y:Operand} {l':List α} (i:Nat) (p:kindB P t=some (true,s)) (hs':k*Enc.sz α=s) (J:0<k) (hl:l'.length=k) (hi:is[i]? =some (.own (arrS b k) (lc l))) (d:ev fr x=some (.pointer (some ⟨b,0,none⟩))) (q:ev fr y=some (arrV l')) {is':List Item} (u:is.set i (.own (arrS b k) (lc l'))=is'):
    Ef P w0 S0 n fr is ⟨none,.store t x y,ty,pos,aft,gd⟩ (λ_:Unit=>undef) (λ_=>is'):=by
 intro a w K Q g h hK;obtain ⟨Z,W,_⟩:=zcc hi h.own.choose_spec.1;have z: ∃cur V,w.heap[b]? =some (.cells cur V (0,0))/\l.length=k/\k<=maxLen/\k*Enc.sz α<=cur.size:=by
  have N:Ow w (arrS b k) (.sl (Enc.sz α) l.length (l.flatMap Enc.enc)) Z:=W;unfold arrS at N;generalize j:l.flatMap (Enc.enc (α:=α))=cs at N;generalize B:l.length=ln at N;cases N with
  | row b n cap e sz cur vs cs S c C m hs D o=>exact ⟨cur,e,c,rfl,m,hs⟩
 obtain ⟨cur,V,c,L,E,j⟩:=z;have f:(l'.flatMap (Flat.vals (α:=α))).length=k*Enc.sz α:=by rw[z7,hl]
 have F:=zeY (P:=P) (off:=0) (v:=arrV l') (us:=l'.flatMap Flat.vals) p c rfl (by rw[f,hs'];simp) (zwI l') (by rw[f];omega);have G:(execOp a.eval ⟨none,.store t x y,ty,pos,aft,gd⟩).run P w= .ok .skip (w.setRow b (splice cur.toList 0 (l'.flatMap Flat.vals)).toArray):=by simp[execOp,g.eval d,g.eval q,Instr.storeAt,Instr.sureAddr,F]
 have H:(splice cur.toList 0 (l'.flatMap (Flat.vals (α:=α)))).length=cur.size:=by rw[zgo _ _ _ (by simp only[Bf];omega),Bf]
 unfold Oper.wp;rw[G];refine hK () _ ?_;subst u;refine h.upd hi λA hA M=>?_;have U:A= [b]:=by
  have O:Ow w (arrS b k) (.sl (Enc.sz α) l.length (l.flatMap Enc.enc)) A:=hA;unfold arrS at O;generalize I:l.flatMap (Enc.enc (α:=α))=cs at O;generalize B:l.length=ln at O;cases O with
  | row b n cap e sz cur vs cs S c C m hs D o=>subst I;rw[o.noS (zbb l)]
 refine ⟨[b],?_,?_,by simp,λx d=>.inl (by rw[U];exact d)⟩
 ·rw[U];exact Chg.setRow w b _
 ·show Ow _ (arrS b k) (.sl (Enc.sz α) l'.length (l'.flatMap Enc.enc)) [b];rw[hl];refine .row b k k V (Enc.sz α) _ (l'.flatMap Flat.vals) _ [] (setRow_heap w b _ _ V _ c) (An _) E (by simpa[H] using j) ?_ (Ows.of_vals (zbb _));rw[Ba,<-f];unfold splice;simp
def zvi {t:TypeId} {ag:Bool} (a:kindB P t=some (ag,s)) (w:World):(isAgg t).run P w= .ok ag w:=by obtain ⟨d,i,b,hi,c,e⟩:=zhc a;simp_all
def Y.idx_arr {y:Operand} {e:Nat} {B:IntKind} {i:Int} {l:List Wrd} {z:Wrd} (c:arrB P t=some (k,e,1)) (d:kindB P e=some (false,1)) (hl:l.length=k) (hi:idx l i=some z) (f:ev fr x=some (arrV l)) (g:ev fr y=some (.int B i)):Y P w0 S0 n fr is ⟨dst,.index t x y,ty,pos,aft,gd⟩ (.int .u32 z.v):=by
 obtain ⟨h,D,j,m⟩:=zl5 c;obtain ⟨o,A,p⟩:=zbP hi;intro a w b hs;have q:i<(k:Int):=by omega
 have s: ∀l:List Wrd,l.flatMap (Flat.vals (α:=Wrd))=l.map λx=>Value.int .u32 x.v:=by
  intro l;induction l with
  | nil=>rfl
  | cons x l ih=>rw[List.flatMap_cons,ih];rfl
 have u:(l.flatMap (Flat.vals (α:=Wrd)))[i.toNat]? =some (.int .u32 z.v):=by rw[s,List.getElem?_map,p];rfl
 simp[execOp,b.eval f,b.eval g,Instr.index,run_underlying h,asIntOf,o,q,sizeOf,typeInfo,j,m,arrV,Go.part,zvi d,u]
def zoD {f g:Nat->Option (Nat × Nat)} : ∀{ps:List (Nat × Value)} {cur:Array Value},(∀p∈ps,f p.1=g p.1)->Instr.fill f cur ps=Instr.fill g cur ps
 | [],_,_=>rfl
 | (i,v)::ps,cur,h=>by
   simp only[Instr.fill];rw[h (i,v) (.head _)];cases g i with
   | none=>rfl
   | some x=>
     simp only;split
     ·rfl
     ·exact zoD λp a=>h p (.tail _ a)
def Y.build_arr {t:TypeId} {e:Nat} {ps:List (Nat × Operand)} {zs cells:List Value} {v:Value} (qs:List (Nat × List Value)) (b:arrB P t=some (k,e,sz)) (c:zeroB P t=some (.agg zs.toArray)) (d:Parts w0 S0 is fr ps qs) (f:ps.all (λp=>Nat.blt p.1 k)=true) (g:fills ((List.range k).map λi=>(i*sz,sz)) zs qs=some cells) (h:Value.agg cells.toArray=v):Y P w0 S0 n fr is ⟨dst,.build t ps.toArray,ty,pos,aft,gd⟩ v:=by
 obtain ⟨j,A,l,m⟩:=zl5 b;intro a w o hs;subst h;have q:=znR (place:=(List.range k).map λi=>(i*sz,sz)) o hs d g;have s:Instr.fill (λi=>some (i*sz,sz)) zs.toArray (ps.map λ(i,x)=>(i,a.eval x))=some cells.toArray:=by rw[<-q];refine zoD λp u=>?_;obtain ⟨⟨i,x⟩,y,rfl⟩:=List.mem_map.1 u;have:=List.all_eq_true.1 f _ y;simp_all
 have z:(Instr.build t (ps.toArray.map λ(i,x)=>(i,a.eval x))).run P w= .ok (.agg cells.toArray) w:=by simp only[Instr.build,Sem.run_bind,zgL c,run_underlying j,Result.andThen_ok,sizeOf,typeInfo,run_program,l,Sem.run_pure,m,Value.cells,List.map_toArray,s]
 simp only[execOp,Sem.run_bind,z,Result.andThen_ok,Sem.run_pure]
def RV.cell_arr [Flat α] {p i:Nat} {r:List ResultVar} {vs:List Value} (a:lk p fr=some (.pointer (some ⟨b,0,none⟩))) (c:is[i]? =some (.own (arrS b k) (lc l))) (d:kindB P t=some (true,s)) (e:k*Enc.sz α=s) (f:0<k) (h:RV P fr is r vs):RV P fr is (.cell p t::r) (arrV l::vs):=
 ⟨⟨_,a,λw0 S0 w hs=>by obtain ⟨g,j⟩:=zqE (Can.own i c) hs f;exact zci (P:=P) (v:=arrV l) d j (.inl ⟨rfl,by rw[z7,g,e],rfl⟩)⟩,h⟩
end
end Go.Proofs.YtmenicbkddagmaaGreat.Sl
end
section
open Option.some renaming injEq->An
open List renaming eq_nil_of_length_eq_zero->Ba,length_append->Bl
open BitVec renaming ofInt->Bf
open Nat renaming zero_le->Bh,mul_one->Bm
namespace Go.Proofs.YtmenicbkddagmaaGreat.Sl
open Go RowKit
variable {e t k t2:Nat} {x:Operand} {v:Value} {l:List UInt8} {w:World} {t':TypeId} {is':List Item} {d:Option Nat} {b:Addr} {vs:List Value}
section
variable {P:Program} {w0:World} {S0:List Nat} {n:Nat} {fr:Fr} {is:List Item} {dst:Option Nat} {ty:TypeId} {pos:String} {aft:Array Edge} {gd:Option (Nat × Bool)}
def append_room_str {t u e D:TypeId} {i:TypeInfo} (b:P.underlying t=some (.slice e)) (c:P.underlying u=some .string) (hi:P.info? e=some i) (d:i.size=1) (g A B:Nat) (cur:Array Value) (f:w.heap[g]? =some (.cells cur D (0,0))) (s:ByteArray) (h:A+s.size<=B) (j:A+s.size<=cur.size):
    (Builtin.append_ #[t,u] ty #[.slice (some ⟨g,0,none⟩) A B,.string s]).run P w=
      .ok (.slice (some ⟨g,0,none⟩) (A+s.size) B) (w.setRow g (cur.toList.take A++Lib.strCells s++cur.toList.drop (A+s.size)).toArray):=by have k:=Lib.run_firstCells_string (P:=P) w 1 s;have a:=run_storeCells_at P g A D (Lib.strCells s) 0 cur w f (by simpa[Lib.strCells_length] using j) (Lib.strCells_oneCell s);simp only[Nat.add_zero,Lib.strCells_length]at a;simp[Builtin.append_,run_underlying b,run_underlying c,sizeOf,typeInfo,hi,d,Builtin.lenOf,h,k,Addr.add_lit,a]
theorem append_str_raw {t u e:TypeId} {U:TypeInfo} (c:P.underlying t=some (.slice e)) (d:P.underlying u=some .string) (f:P.info? e=some U) (l:U.zero=some (.int .u8 0)) (m:U.size=1) (o:U.bytes=1) {n:Nat} {us:List Value} (h:w.ownsRow 0 e 1 v n us) (s:ByteArray) (y:n+s.size<=9223372036854775807) (p:n+s.size<=140737488355328):
 ∃V w',(Builtin.append_ #[t,u] ty #[v,.string s]).run P w= .ok V w'/\w'.ownsRow 0 e 1 V (n+s.size) (us++Lib.strCells s)/\w.grownBy w' v.ownBlock/\∀b∈V.ownBlock.toList,b∈v.ownBlock.toList\/w.heap.size<=b:=by
 rcases h.2 with ⟨rfl,rfl⟩ | ⟨g,cap,cur,rfl,_,z,K,D,E,L⟩
 ·have F:us= []:=Ba (by simpa using h.1);subst F;obtain ⟨V,w',A,G,H,M⟩:=Lib.run_append_own_string (P:=P) w 0 t u ty e U c d f l m o (.slice none 0 0) 0 [] (World.ownsRow_nil w 0 e 1) s (by simp only[maxLen];exact y) p (Bh _);refine ⟨V,w',A,G,H,?_⟩;intro b hb';have i:=zhf hb';by_cases N:s.size=0
  ·simp_all
  ·have a:=run_append_nil_string (P:=P) w t u ty e U (.int .u8 0) c d f l s (by omega) (by omega) (by rw[o];omega);rw[A]at a;simp only[Result.ok.injEq]at a;rw[a.1]at i;simp only[Value.ownBlock,An]at i;omega
 ·have q:us.length=n:=by simpa using h.1
  have B:(us++Lib.strCells s).length=(n+s.size)*1:=by rw[Bl,q,Lib.strCells_length,Bm]
  by_cases C:n+s.size<=cap
  ·have O:cur.size=cap:=by simpa using E
   have a:=append_room_str (P:=P) (ty:=ty) c d f m g n cap cur z s C (by omega);refine ⟨_,_,a,⟨B,.inr ⟨g,cap,_,rfl,Bh _,setRow_heap w g cur _ e _ z,C,D,?_,?_⟩⟩,⟨rfl,rfl,rfl,by simp,λk _ x=>setRow_other w g k _ (λe=>x (by simp[Value.ownBlock,e]))⟩,λb p=>.inl p⟩
   ·grind
   ·grind
  ·have I: ∀j u,us[j]? =some u->w.cell? ((⟨g,0,none⟩:Addr).add j)=some u:=h.cells (g:=g) rfl;have a:=Lib.run_append_grow_string (P:=P) w t u ty e U (.int .u8 0) c d f l ⟨g,0,none⟩ n cap us (by rw[m];simpa using q) I s (by omega) (by omega) (by rw[o];exact growslice_fits (by omega) (by omega));refine ⟨_,_,a,⟨B,.inr ⟨w.heap.size,_,_,rfl,Bh _,heap_alloc_new w.drew _,grownCap_ge w (n+s.size) cap e,grownCap_le_maxLen w (n+s.size) cap e (by simp only[maxLen];exact y),?_,?_⟩⟩,⟨rfl,rfl,rfl,by simp,λk x _=>heap_alloc_old w.drew _ x⟩,λb hb'=>?_⟩
   ·have Q:=grownCap_ge w (n+s.size) cap e;have J:(Value.int IntKind.u8 0).cells.size=1:=rfl;simp only[Array.size_append,List.size_toArray,size_zeroCells,J,q,Lib.strCells_length];omega
   ·grind
   ·have i:=zhf hb';simp only[Value.ownBlock,An]at i;omega
def Buf.own {e:TypeId} {S:List Nat} (h:Buf w v e l S):w.ownsRow 0 e 1 v l.length (l.map λx=>Value.int .u8 x.toNat)/\S=v.ownBlock.toList:=by
 rcases h with ⟨rfl,rfl,rfl⟩ | ⟨g,cap,cur,rfl,a,b,c,f,d,rfl⟩
 ·exact ⟨World.ownsRow_nil w 0 e 1,rfl⟩
 ·refine ⟨⟨by simp,.inr ⟨g,cap,cur,rfl,Bh _,a,b,c,by omega,by rw[Bm];exact d⟩⟩,rfl⟩
def Buf.of_own {e:TypeId} (h:w.ownsRow 0 e 1 v l.length (l.map λx=>Value.int .u8 x.toNat)):Buf w v e l v.ownBlock.toList:=by
 rcases h.2 with ⟨rfl,b⟩ | ⟨g,cap,cur,rfl,_,c,d,f,i,a⟩
 ·exact .inl ⟨rfl,Ba b,rfl⟩
 ·refine .inr ⟨g,cap,cur,rfl,c,d,f,by omega,by rw[Bm]at a;exact a,rfl⟩
theorem append_go_str {k r:List UInt8} (hs':St w0 S0 (.buf v e l::is') w) (j:app 1 l k=some r) (m:elemB P t=some (e,1,1)) (g:isStrB P t2=true) (d:zeroB P e=some (.int .u8 0)):
 ∃N w',(Builtin.append_ #[t,t2] ty #[v,strV k]).run P w= .ok N w'/\St w0 S0 (.buf N e r::is') w':=by
 obtain ⟨n,ti,h,o,p⟩:=zC m;have s:P.underlying t2=some .string:=by unfold isStrB at g;split at g<;>simp_all
 obtain ⟨rfl,I,u⟩:=zku j;have y:ti.zero=some (.int .u8 0):=by unfold zeroB at d;rw[h]at d;simpa using d
 obtain ⟨os,tape,output,size,base,S,hS,z,J⟩:=hs';obtain ⟨A,B,W,hA,hB⟩:=hS;obtain ⟨C,Z⟩:=Buf.own hA;have f:(⟨k.toArray⟩:ByteArray).size=k.length:=by simp[ByteArray.size]
 obtain ⟨N,w',D,i,E,K⟩:=append_str_raw (P:=P) (ty:=ty) n s h y o p C ⟨k.toArray⟩ (by rw[f];exact u) (by rw[f];omega);have F:(l.map λx=>Value.int .u8 x.toNat)++Lib.strCells ⟨k.toArray⟩=(l++k).map λx=>Value.int .u8 x.toNat:=by rw[List.map_append];rfl
 rw[f,F,<-Bl]at i;refine ⟨N,w',D,?_⟩;have G:Buf w' N e (l++k) N.ownBlock.toList:=Buf.of_own i;have L: ∀q:Value,q.ownBlock.toList.Nodup:=by intro q;cases q.ownBlock<;>simp
 obtain ⟨hndA,hndB,H⟩:=List.nodup_append.1 (W ▸ z);have U:=zfA hB;have O: ∀b∈v.ownBlock.toList,b∈A:=λb a=>by rw[Z];exact a
 have c:=Chg.of_grown E A O;refine ⟨c.os.trans os,c.tape.trans tape,c.output.trans output,Nat.le_trans size c.size,?_,N.ownBlock.toList++B,⟨_,B,rfl,G,zgI hB λb a=>c.keep b (U b a) λV=>H b V b a rfl⟩,?_,?_⟩
 ·intro b a M;rw[c.keep b (Nat.lt_of_lt_of_le a size) λV=>?_]
  ·simp_all
  ·grind
 ·grind
 ·grind
def Ef.bufAppend {y:Operand} {k r:List UInt8} (B:List Nat) (c:app 1 l k=some r) (f:elemB P t=some (e,1,1)) (g:isStrB P t2=true) (h:zeroB P e=some (.int .u8 0)) (i:pulls B is=some (.buf v e l::is')) (j:ev fr x=some v) (m:ev fr y=some (strV k)):
    Ef P w0 S0 n fr is ⟨d,.call {callee:=.builtin .append,args:=#[x,y],argTypes:=#[t,t2]},ty,pos,aft,gd⟩ (λA:Value=>A) (λA=>.buf A e r::is'):=by
 intro a w K Q b hs D;obtain ⟨A,w',o,p⟩:=append_go_str (ty:=ty) (hs.pulls B i) c f g h;have q:(execOp a.eval ⟨d,.call {callee:=.builtin .append,args:=#[x,y],argTypes:=#[t,t2]},ty,pos,aft,gd⟩).run P w= .ok (.value A) w':=by simp[execOp,resolve,invoke,builtin,b.eval j,b.eval m,o]
 unfold Oper.wp;rw[q];exact D A w' p
def Ef.bufNew {y:Operand} {k r:List UInt8} (c:app 1 [] k=some r) (f:elemB P t=some (e,1,1)) (g:isStrB P t2=true) (h:zeroB P e=some (.int .u8 0)) (i:ev fr x=some (.slice none 0 0)) (j:ev fr y=some (strV k)):
    Ef P w0 S0 n fr is ⟨d,.call {callee:=.builtin .append,args:=#[x,y],argTypes:=#[t,t2]},ty,pos,aft,gd⟩ (λA:Value=>A) (λA=>.buf A e r::is):=by
 intro a w K Q b hs B;have l:St w0 S0 (.buf (.slice none 0 0) e []::is) w:=hs.add (Chg.refl w []) _ [] (.inl ⟨rfl,rfl,rfl⟩) (by simp) (by simp);obtain ⟨A,w',m,o⟩:=append_go_str (ty:=ty) l c f g h;have p:(execOp a.eval ⟨d,.call {callee:=.builtin .append,args:=#[x,y],argTypes:=#[t,t2]},ty,pos,aft,gd⟩).run P w= .ok (.value A) w':=by simp[execOp,resolve,invoke,builtin,b.eval i,b.eval j,m]
 unfold Oper.wp;rw[p];exact B A w' o
def ixor8 (p q:UInt8):ixor .u8 ((p.toNat:Nat):Int) ((q.toNat:Nat):Int)=(((p ^^^ q).toNat:Nat):Int):=by
 have a:=p.toNat_lt;have b:=q.toNat_lt;have c:=Nat.xor_lt_two_pow (n:=8) a b;unfold ixor;have e:(Bf IntKind.u8.bits ((p.toNat:Nat):Int) ^^^ Bf IntKind.u8.bits ((q.toNat:Nat):Int)).toNat=p.toNat ^^^ q.toNat:=by show (Bf 8 ((p.toNat:Nat):Int) ^^^ Bf 8 ((q.toNat:Nat):Int)).toNat=p.toNat ^^^ q.toNat;simp
 rw[e,UInt8.toNat_xor];simp[IntKind.wrap,IntKind.bits,IntKind.signed];omega
def Y.xor8 {y:Operand} {t:TypeId} {p q:UInt8} (a:ev fr x=some (.int .u8 ((p.toNat:Nat):Int))) (b:ev fr y=some (.int .u8 ((q.toNat:Nat):Int))):
    Y P w0 S0 n fr is ⟨dst,.binOp .xor t x y t',ty,pos,aft,gd⟩ (.int .u8 (((p ^^^ q).toNat:Nat):Int)):=by rw[<-ixor8];exact Y.xor a b
def ptrB (P:Program) (t:TypeId):Option (TypeId × Nat):=match P.underlying t with
 | some (.pointer e)=>(P.info? e).map λi=>(e,i.size)
 | _=>none
def zgG (h:ptrB P t=some (e,k)):P.underlying t=some (.pointer e)/\∃j,P.info? e=some j/\j.size=k:=by
 unfold ptrB at h;split at h
 ·rename_i A b;cases a:P.info? A with
  | none=>rw[a]at h;cases h
  | some j=>simp_all
 ·cases h
def Y.ptr_nil {y:Operand} (h:ptrB P t=some (e,k)) (c:ev fr x=some (.pointer none)) (f:ev fr y=some (.pointer none)):
    Y P w0 S0 n fr is ⟨dst,.binOp .eql t x y t',ty,pos,aft,gd⟩ (.bool true):=by
 obtain ⟨g,j,l,_⟩:=zgG h;intro a w b _;have i: ∀d:Nat,(Op.equalIn (d+1) t (.pointer none) (.pointer none)).run P w= .ok true w:=λd=>by simp[Op.equalIn,run_underlying g]
 simp[execOp,b.eval c,b.eval f,eqGuard,binOp,Op.equal,Op.maxDepth,i 9999]
def Y.ptr_some {y:Operand} (h:ptrB P t=some (e,k)) (f:ev fr x=some (.pointer (some b))) (g:ev fr y=some (.pointer none)):
    Y P w0 S0 n fr is ⟨dst,.binOp .eql t x y t',ty,pos,aft,gd⟩ (.bool false):=by
 obtain ⟨i,j,m,_⟩:=zgG h;intro a w c _;have l: ∀d:Nat,(Op.equalIn (d+1) t (.pointer (some b)) (.pointer none)).run P w= .ok false w:=λd=>by simp[Op.equalIn,run_underlying i]
 simp[execOp,c.eval f,c.eval g,eqGuard,binOp,Op.equal,Op.maxDepth,l 9999]
def Y.ptr_self {y:Operand} (h:ptrB P t=some (e,k)) (d:ev fr x=some (.pointer (some b))) (f:ev fr y=some (.pointer (some b))):
    Y P w0 S0 n fr is ⟨dst,.binOp .neq t x y t',ty,pos,aft,gd⟩ (.bool false):=by obtain ⟨g,j,i,_⟩:=zgG h;intro a w c _;have l:=Lib.run_neq_ptr_same (P:=P) w b g i;simp[execOp,c.eval d,c.eval f,eqGuard,l]
def unsB (P:Program) (t:TypeId):Bool:=match P.underlying t with
 | some .unsafePointer=>true
 | _=>false
def zrj (h:unsB P t=true):P.underlying t=some .unsafePointer:=by unfold unsB at h;split at h<;>simp_all
def zqF {i b:Nat} (hs:St w0 S0 is w) (hi:is[i]? =some (.box b t vs)):w.shape? b=some (t,vs.length):=by have:=zem hs hi;simp[World.shape?,this]
def Y.toUnsafe {A B b:Nat} (i:Nat) (d:ptrB P A=some (e,k)) (c:Nat.beq k 0=false) (f:unsB P B=true) (hi:is[i]? =some (.box b t vs)) (hl:Nat.blt 0 vs.length=true) (g:ev fr x=some (.pointer (some ⟨b,0,none⟩))):Y P w0 S0 n fr is ⟨dst,.convert A B x,ty,pos,aft,gd⟩ (.pointer (some ⟨b,0,none⟩)):=by obtain ⟨h,j,l,m⟩:=zgG d;intro a w o hs;have p:=zqF hs hi;have q:=Lib.run_to_unsafe (P:=P) w ⟨b,0,none⟩ h (zrj f) l (by rw[m];intro e;rw[e]at c;cases c) p (by simpa using hl);simp[execOp,o.eval g,q]
def Y.fromUnsafe {A B b:Nat} (i:Nat) (c:ptrB P B=some (e,k)) (d:unsB P A=true) (hi:is[i]? =some (.box b t vs)) (hl:liesAt P P.depth t (vs.length / P.cellsOf t) 0 e 1=true) (f:ev fr x=some (.pointer (some ⟨b,0,none⟩))):Y P w0 S0 n fr is ⟨dst,.convert A B x,ty,pos,aft,gd⟩ (.pointer (some ⟨b,0,none⟩)):=by obtain ⟨g,j,h,p⟩:=zgG c;intro a w l hs;have m:=zqF hs hi;have o:=Lib.run_from_unsafe (P:=P) w ⟨b,0,none⟩ (zrj d) g h m hl;simp[execOp,l.eval f,o]
def Y.noEscape {f:FuncId} {fn:Func} {ts:Array TypeId} (c:P.funcs[f]? =some fn) (d:(fn.name == "runtime.NumGoroutine")=false) (e:fn.body.isNone=true) (g:Extern.findNext fn=none) (h:Extern.find fn=some Extern.AbiNoEscape.same) (i:ev fr x=some v):Y P w0 S0 n fr is ⟨dst,.call {callee:=.value (.func f),args:=#[x],argTypes:=ts},ty,pos,aft,gd⟩ v:=by
 intro a w j _;have b:=run_callFunc_extern c d e g h #[v] w;rw[Lib.run_noEscape]at b;have k:(callFunc f #[v]).run P w= .ok (.value v) w:=b;obtain rfl:a.eval x=v:=j.eval i;have l:(execOp a.eval ⟨dst,.call {callee:=.value (.func f),args:=#[x],argTypes:=ts},ty,pos,aft,gd⟩).run P w=(callFunc f #[a.eval x]).run P w:=by simp[execOp,resolve,Act.eval,Deferred.ofValue,invoke]
 simp_all
def TW.fact {R:Type} {m:Option R} {Q:R->Exit->Act->World->Prop} {p:Prop} {c:Code} (g: ∀w,St w0 S0 is w->p) (h:p->TW P w0 S0 m n fr is c Q):TW P w0 S0 m n fr is c Q:=
 λr b a w d hs=>h (g w hs) r b a w d hs
theorem zpN {i:Nat} (hs:St w0 S0 is w) (hi:is[i]? =some (.buf v e l)): ∃A,Buf w v e l A:=by
 obtain ⟨_,_,_,_,_,S,h,_,_⟩:=hs;have key: ∀(is:List Item) (i:Nat) (S:List Nat),is[i]? =some (.buf v e l)->sats w is S->∃A,Buf w v e l A:=by
  intro is;induction is with
  | nil=>intro i S hi;simp at hi
  | cons x r ih=>
    intro i S hi h;obtain ⟨A,B,rfl,a,b⟩:=h;cases i with
    | zero=>simp only[List.getElem?_cons_zero,An]at hi;subst hi;exact ⟨A,a⟩
    | succ i=>exact ih i B (by simpa using hi) b
 grind
theorem zuX {i:Nat} (hi:is[i]? =some (.buf v e l)) (hl:l≠[]): ∀w,St w0 S0 is w->∃g c,v= .slice (some ⟨g,0,none⟩) l.length c/\c≠0:=by
 intro w hs;obtain ⟨A,h⟩:=zpN hs hi;rcases h with ⟨_,h,_⟩ | ⟨g,cap,cur,a,b,d,_⟩
 ·trivial
 ·grind
def One.buf {i e:Nat} {v:Value} {l:List UInt8} (hi:is[i]? =some (.buf v e l)):One w0 S0 is v:=by intro w hs;obtain ⟨A,h⟩:=zpN hs hi;rcases h with ⟨rfl,_⟩ | ⟨g,cap,cur,rfl,_⟩<;>rfl
def strOf (l:List UInt8):Option (List UInt8):=if l= [] then none else some l
theorem zwx {r:List UInt8} (h:strOf l=some r):l≠[]/\l=r:=by unfold strOf at h;grind
def Y.sliceData {c:Nat} {ts:Array TypeId} (d:c≠0) (e:ev fr x=some (.slice (some b) k c)):Y P w0 S0 n fr is ⟨dst,.call {callee:=.builtin .unsafeSliceData,args:=#[x],argTypes:=ts},ty,pos,aft,gd⟩ (.pointer (some b)):=by intro a w f _;have g:=Lib.run_unsafeSliceData_row (P:=P) w ts ty b k c d;simp[execOp,resolve,invoke,builtin,f.eval e,g]
def Y.lenV {b:Option Addr} {c sz by_:Nat} (d:elemB P t=some (e,sz,by_)) (f:ev fr x=some (.slice b k c)):Y P w0 S0 n fr is ⟨dst,.call {callee:=.builtin .len,args:=#[x],argTypes:=#[t]},ty,pos,aft,gd⟩ (.int .i64 k):=by obtain ⟨g,_⟩:=zC d;intro a w h _;simp[execOp,resolve,invoke,builtin,h.eval f,Builtin.len_,run_underlying g,goInt]
theorem Ef.takeStr {y:Operand} {g c pt it:Nat} (ks:List Nat) (hl:l≠[]) (v:ptrB P pt=some (e,k)) (z:Nat.beq (P.cellsOf e) 1=true) (B:pulls ks is=some (.buf (.slice (some ⟨g,0,none⟩) l.length c) e l::is')) (C:ev fr x=some (.pointer (some ⟨g,0,none⟩))) (D:ev fr y=some (.int .i64 l.length)):
 Ef P w0 S0 n fr is ⟨d,.call {callee:=.builtin .unsafeString,args:=#[x,y],argTypes:=#[pt,it]},ty,pos,aft,gd⟩ (λ_:Unit=>strV l) (λ_=>is'):=by
 obtain ⟨E,j,m,_⟩:=zgG v;intro a w K Q o hs hK;have hs':=hs.pulls ks B;obtain ⟨A,W⟩:=zpN hs' (i:=0) rfl;rcases W with ⟨h,_⟩ | ⟨g',cap,cur,f,p,O,F,R,G,S⟩
 ·cases h
 ·simp only[Value.slice.injEq,An,Addr.mk.injEq,true_and,and_true]at f;obtain ⟨rfl,rfl⟩:=f;have H:w.shape? g=some (e,cur.size):=by simp[World.shape?,p]
  have I: ∀j x,l[j]? =some x->w.cell? ((⟨g,0,none⟩:Addr).add j)=some (.int .u8 x.toNat):=by
   intro j x s;have J:(⟨g,0,none⟩:Addr).add j=⟨g,j,none⟩:=by unfold Addr.add;split<;>simp_all
   obtain ⟨m,_⟩:=List.getElem?_eq_some_iff.1 s;have t:=congrArg (λq=>q[j]?) G;simp only[List.getElem?_map,s,Option.map_some]at t;rw[List.getElem?_take,if_pos m]at t;rw[J,cell_of_row w g j cur e (0,0) p];simp_all
  have L:l.length<=9223372036854775807:=by simp only[maxLen]at F;omega
  have M:=Lib.run_unsafeString_row (P:=P) w pt it ty e E (Nat.eq_of_beq_eq_true z) g cur.size H l hl (by omega) L I;have N:(execOp a.eval ⟨d,.call {callee:=.builtin .unsafeString,args:=#[x,y],argTypes:=#[pt,it]},ty,pos,aft,gd⟩).run P w= .ok (.value (strV l)) (w.freeze ⟨g,0,none⟩ l.length):=by simp[execOp,resolve,invoke,builtin,o.eval C,o.eval D,M,strV]
  unfold Oper.wp;rw[N];refine hK () _ ?_;refine St.step (is:=[.buf (.slice (some ⟨g,0,none⟩) l.length c) e l]) (js:=[]) (r:=is') hs' λA W T=>⟨[],?_,rfl,List.nodup_nil,λb u=>by cases u⟩;obtain ⟨A1,B1,rfl,Z,hB1⟩:=W;have U:g∈A1:=by
   rcases Z with ⟨h,_⟩ | ⟨g',_,_,f,_,_,_,_,_,rfl⟩
   ·cases h
   ·simp_all
  unfold World.freeze;split
  ·simp_all
  ·refine ⟨rfl,rfl,rfl,by simp,λb u V=>?_⟩;grind
end
end Go.Proofs.YtmenicbkddagmaaGreat.Sl
end
section
open List renaming eq_nil_of_length_eq_zero->An,mem_append->Bf,flatMap_cons->Bl,length_take->Bm,length_set->Bo,drop_zero->Bw
open Nat renaming sub_zero->Ba,eq_of_beq_eq_true->Bh,mul_le_mul_right->By,zero_mul->Bz,beq->Cj,le_trans->Cq
open Option renaming map_some->Bp
open Array renaming getElem?_toList->Bt
open Int renaming toNat_natCast->Cg
namespace Go.Proofs.YtmenicbkddagmaaGreat.Sl
open Go RowKit
variable {v:Value} {sz e by_ i t:Nat} {is':List Item} {α R:Type} {x:Operand} {l z:List α} {hi:Int} {m:Option R} {Q:R->Exit->Act->World->Prop} {xs:List Value} {w:World} {cs:List C}
section
variable {P:Program} {w0:World} {S0:List Nat} {n:Nat} {fr:Fr} {is:List Item} {dst:Option Nat} {ty:TypeId} {pos:String} {aft:Array Edge} {gd:Option (Nat × Bool)}
def scalB (P:Program) (t:TypeId):Option Nat:=match P.underlying t with
 | some (.int _)=>some 0
 | some .bool=>some 1
 | some .string=>some 2
 | _=>none
def fkB (P:Program):Nat->List Field->Option (List Nat)
 | _,[]=>some []
 | o,f::fs=>match f.name != "_" &&Cj f.offset o,scalB P f.type,fkB P (o+1) fs with
   | true,some k,some ks=>some (k::ks)
   | _,_,_=>none
def eqTB (P:Program) (t:TypeId):Option (List Nat):=match P.underlying t with
 | some (.struct fs)=>bif P.stoodInHeld t||P.eqGuardType P.depth t then none else fkB P 0 fs.toList
 | _=>none
inductive EqA:List Nat->List Value->List Value->Bool->Prop
 | nil:EqA [] [] [] true
 | int {ks xs ys b} {k:IntKind} {p q:Int} :EqA ks xs ys b->EqA (0::ks) (.int k p::xs) (.int k q::ys) (decide (p=q)&&b)
 | bool {ks xs ys b} {p q:Bool} :EqA ks xs ys b->EqA (1::ks) (.bool p::xs) (.bool q::ys) (decide (p=q)&&b)
 | str {ks xs ys b} {p q:List UInt8} :EqA ks xs ys b->EqA (2::ks) (strV p::xs) (strV q::ys) (decide (p=q)&&b)
theorem ztj {t:TypeId} {k:Nat} (h:scalB P t=some k):P.plainKey t=true:=by unfold scalB at h;unfold Program.plainKey;grind
theorem zqH {l:List Value} {o:Nat} {x:Value} (h:l.drop o=x::xs):l[o]? =some x/\l.drop (o+1)=xs:=by
 constructor
 ·have:=congrArg (λq=>q[0]?) h;grind
 ·rw[<-List.drop_drop,h];rfl
def zmJ (d:Nat) (w:World) (xs ys:Array Value): ∀(D:List Field) (o:Nat) (J:List Nat) (F G:List Value) (b:Bool),fkB P o D=some J->EqA J F G b->xs.toList.drop o=F->ys.toList.drop o=G->(Op.eqFields (d+1) xs ys D).run P w= .ok b w
 | [],o,J,F,G,b,a,i,j,l=>by simp only[fkB,Option.some.injEq]at a;subst a;cases i;rfl
 | f::D,o,J,F,G,b,a,i,j,l=>by
   unfold fkB at a;split at a
   case h_2=>cases a
   rename_i k E h m q;cases a;simp only[Bool.and_eq_true,bne_iff_ne,ne_eq]at h;obtain ⟨h,s⟩:=h;have n:f.offset=o:=Bh s;have p:=ztj m;have key: ∀(u v:Value) (A B:List Value) (r I:Bool),F=u::A->G=v::B->EqA E A B I->b=(r&&I)->(Op.equalIn (d+1) f.type u v).run P w= .ok r w->(Op.eqFields (d+1) xs ys (f::D)).run P w= .ok b w:=by
    intro u v A B r I t x c V y;subst t x V;obtain ⟨W,O⟩:=zqH j;obtain ⟨Z,U⟩:=zqH l;have M:xs[f.offset]? =some u:=by rw[n,<-Bt];exact W
    have N:ys[f.offset]? =some v:=by rw[n,<-Bt];exact Z
    unfold Op.eqFields;rw[if_pos h];simp only[Sem.run_bind,run_part_plain w p M,run_part_plain w p N,Result.andThen_ok,y];cases r with
    | false=>rfl
    | true=>simp only[Bool.not_true,Bool.false_eq_true,if_false,Bool.true_and];exact zmJ d w xs ys D (o+1) E A B I q c O U
   have e:=m;unfold scalB at e;cases i with
   | int c=>split at e<;>cases e;rename_i ku g;exact key _ _ _ _ _ _ rfl rfl c rfl (by rw[run_equalIn_int w d f.type _ ku _ _ g];congr 1)
   | bool c=>split at e<;>cases e;rename_i g;exact key _ _ _ _ _ _ rfl rfl c rfl (by rw[run_equalIn_bool' w d f.type _ _ g];congr 1)
   | str c=>split at e<;>cases e;rename_i g;exact key _ _ _ _ _ _ rfl rfl c rfl (by rw[strV,strV,run_equalIn_string w d f.type _ _ g,znK,znK,zkv])
def zqf {t:TypeId} {h:List Nat} {ys:List Value} {b:Bool} (a:eqTB P t=some h) (f:EqA h xs ys b) (w:World):(Op.equalIn 10000 t (.agg xs.toArray) (.agg ys.toArray)).run P w= .ok b w/\P.eqGuardType P.depth t=false:=by
 unfold eqTB at a;split at a
 case h_2=>cases a
 rename_i A c;cases hs:P.stoodInHeld t with
 | true=>rw[hs]at a;simp at a
 | false=>
   cases d:P.eqGuardType P.depth t with
   | true=>rw[d]at a;simp at a
   | false=>
     rw[hs,d]at a;simp only[Bool.or_self,cond_false]at a;refine ⟨?_,rfl⟩;have e:P.fieldsOf t=A:=by unfold Program.fieldsOf;rw[c]
     have g:P.underlying t=some (.struct (P.fieldsOf t)):=by rw[e];exact c
     rw[run_equalIn_struct w 9999 t xs.toArray ys.toArray g hs,e];exact zmJ 9998 w xs.toArray ys.toArray A.toList 0 h xs ys b a f rfl rfl
def Y.neqA {y:Operand} {t t':TypeId} {A:List Nat} {ys:List Value} {b:Bool} (d:eqTB P t=some A) (e:EqA A xs ys b) (f:ev fr x=some (.agg xs.toArray)) (g:ev fr y=some (.agg ys.toArray)):
    Y P w0 S0 n fr is ⟨dst,.binOp .neq t x y t',ty,pos,aft,gd⟩ (.bool (!b)):=by intro a w c _;obtain ⟨h,i⟩:=zqf d e w;simp only[execOp,c.eval f,c.eval g,Sem.run_bind,Sem.run_pure,Result.andThen_ok,run_eqGuard_agg w _ t x y _ _ i,run_neq_struct,h]
def byteRoom (s:List UInt8):Option Unit:=if s.length<=140737488355328 then some () else none
def Ef.toBytes {B D:Nat} {s:List UInt8} {z:Unit} (c:byteRoom s=some z) (hs:isStrB P B=true) (h:elemB P D=some (e,sz,by_)) (d:intB P e=some .u8) (i:ev fr x=some (strV s)):
    Ef P w0 S0 n fr is ⟨dst,.convert B D x,ty,pos,aft,gd⟩ (λv:Value=>v) (λv=>.frz v e s::is):=by
 obtain ⟨j,_⟩:=zC h;have hs':P.underlying B=some .string:=by unfold isStrB at hs;split at hs<;>simp_all
 have k:P.underlying e=some (.int .u8):=by unfold intB at d;split at d<;>simp_all
 intro a w K Q l m E;have f:=Lib.run_convert_string_bytes (P:=P) w B D e ⟨s.toArray⟩ hs' j k;have o:(ByteArray.mk s.toArray).size=s.length:=by rw[ByteArray.size_mk'];rfl
 rw[o]at f;have p:=grownCap_ge w s.length 0 e;have q:(execOp a.eval ⟨dst,.convert B D x,ty,pos,aft,gd⟩).run P w= .ok (.value (.slice (some ⟨w.heap.size,0,none⟩) s.length (grownCap w s.length 0 e))) (Lib.bytesWorld w e ⟨s.toArray⟩):=by simp[execOp,l.eval i,strV,f]
 unfold Oper.wp;rw[q];refine E _ _ ?_;refine St.step (is:=[]) (js:=[.frz (.slice (some ⟨w.heap.size,0,none⟩) s.length (grownCap w s.length 0 e)) e s]) (r:=is) m λA F _=>⟨[w.heap.size],?_,?_,by simp,λb c=>.inr (by rw[List.mem_singleton.1 c];exact Nat.le_refl _)⟩
 ·have t:=Lib.bytesWorld_size w e ⟨s.toArray⟩;refine ⟨?_,?_,?_,by omega,λb c _=>Lib.bytesWorld_at_old w e _ b c⟩<;>(unfold Lib.bytesWorld World.freeze;split<;>rfl)
 ·have g:(Lib.bytesCells w e ⟨s.toArray⟩).size=grownCap w s.length 0 e:=by unfold Lib.bytesCells;simp_all
  refine ⟨[w.heap.size],[],rfl,⟨w.heap.size,grownCap w s.length 0 e,Lib.bytesCells w e ⟨s.toArray⟩,rfl,?_,p,g,?_,rfl⟩,rfl⟩
  ·rw[Lib.bytesWorld_at_new,g]
  ·unfold Lib.bytesCells;simp
def zwQ {l:List UInt8} (hs:St w0 S0 is w) (hi:is[i]? =some (.frz v e l)): ∃A,Frz w v e l A:=by obtain ⟨A,h,_⟩:=zcc hi hs.own.choose_spec.1;exact ⟨A,h⟩
def zqN (l:List UInt8):l.map (λx=>Value.int .u8 x.toNat)=l.flatMap (Flat.vals (α:=UInt8)):=by
 induction l with
 | nil=>rfl
 | cons x l ih=>rw[List.map_cons,Bl,ih];rfl
def Can.frz {v:Value} {e:TypeId} {l:List UInt8} (k:Nat) (h:is[k]? =some (.frz v e l)):Can w0 S0 is v (lc l):=by
 intro w S hs _;obtain ⟨A,E,m⟩:=zcc h hs;obtain ⟨g,cap,cur,rfl,c,d,n,f,rfl⟩:=E;obtain ⟨T,F,D⟩:=Ows.rds (Ows.of_vals (w:=w) (zbb l));have B:T= []:=by
  cases T with
  | nil=>rfl
  | cons x T=>exact absurd (D x (by simp)) (by simp)
 subst B;have a:Enc.sz UInt8=1:=rfl;refine ⟨_,.row ⟨g,0,none⟩ l.length cap (Enc.sz UInt8) (l.flatMap Flat.vals) _ [] (by rw[<-zqN];simp[a]) d ?_ F,?_⟩
 ·intro j b;rw[a,Nat.mul_one]at b;have i:(⟨g,0,none⟩:Addr).add j=⟨g,j,none⟩:=by unfold Addr.add;split<;>simp_all
  rw[i,cell_of_row w g j cur e (cap,cap+1) c,<-zqN,<-f,List.getElem?_take,if_pos b];simp
 ·simp_all
def zof {b off ty:Nat} {cur:Array Value} {lo hi:Nat} (c:kindB P ty=some (false,1)) (a:w.heap[b]? =some (.cells cur e (lo,hi))) (n:cur.size<=lo) (f:v.cells= #[v]) (g:v.oneCell'=true) (h:off<cur.size):
    (storeVar ty ⟨b,off,none⟩ v).run P w= .ok () (w.setRow b (cur.setIfInBounds off v)):=by
 obtain ⟨d,i,o,j,k,_⟩:=zhc c;have l:w.cell? ⟨b,off,none⟩=some cur[off]:=by simp[World.cell?,a,h]
 have m:w.frozen? ⟨b,off,none⟩=false:=by simp only[World.frozen?,a,Bool.and_eq_false_iff,decide_eq_false_iff_not];omega
 have p:(store (⟨b,off,none⟩:Addr) v).run P w= .ok () (w.setRow b (cur.setIfInBounds off v)):=by rw[run_store P w _ v _ g,l];simp[m,setCell_eq_setRow w b off cur e (lo,hi) v a]
 have q:(⟨b,off,none⟩:Addr).add 0=⟨b,off,none⟩:=by unfold Addr.add;split<;>simp_all
 simp only[storeVar,Sem.run_bind,sizeOf,typeInfo,run_program,Result.andThen_ok,j,Sem.run_pure,f,k];trivial
theorem Ef.store_frz {y:Operand} {k c:Nat} {l:List UInt8} {z:UInt8} (M:UInt8) (i:Nat) (j:kindB P t=some (false,1)) (hi:is[i]? =some (.frz v e l)) (E:l[k]? =some z) (b:ev fr x=some (elP v (k*sz+c))) (hs:Cj sz 1=true) (m:Cj c 0=true) (o:ev fr y=some (.int .u8 (M.toNat:Int))) (p:is.set i (.frz v e (l.set k M))=is'):
 Ef P w0 S0 n fr is ⟨none,.store t x y,ty,pos,aft,gd⟩ (λ_:Unit=>undef) (λ_=>is'):=by
 obtain rfl:sz=1:=Bh hs;obtain rfl:c=0:=Bh m;intro a w K Q d f V;have F:k<l.length:=by grind
 obtain ⟨W,g,cap,cur,rfl,h,q,s,u,_⟩:=zwQ f hi;have B:k<cur.size:=by omega
 have C:=zof (P:=P) (ty:=t) (off:=k) (v:=.int .u8 (M.toNat:Int)) j h (by omega) rfl rfl B;have D:(execOp a.eval ⟨none,.store t x y,ty,pos,aft,gd⟩).run P w= .ok .skip (w.setRow g (cur.setIfInBounds k (.int .u8 (M.toNat:Int)))):=by simp[execOp,d.eval b,d.eval o,elP,Instr.storeAt,Instr.sureAddr,add_lit,C]
 unfold Oper.wp;rw[D];refine V () _ ?_;subst p;refine f.upd hi λA U G=>?_;have J:A= [g]:=by obtain ⟨Z,N,O,H,_,_,_,_,I⟩:=U;simp_all
 refine ⟨[g],?_,?_,by simp,λx b=>.inl (by rw[J];exact b)⟩
 ·rw[J];exact Chg.setRow w g _
 ·refine ⟨g,cap,cur.setIfInBounds k (.int .u8 (M.toNat:Int)),by rw[Bo],setRow_heap w g cur _ e (cap,cap+1) h,by rw[Bo];exact q,by simpa using s,?_,rfl⟩;rw[Bo,Array.toList_setIfInBounds,List.take_set,u,List.map_set]
def TO.conv {ops:Array Oper} {l:List Oper} (g: ∀w,St w0 S0 is w->St w0 S0 is' w) (h:TO P w0 S0 m n fr is' ops l Q):TO P w0 S0 m n fr is ops l Q:=
 λr b a w c hs=>h r b a w c (g w hs)
def TW.conv {c:Code} (g: ∀w,St w0 S0 is w->St w0 S0 is' w) (h:TW P w0 S0 m n fr is' c Q):TW P w0 S0 m n fr is c Q:=
 λr b a w d hs=>h r b a w d (g w hs)
def TE.conv {e:Exit} (g: ∀w,St w0 S0 is w->St w0 S0 is' w) (h:TE w0 S0 m n fr is' e Q):TE w0 S0 m n fr is e Q:=
 λr b a w c hs=>h r b a w c (g w hs)
def St.alt_new (v:Value) (c:C): ∀w,St w0 S0 is w->St w0 S0 (.alt v c v c::is) w:=
 λw h=>h.add (Chg.refl w []) _ [] (.inr ⟨rfl,rfl,rfl⟩) (by simp) (by simp)
def St.alt_own {c:C} (E:Value) (B:C) (a:is[i]? =some (.own v c)) (d:is.set i (.alt v c E B)=is'): ∀w,St w0 S0 is w->St w0 S0 is' w:=by subst d;intro w h;exact h.upd a λA D e=>⟨A,Chg.refl w _,.inl D,e,λb f=>.inl f⟩
theorem St.cut [Enc α] (a:piece l (0:Int) hi=some z) (d:Enc.sz α=sz) (f:is[i]? =some (.own v (lc l))) (g:is.set i (.own (subV v sz (0:Int).toNat (hi.toNat - (0:Int).toNat)) (lc z))=is'):
 ∀w,St w0 S0 is w->St w0 S0 is' w:=by
 subst d g;obtain ⟨B,C,h,rfl⟩:=zbB a;intro w hs;refine hs.upd f λA O D=>?_;have j:(0:Int).toNat=0:=rfl;rw[j,Ba,Bw];have M:Ow w v (.sl (Enc.sz α) l.length (l.flatMap Enc.enc)) A:=O;generalize k:l.flatMap (Enc.enc (α:=α))=cs at M;generalize m:l.length=ln at M;cases M with
 | nil sz=>
   have hl:l= []:=An m;subst hl;refine ⟨[],Chg.refl w _,?_,List.nodup_nil,by simp⟩;have e:hi.toNat=0:=by have:hi<=((0:Nat):Int):=h;omega
   rw[e];trivial
 | row b n cap e sz cur vs cs S o E p a F c=>
   have q:hi.toNat<=ln:=by omega
   have s:cs=(l.take hi.toNat).flatMap (Enc.enc (α:=α))++(l.drop hi.toNat).flatMap (Enc.enc (α:=α)):=by rw[<-List.flatMap_append,List.take_append_drop,k]
   rw[s]at c;obtain ⟨N,U,rfl,t,_⟩:=c.split;have G:((l.take hi.toNat).flatMap (Enc.enc (α:=α))).length=hi.toNat*Enc.sz α:=by rw[zbj,Bm];simp_all
   have H:hi.toNat*Enc.sz α<=ln*Enc.sz α:=By _ q;refine ⟨b::N,Chg.refl w _,?_,?_,λx I=>.inl ?_⟩
   ·show Ow w (subV _ _ _ _) (.sl (Enc.sz α) (l.take hi.toNat).length ((l.take hi.toNat).flatMap Enc.enc)) (b::N);have u:(l.take hi.toNat).length=hi.toNat:=by rw[Bm];omega
    rw[u];have J:(⟨b,0,none⟩:Addr).add (0*Enc.sz α)=⟨b,0,none⟩:=by rw[Bz];unfold Addr.add;split<;>simp_all
    have y:subV (.slice (some ⟨b,0,none⟩) ln cap) (Enc.sz α) 0 hi.toNat= .slice (some ⟨b,0,none⟩) hi.toNat cap:=by unfold subV;simp_all
    rw[y];refine .row b hi.toNat cap e _ cur (vs.take ((l.take hi.toNat).flatMap (Enc.enc (α:=α))).length) _ N o (by omega) p a ?_ t;grind
   ·grind
   ·grind
def Y.subs_nil {lo:Int} {L H:Option Operand} (hs:piece ([]:List α) lo hi=some z) (b:elemB P t=some (e,sz,by_)) (d:ev fr x=some (.slice none 0 0)) (B:bOp fr L lo 0) (A:bOp fr H hi 0):
    Y P w0 S0 n fr is ⟨dst,.slice t x L H none,ty,pos,aft,gd⟩ (.slice none 0 0):=by
 have h:=Y.subs (P:=P) (w0:=w0) (S0:=S0) (n:=n) (fr:=fr) (is:=is) (dst:=dst) (ty:=ty) (pos:=pos) (aft:=aft) (gd:=gd) (cs:=[]) hs b (sz':=sz) (Can.plain (v:=.slice none 0 0) (c:=.sl sz 0 []) λ_=>.nil _) d B A;obtain ⟨i,j,a,_⟩:=zbB hs;have f:lo.toNat=0:=by simp at a;omega
 have k:hi.toNat - lo.toNat=0:=by simp at a;omega
 rw[f]at h;have g:hi.toNat - 0=0:=by omega
 rw[g]at h;exact h
def Ow.sub_del {n N:Nat} {A:List Nat} (h:Ow w v (.sl sz n cs) A) (sz':Nat):subV v sz' 0 N=delV v N:=by
 cases h with
 | nil=>rfl
 | row b n cap e sz cur vs cs S c d f g i j=>
   have a:(⟨b,0,none⟩:Addr).add (0*sz')=⟨b,0,none⟩:=by rw[Bz];unfold Addr.add;split<;>simp_all
   simp only[subV,delV,Bp,a,Ba,ite_self]
def zwy (v:Value) (sz lo k N:Nat):subV (delV v N) sz lo k=subV v sz lo k:=by unfold delV;cases v<;>rfl
def Ef.clearView [Enc α] {c:Value} {y:Operand} {lo:Int} (f:piece l (0:Int) lo=some z) (m:elemB P t=some (e,sz,by_)) (o:zeroB P e=some c) (p:Enc.sz α=sz) (s:Cj c.cells.size sz=true) (u:c.cells.toList.all (λq=>q.oneCell')=true) (b:is[i]? =some (.own v (lc l))) (g:ev fr y=some (subV v sz lo.toNat ((l.length:Int).toNat - lo.toNat))) (h:is.set i (.own (subV v sz (0:Int).toNat (lo.toNat - (0:Int).toNat)) (lc z))=is'):
    Ef P w0 S0 n fr is ⟨none,.call {callee:=.builtin .clear,args:=#[y],argTypes:=#[t]},ty,pos,aft,gd⟩ (λ_:Unit=>.tuple #[]) (λ_=>is'):=by
 intro a w K Q x d U;have A:=St.cut f p b h w d;have B:=Can.cap (Can.own i b) w d;obtain ⟨G,H,I,C⟩:=zbB f;obtain ⟨O,M,_⟩:=zcc b d.own.choose_spec.1;have j:(0:Int).toNat=0:=rfl;have D:subV v sz (0:Int).toNat (lo.toNat - (0:Int).toNat)=delV v lo.toNat:=by rw[j,Ba];exact Ow.sub_del (show Ow w v (.sl (Enc.sz α) l.length (l.flatMap Enc.enc)) O from M) sz
 have J:z.length=lo.toNat:=by rw[C,j,Bw,Ba,Bm];omega
 have E:is'[i]? =some (.own (delV v lo.toNat) (.sl sz lo.toNat (z.flatMap Enc.enc))):=by subst h;rw[List.getElem?_set_self (List.getElem?_eq_some_iff.1 b).1,D];unfold lc;simp_all
 have F:((l.length:Int)).toNat=l.length:=Cg _;rw[F]at g;exact Ef.clearTail (is:=is') (v:=v) (N:=lo.toNat) (hi:=l.length) (k:=i) B (by omega) m o s u E (by rw[zwy];exact g) a w K Q x A U
def Y.sub_again {y:Operand} {m:Nat} {k:IntKind} (h:is[i]? =some (.own (subV v sz (0:Int).toNat (hi.toNat - (0:Int).toNat)) (.sl sz m cs))) (g:0<=hi) (j:elemB P t=some (e,sz,by_)) (l:ev fr x=some v) (o:ev fr y=some (.int k hi)):
    Y P w0 S0 n fr is ⟨dst,.slice t x none (some y) none,ty,pos,aft,gd⟩ (subV v sz (0:Int).toNat (hi.toNat - (0:Int).toNat)):=by
 obtain ⟨p,O,q,s,_⟩:=zC j;intro a w c d;have u:=Can.cap (Can.own i h) w d;obtain ⟨M,J,_⟩:=zcc h d.own.choose_spec.1;have I:Ow w (subV v sz (0:Int).toNat (hi.toNat - (0:Int).toNat)) (.sl sz m cs) M:=J;have z:(0:Int).toNat=0:=rfl;rw[z,Ba]at I u |-
 cases v with
 | slice A N cap=>
   have B:hi.toNat<=cap:=by
    unfold subV at I;simp only[Ba]at I;generalize (if cap=0 then A else Option.map (λx=>x.add (0*sz)) A)=A' at I;generalize C:hi.toNat=E at I;cases I with
    | nil=>omega
    | row b n cap e sz cur vs cs S C D B F G H=>exact D
   simp[execOp,c.eval l,Instr.sliceAt,Instr.slice,Instr.sliceBounds,Instr.sliceBound,asIntOf,c.eval o,run_underlying p,sizeOf,typeInfo,q,s,subV,g,show hi<=(cap:Int) by omega]
 | _=>exact absurd I (by intro f;unfold subV at f;cases f)
def Y.subs30 {c d:Operand} {sz':Nat} {g h:IntKind} (hs:piece l (0:Int) hi=some z) (o:elemB P t=some (e,sz,by_)) (p:Can w0 S0 is v (.sl sz' l.length cs)) (i:ev fr x=some v) (j:ev fr c=some (.int g hi)) (k:ev fr d=some (.int h l.length)):
    Y P w0 S0 n fr is ⟨dst,.slice t x none (some c) (some d),ty,pos,aft,gd⟩ (sub3V v sz (0:Int).toNat (hi.toNat - (0:Int).toNat) l.length):=by
 obtain ⟨q,J,s,u,_⟩:=zC o;obtain ⟨G,y,B,rfl⟩:=zbB hs;intro a w b C;have H:(0:Int).toNat=0:=rfl;have key: ∀(A:Option Addr) (cap:Nat),l.length<=cap->(Instr.sliceAt t (.slice A l.length cap) none (some (.int g hi)) (some (.int h l.length))).run P w= .ok (sub3V (.slice A l.length cap) sz (0:Int).toNat (hi.toNat - (0:Int).toNat) l.length) w:=by intro A cap f;simp[Instr.sliceAt,Instr.slice,Instr.sliceBounds,Instr.sliceBound,asIntOf,run_underlying q,sizeOf,typeInfo,s,u,sub3V,f,B,show (hi.toNat:Int)=hi by omega,y,show max hi 0=hi by omega]
 rcases p.row C with ⟨D,_,rfl⟩ | ⟨E,cap,vs,S,rfl,f,_⟩
 ·have F:l= []:=An D;subst F;have:=key none 0 (by simp);have m:=b.eval k;have I:(execOp a.eval ⟨dst,.slice t x none (some c) (some d),ty,pos,aft,gd⟩).run P w= .ok (.value (sub3V (.slice none 0 0) sz (0:Int).toNat (hi.toNat - (0:Int).toNat) 0)) w:=by simp only[List.length_nil]at this m;simp only[execOp,b.eval i,b.eval j,m,Bp,Option.map_none,Sem.run_bind,this,Result.andThen_ok,Sem.run_pure]
  trivial
 ·have:=key (some E) cap f;simp[execOp,b.eval i,b.eval j,b.eval k,this]
def St.clip [Enc α] (a:piece l (0:Int) hi=some z) (c:hi=(l.length:Int)) (f:is[i]? =some (.own v (lc l))) (g:is.set i (.own (sub3V v sz (0:Int).toNat (hi.toNat - (0:Int).toNat) l.length) (lc z))=is'):
    ∀w,St w0 S0 is w->St w0 S0 is' w:=by
 subst g c;obtain ⟨_,_,_,rfl⟩:=zbB a;intro w hs;refine hs.upd f λA D h=>⟨A,Chg.refl w A,?_,h,λb j=>.inl j⟩;have k:(0:Int).toNat=0:=rfl;rw[k,Cg,Ba,Bw,List.take_length];have B:Ow w v (.sl (Enc.sz α) l.length (l.flatMap Enc.enc)) A:=D;show Ow w (sub3V v sz 0 l.length l.length) (.sl (Enc.sz α) l.length (l.flatMap Enc.enc)) A;generalize t:l.flatMap (Enc.enc (α:=α))=cs at B |-
 generalize u:l.length=ln at B |-
 cases B with
 | nil sz'=>exact .nil _
 | row b n cap e sz' cur vs cs S c d m a o p=>
   have q:(⟨b,0,none⟩:Addr).add (0*sz)=⟨b,0,none⟩:=by rw[Bz];unfold Addr.add;split<;>simp_all
   have s:sub3V (.slice (some ⟨b,0,none⟩) ln cap) sz 0 ln ln= .slice (some ⟨b,0,none⟩) ln ln:=by simp only[sub3V,Bp,q,Ba,ite_self]
   rw[s];exact .row b ln ln e (Enc.sz α) cur vs cs S c (Nat.le_refl _) (Cq d m) (Cq (By _ d) a) o p
structure Sv where
 v:Value
 h:v.oneCell'=true
instance:Enc Sv:=⟨1,λx=>[.raw x.v],λ_=>rfl,Nat.one_pos⟩
instance:Flat Sv:={vals:=λx=>[x.v],flat:=λx=>by simp[valsC,valC,x.h,Enc.enc]}
def Base.oneCell {v:Value} {c:C} (h:Base w0 S0 v c):v.oneCell'=true:=by obtain ⟨F,A,_⟩:=h;exact A.oneCell
def Bases {α:Type} [Enc α] (w0:World) (S0:List Nat):List Sv->List (List α)->Prop
 | [],[]=>True
 | s::ss,l::ls=>Base w0 S0 s.v (lc l)/\Bases w0 S0 ss ls
 | _,_=>False
def Bases.one [Enc α] (h:Base w0 S0 v (lc l)):Bases w0 S0 [Sv.mk v h.oneCell] [l]:=⟨h,trivial⟩
def Bases.append {α:Type} [Enc α]: ∀{a b:List Sv} {x y:List (List α)},Bases w0 S0 a x->Bases w0 S0 b y->Bases w0 S0 (a++b) (x++y)
 | [],_,[],_,_,h=>h
 | _::_,_,_::_,_,c,d=>⟨c.1,Bases.append c.2 d⟩
 | [],_,_::_,_,h,_=>h.elim
 | _::_,_,[],_,h,_=>h.elim
def Bases.length {α:Type} [Enc α]: ∀{a:List Sv} {x:List (List α)},Bases w0 S0 a x->a.length=x.length
 | [],[],_=>rfl
 | _::_,_::_,h=>by simp[Bases.length h.2]
 | [],_::_,h=>h.elim
 | _::_,[],h=>h.elim
def Rds.bases {α:Type} [Enc α] [Enc (List α)] (e: ∀l:List α,(Enc.enc l:List C)= [lc l]): ∀{vs:List Value} {T:List (List α)} {S:List Nat},Rds w0 vs (T.flatMap Enc.enc) S->(∀b∈S,b∉S0)->∃A:List Sv,Bases w0 S0 A T/\Rds w0 vs (A.flatMap Enc.enc) []
 | vs,[],S,h,_=>by cases h;exact ⟨[],trivial,.nil⟩
 | vs,t::T,S,h,f=>by
   rw[Bl,e]at h;cases h with
   | cons v c B vs cs D a g=>obtain ⟨A,i,j⟩:=Rds.bases e g λb d=>f b (Bf.2 (.inr d));refine ⟨Sv.mk v a.oneCell::A,⟨⟨B,a,λb d=>f b (Bf.2 (.inl d))⟩,i⟩,?_⟩;exact .cons v (.raw v) [] vs _ [] (.raw v a.oneCell) j
def Base.rows [Enc α] [Enc (List α)] (d: ∀l:List α,(Enc.enc l:List C)= [lc l]) {T:List (List α)} (h:Base w0 S0 v (lc T)): ∃A:List Sv,Bases w0 S0 A T/\Base w0 S0 v (lc A):=by
 have e:Enc.sz (List α)=1:=by rw[<-Enc.len ([]:List α),d];rfl
 obtain ⟨F,B,f⟩:=h;have g:(T.flatMap (Enc.enc (α:=List α))).length=T.length:=by rw[zbj,e,Nat.mul_one]
 unfold lc at B;generalize m:T.flatMap (Enc.enc (α:=List α))=cs at B g;generalize i:T.length=k at B g;rw[e]at B;cases B with
 | nil sz=>have:T= []:=An i;subst this;exact ⟨[],trivial,[],.nil _,by simp⟩
 | row a n cap sz vs cs S hl o p q=>
   subst m;obtain ⟨A,j,s⟩:=Rds.bases (S0:=S0) d q λb c=>f b (Bf.2 (.inr c));refine ⟨A,j,(if k*1=0 then [] else [a.block])++ [],?_,λb c=>f b (Bf.2 (.inl (by rwa [List.append_nil]at c)))⟩;have t:A.length=k:=by rw[j.length,i]
   show Rd w0 _ (.sl 1 A.length _) _;rw[t];exact .row a k cap 1 vs _ [] hl o p s
def Bases.rds {α:Type} [Enc α] [Enc (List α)] (d: ∀l:List α,(Enc.enc l:List C)= [lc l]) {w:World} (e: ∀b,b<w0.heap.size->b∉S0->w.heap[b]? =w0.heap[b]?):
    ∀{B:List Sv} {T:List (List α)},Bases w0 S0 B T->∃F,Rds w (B.map Sv.v) (T.flatMap Enc.enc) F/\∀b∈F,b<w0.heap.size/\b∉S0
 | [],[],_=>⟨[],.nil,by simp⟩
 | s::ss,l::ls,h=>by
   obtain ⟨F,g,i⟩:=Bases.rds d e h.2
   obtain ⟨G,a,f⟩:=h.1
   rw[Bl,d]
   refine ⟨G++F,.cons s.v (lc l) G _ _ F (a.keep λb A=>e b (a.lt b A) (f b A)) g,?_⟩
   intro b A
   rcases Bf.1 A with c | c
   ·exact ⟨a.lt b c,f b c⟩
   ·simp_all
 | [],_::_,h=>h.elim
 | _::_,[],h=>h.elim
def svals: ∀h:List Sv,valsR (h.flatMap Enc.enc)=some (h.map Sv.v)
 | []=>rfl
 | s::ss=>by show valsR (.raw s.v::ss.flatMap Enc.enc)=_;unfold valsR;rw[svals ss];rfl
theorem Can.rows [Enc α] [Enc (List α)] (b: ∀l:List α,(Enc.enc l:List C)= [lc l]) {B:List Sv} {T:List (List α)} (k:Nat) (h:is[k]? =some (.own v (lc B))) (E:Bases w0 S0 B T):Can w0 S0 is v (lc T):=by
 have d:Enc.sz (List α)=1:=by rw[<-Enc.len ([]:List α),b];rfl
 intro w S hs e;obtain ⟨A,G,u⟩:=zcc h hs;obtain ⟨U,I,x⟩:=Ow.rd G;obtain ⟨F,f,y⟩:=Bases.rds b e E;have c:=E.length;have D:Rd w v (.sl 1 B.length (B.flatMap Enc.enc)) U:=I;show ∃F,Rd w v (.sl (Enc.sz (List α)) T.length (T.flatMap Enc.enc)) F/\_;rw[d,<-c];generalize g:B.flatMap (Enc.enc (α:=Sv))=cs at D;generalize i:B.length=m at D;cases D with
 | nil sz=>have j:B= []:=An i;subst j;have o:T= []:=An c.symm;subst o;exact ⟨[],.nil _,by simp⟩
 | row a n cap sz vs cs S hl p q s=>subst g;have t:vs=B.map Sv.v:=s.valsR (svals B);subst t;refine ⟨_,.row a m cap 1 _ _ F hl p q f,?_⟩;grind
def zrT {β:Type} {k:List α} {l' k':List β} (h:app by_ l k=some z) (a:l'.length=l.length) (b:k'.length=k.length):app by_ l' k'=some (l'++k'):=by obtain ⟨_,c,d⟩:=zku h;unfold app;simp_all
def Bases.app {α:Type} [Enc α] {by_:Nat} {a b:List Sv} {x y z:List (List α)} (h:app by_ x y=some z) (c:Bases w0 S0 a x) (d:Bases w0 S0 b y):Bases w0 S0 (a++b) z:=by rw[(zku h).1];exact Bases.append c d
def TA.conv {H:Hd} {ops:Array Oper} {fuel L:Nat} (h: ∀w,St w0 S0 is w->St w0 S0 is' w) (k:TA P w0 S0 m n fr is' H ops fuel L Q):TA P w0 S0 m n fr is H ops fuel L Q:=
 λr b a w c hs=>k r b a w c (h w hs)
end
end Go.Proofs.YtmenicbkddagmaaGreat.Sl
end
section
open List renaming getElem?_eq_getElem->An
open Nat renaming beq->Ba
open Bool renaming and_eq_true->Bf
open UInt8 renaming ofNat->Bh
namespace Go.Proofs.YtmenicbkddagmaaGreat.Sl
open Go Go.RowKit
variable {c:C} {cs:List C}
inductive Ce where
 | int (k:IntKind)
 | bool
 | str
 | sl (sz:Nat) (s:List Ce)
mutual
inductive Fit:Ce->C->Prop
 | int (k:IntKind) (n:Int):(Lit.int k n).wf=true->Fit (.int k) (.int k n)
 | bool (b:Bool):Fit .bool (.bool b)
 | str (s:List UInt8):s.length<=maxLen->Fit .str (.str s)
 | sl (sz n:Nat) (s:List Ce) (cs:List C):n<=maxLen->Rep s n cs->Fit (.sl sz s) (.sl sz n cs)
inductive Fits:List Ce->List C->Prop
 | nil:Fits [] []
 | cons (c:Ce) (d:C) (cs:List Ce) (ds:List C):Fit c d->Fits cs ds->Fits (c::cs) (d::ds)
inductive Rep:List Ce->Nat->List C->Prop
 | nil (s:List Ce):Rep s 0 []
 | cons (s:List Ce) (n:Nat) (c r:List C):Fits s c->Rep s n r->Rep s (n+1) (c++r)
end
def Fits.append {a b:List Ce} {x y:List C} (h:Fits a x) (k:Fits b y):Fits (a++b) (x++y):=by
 induction a generalizing x with
 | nil=>cases h;exact k
 | cons c a ih=>cases h with | cons c d cs ds e f=>exact .cons _ _ _ _ e (ih f)
def fieldsB (P:Program) (r:TypeId->Option (List Ce)) (h:Nat):Nat->List Field->Option (List Ce)
 | off,[]=>bif Ba off h then some [] else none
 | off,f::fs=>bif Ba f.offset off then (match r f.type,fieldsB P r h (off+P.cellsOf f.type) fs with
   | some s,some q=>some (s++q)
   | _,_=>none) else none
def shB (P:Program):Nat->TypeId->Option (List Ce)
 | 0,_=>none
 | n+1,t=>match P.underlying t with
   | some (.int k)=>some [.int k]
   | some .bool=>some [.bool]
   | some .string=>some [.str]
   | some (.slice e)=>(shB P n e).map λs=>[.sl (P.cellsOf e) s]
   | some (.struct fs)=>fieldsB P (shB P n) (P.cellsOf t) 0 fs.toList
   | _=>none
section
variable {H:Type} {enc:TypeId × Value->H} {P:Program} {w:World} {base:Nat} {spare:Nat->Bool} {held:Bool}
theorem zoC {r:TypeId->Option (List Ce)} {cs:List Value} {A:Nat} (hl:cs.length=A): ∀{B:List Field} {off:Nat} {s:List Ce},fieldsB P r A off B=some s->off<=A->
 (∀f∈B,∀s,r f.type=some s->∃D S,Rds w ((cs.drop f.offset).take (P.cellsOf f.type)) D S/\Fits s D)->∃D S,Rds w (cs.drop off) D S/\Fits s D
 | [],off,s,h,j,_=>by
   unfold fieldsB at h;cases a:Ba off A with
   | false=>rw[a]at h;cases h
   | true=>
     rw[a]at h;have:off=A:=by simpa using a
     cases h;subst this;rw[List.drop_of_length_le (by omega)];exact ⟨[],[],.nil,.nil⟩
 | f::B,off,s,h,j,e=>by
   unfold fieldsB at h;cases a:Ba f.offset off with
   | false=>rw[a]at h;cases h
   | true=>
     rw[a]at h;have k:f.offset=off:=by simpa using a
     simp only[cond_true]at h;cases b:r f.type with
     | none=>rw[b]at h;cases h
     | some l=>
       cases d:fieldsB P r A (off+P.cellsOf f.type) B with
       | none=>rw[b,d]at h;cases h
       | some t=>
         rw[b,d]at h;cases h;obtain ⟨E,G,i,m⟩:=e f (by simp) l b;have c:off+P.cellsOf f.type<=A\/A<off+P.cellsOf f.type:=by omega
         rcases c with c | c
         ·obtain ⟨F,I,n,p⟩:=zoC hl d c λg q=>e g (by simp[q]);refine ⟨E++F,G++I,?_,m.append p⟩;rw[k]at i;have:=i.append n;rw[<-List.drop_drop,List.take_append_drop]at this;trivial
         ·exfalso;have key: ∀(B:List Field) (o:Nat) (s:List Ce),fieldsB P r A o B=some s->o<=A:=by
           intro B;induction B with
           | nil=>
             intro o s h;unfold fieldsB at h;cases a:Ba o A with
             | false=>rw[a]at h;cases h
             | true=>have:o=A:=by simpa using a
                     omega
           | cons f B ih=>intro o s h;unfold fieldsB at h;grind
          grind
theorem zqI {a:Addr} {s:List Ce} {sz:Nat} : ∀(n k:Nat),(∀i,i<n->∃us A S,us.length=sz/\(∀j,j<sz->w.cell? (a.add ((k+i)*sz+j))=us[j]?)/\Rds w us A S/\Fits s A)->
 ∃vs A S,vs.length=n*sz/\(∀j,j<n*sz->w.cell? (a.add (k*sz+j))=vs[j]?)/\Rds w vs A S/\Rep s n A
 | 0,k,_=>⟨[],[],[],by simp,λj b=>by simp at b,.nil,.nil s⟩
 | n+1,k,h=>by
   obtain ⟨us,B,E,c,m,d,e⟩:=h 0 (by omega);obtain ⟨vs,D,F,f,o,g,l⟩:=zqI (a:=a) (s:=s) (sz:=sz) n (k+1) λi hi=>by grind
   refine ⟨us++vs,B++D,E++F,by rw[List.length_append,c,f,Nat.succ_mul];omega,?_,d.append g,.cons s n B D e l⟩;grind
theorem zmV: ∀(fuel n:Nat) (t:TypeId) (cs:List Value) (x:DataW H × List MemPlace) (s:List Ce),shB P n t=some s->DataW.trod enc P w base spare held fuel t cs=some x->∃O S,Rds w cs O S/\Fits s O
 | 0,_,_,_,_,_,_,h=>by simp[DataW.trod]at h
 | _,0,_,_,_,_,hs,_=>by simp[shB]at hs
 | fuel+1,n+1,t,cs,x,s,hs,h=>by
   unfold shB at hs;split at hs
   ·rename_i k c;cases hs;obtain ⟨m,rfl,_,g⟩:=DataW.trod_int c h;exact ⟨[.int k m],[]++ [],.cons _ _ _ _ _ _ (.int k m) .nil,.cons _ _ _ _ (.int k m g) .nil⟩
   ·rename_i c;cases hs;obtain ⟨b,rfl,_⟩:=DataW.trod_bool c h;exact ⟨[.bool b],[]++ [],.cons _ _ _ _ _ _ (.bool b) .nil,.cons _ _ _ _ (.bool b) .nil⟩
   ·rename_i c;cases hs;obtain ⟨b,rfl,_,g⟩:=DataW.trod_string c h;obtain ⟨⟨b⟩⟩:=b;exact ⟨[.str b],[]++ [],.cons _ _ _ _ _ _ (.str b) .nil,.cons _ _ _ _ (.str b g) .nil⟩
   ·rename_i e c;cases l:shB P n e with
    | none=>rw[l]at hs;cases hs
    | some U=>
      rw[l]at hs;cases hs;rcases DataW.trod_slice c h with ⟨rfl,_⟩ | ⟨a,len,cap,V,rest,m,q,rfl,_,_,u,K,L,o,_,_⟩
      ·exact ⟨[.sl (P.cellsOf e) 0 []],[]++ [],.cons _ _ _ _ _ _ (.nil _) .nil,.cons _ _ _ _ (.sl _ 0 U [] (by simp[maxLen]) (.nil U)) .nil⟩
      ·obtain rfl:fuel=m:=by omega
       obtain ⟨vs,O,S,v,M,y,z⟩:=zqI (w:=w) (a:=a) (s:=U) (sz:=P.cellsOf e) len 0 λi hi=>by have d:=o i hi;rw[An (by omega)]at d;obtain ⟨us,A,B⟩:=Option.bind_eq_some_iff.1 d;obtain ⟨_,C,D⟩:=World.cells?_some A;obtain ⟨O,S,E,p⟩:=zmV fuel n e us _ U l B;refine ⟨us,O,S,C,λj F=>?_,E,p⟩;rw[<-D j F,add_add,Nat.zero_add]
       refine ⟨[.sl (P.cellsOf e) len O],_++ [],.cons _ _ _ _ _ _ (.row a len cap (P.cellsOf e) vs O S v u ?_ y) .nil,.cons _ _ _ _ (.sl _ len U O (by omega) z) .nil⟩;simp_all
   ·rename_i W c;obtain ⟨xs,m,q,_,G,N,o⟩:=DataW.trod_struct c h;obtain rfl:fuel=m:=by omega
    have:=zoC (w:=w) G hs (Nat.zero_le _) (by
     intro f p U hs';obtain ⟨i,hi⟩:=List.getElem?_of_mem p;have I:W[i]? =some f:=by simpa using hi
     have d:=o i f I;have J:i<xs.length:=by grind
     rw[An J]at d;exact zmV fuel n f.type _ _ U hs' d)
    trivial
   ·trivial
end
def Fits.nil_inv (h:Fits [] cs):cs= []:=by cases h;rfl
def Fits.cons_inv {c:Ce} {s:List Ce} (h:Fits (c::s) cs): ∃d ds,cs=d::ds/\Fit c d/\Fits s ds:=by cases h with | cons c d s ds a b=>exact ⟨d,ds,rfl,a,b⟩
class Dec (α:Type) extends Enc α where
 sh:List Ce
 ok:α->Prop
 dec: ∀cs,Fits sh cs->∃x,cs=enc x/\ok x
def okl {α:Type} [Dec α] (l:List α):Prop:=l.length<=9223372036854775807/\∀x∈l,Dec.ok x
def Fit.int_inv {k:IntKind} (h:Fit (.int k) c): ∃n,c= .int k n/\(Lit.int k n).wf=true:=by cases h;exact ⟨_,rfl,by assumption⟩
def Fit.bool_inv (h:Fit .bool c): ∃b,c= .bool b:=by cases h;exact ⟨_,rfl⟩
def Fit.str_inv (h:Fit .str c): ∃s,c= .str s/\s.length<=9223372036854775807:=by cases h;exact ⟨_,rfl,by assumption⟩
theorem Rep.dec {α:Type} [Dec α]: ∀{n:Nat} {cs:List C},Rep (Dec.sh α) n cs->∃l:List α,l.length=n/\cs=l.flatMap Enc.enc/\∀x∈l,Dec.ok x
 | 0,cs,h=>by cases h;exact ⟨[],rfl,rfl,by simp⟩
 | n+1,cs,h=>by
   cases h with
   | cons s n c r a b=>obtain ⟨x,rfl,d⟩:=Dec.dec _ a;obtain ⟨l,hl,rfl,e⟩:=Rep.dec b;exact ⟨x::l,by simp[hl],rfl,λy f=>by grind⟩
def Fit.sl_inv {α:Type} [Dec α] {sz:Nat} (h:Fit (.sl sz (Dec.sh α)) c) (a:Enc.sz α=sz): ∃l:List α,c=lc l/\okl l:=by
 subst a;cases h with
 | sl sz n s cs b d=>obtain ⟨l,rfl,rfl,e⟩:=d.dec;exact ⟨l,rfl,b,e⟩
def okI (n:Int):Prop:=-9223372036854775808<=n/\n<=9223372036854775807
def zbn {n:Int} (h:(Lit.int .i64 n).wf=true):okI n:=by simp only[Lit.wf,Bf,decide_eq_true_eq]at h;trivial
instance:Dec Int where
 sh:=[.int .i64]
 ok:=okI
 dec cs h:=by obtain ⟨d,ds,rfl,h1,h2⟩:=h.cons_inv;obtain rfl:=h2.nil_inv;obtain ⟨n,rfl,hw⟩:=h1.int_inv;exact ⟨n,rfl,zbn hw⟩
instance:Dec UInt8 where
 sh:=[.int .u8]
 ok:=λ_=>True
 dec cs h:=by obtain ⟨d,ds,rfl,h1,h2⟩:=h.cons_inv;obtain rfl:=h2.nil_inv;obtain ⟨n,rfl,hw⟩:=h1.int_inv;simp only[Lit.wf,Bf,decide_eq_true_eq]at hw;have e1:IntKind.u8.min=0:=rfl;have e2:IntKind.u8.max=255:=rfl;refine ⟨Bh n.toNat,?_,trivial⟩;show _= [C.int .u8 ((Bh n.toNat).toNat:Int)];simp;omega
instance:Dec Bool where
 sh:=[.bool]
 ok:=λ_=>True
 dec cs h:=by obtain ⟨d,ds,rfl,h1,h2⟩:=h.cons_inv;obtain rfl:=h2.nil_inv;obtain ⟨n,rfl⟩:=h1.bool_inv;exact ⟨n,rfl,trivial⟩
instance:Dec (List UInt8) where
 sh:=[.str]
 ok:=λs=>s.length<=9223372036854775807
 dec cs h:=by obtain ⟨d,ds,rfl,h1,h2⟩:=h.cons_inv;obtain rfl:=h2.nil_inv;obtain ⟨n,rfl,hw⟩:=h1.str_inv;exact ⟨n,rfl,hw⟩
section
variable {H:Type} {enc:TypeId × Value->H} {P:Program} {w:World} {base:Nat} {spare:Nat->Bool} {held:Bool}
def zvW {t:TypeId} {v:Value} {d:DataW H} {p:List MemPlace} {s:List Ce} (n:Nat) (hs:shB P n t=some s) (h:DataW.Trod enc P w base spare held t v d p): ∃A S,Rds w v.cells.toList A S/\Fits s A:=by obtain ⟨fuel,a⟩:=h;exact zmV fuel n t _ _ s hs a
def Rds.nil_inv {vs:List Value} {S:List Nat} (h:Rds w vs [] S):vs= []:=by cases h;rfl
def Rds.cons_inv {vs:List Value} {S:List Nat} (h:Rds w vs (c::cs) S): ∃v r,vs=v::r/\Base w [] v c/\∃T,Rds w r cs T:=by cases h with | cons v c A vs cs T a b=>exact ⟨v,vs,rfl,⟨A,a,by simp⟩,T,b⟩
def Base.val {S0:List Nat} {v u:Value} {c:C} (h:Base w S0 v c) (a:valC c=some u):v=u:=by obtain ⟨F,A,_⟩:=h;exact A.val a
def zs2 {e t:TypeId} {r:Reach} {b:Nat} {v:Value} (d:P.underlying t=some (.slice e)) (h:Value.okWide P w r b t v):v.cells.toList= [v]:=by obtain ⟨a,l,c,rfl⟩:=Go.WideShapes.okWide_slice d h;rfl
def Con.below {f:FuncId} {args:List Value} {rds:List (Value × C)} {b:Bool} {W:World} (h:Con P f args [] rds (λ_:Unit=>.bool b) (λ_=>[])) (a: ∀p∈rds,Base W [] p.1 p.2):
    Calls P f args.toArray W λe w'=>e= .returned (.bool b)/\Below W.heap.size W w':=by refine (h W [] (St.nil W) a).mono ?_;rintro e w' ⟨_,rfl,hs⟩;exact ⟨rfl,hs.os,hs.tape,hs.output,hs.size,λk c=>hs.base k c (by simp)⟩
end
end Go.Proofs.YtmenicbkddagmaaGreat.Sl
end
section
open Decidable renaming decide->Dc
open List renaming getElem_mem->An,getElem?_eq_getElem->Ba,take_add_one->Bf
open Option renaming bind_some->Bh
open Go.IntKind renaming i64->I6
namespace Go.Proofs.YtmenicbkddagmaaGreat.Sl
open Go
variable {τ ρ α R:Type} {body:τ->Option (Ctl τ ρ)} {s0:τ}
def za {n:Int} (a: -9223372036854775808<=n) (b:n<=9223372036854775807):I6.wrap n=n:=by rw[IntKind.wrap_i64];omega
def zb (l:List α) (k:Nat) (h:k<l.length):idx l (k:Int)=some l[k]:=by unfold idx;simp[h]
theorem zwk {by_ n:Nat} (a:by_*n<=281474976710656) (b:n<=9223372036854775807):mkLen by_ (n:Int)=some n:=by unfold mkLen;grind
def zg {by_:Nat} {l k:List α} (a:(l.length+k.length)*by_<=140737488355328) (b:l.length+k.length<=9223372036854775807):app by_ l k=some (l++k):=by unfold app;rw[if_pos ⟨a,b⟩]
def zbx {s u:List UInt8} (h:s.length+u.length<=9223372036854775807):cat s u=some (s++u):=by unfold cat;rw[if_pos h]
@[simp] theorem zxp (r:R) (k:τ->Option R):bindC (some (.done r)) k=some r:=rfl
@[simp] theorem zd (t:τ) (k:τ->Option R):bindC (some (.go t)) k=k t:=rfl
theorem zk {a:τ} (f:Nat->τ) (n:Nat) {r:ρ} (b:a=f 0) (h: ∀k,k<n->body (f k)=some (.go (f (k+1)))) (c:body (f n)=some (.done r)):loopO body a=some r:=by
 subst b;have key: ∀j,j<=n->loopO body (f (n - j))=some r:=by
  intro j;induction j with
  | zero=>intro _;rw[zw,Nat.sub_zero,c]
  | succ j ih=>intro d;rw[zw,h (n - (j+1)) (by omega)];grind
 have:=key n (Nat.le_refl _);simp_all
def runL {α σ ρ:Type} (step:Nat->α->σ->Option (Ctl σ ρ)) (h:σ->Option ρ):Nat->List α->σ->Option ρ
 | _,[],s=>h s
 | k,x::l,s=>match step k x s with
   | some (.go s')=>runL step h (k+1) l s'
   | some (.done r)=>some r
   | none=>none
def Ctl.mapGo {σ:Type} (f:σ->τ):Ctl σ ρ->Ctl τ ρ
 | .go s=>.go (f s)
 | .done r=>.done r
def zus {σ:Type} {b:τ} (a:List α) (mk:Nat->σ->τ) (step:Nat->α->σ->Option (Ctl σ ρ)) (A:σ->Option ρ) (s0:σ) (d:b=mk 0 s0) (e: ∀k (h:k<a.length) s,body (mk k s)=(step k a[k] s).map (Ctl.mapGo (mk (k+1)))) (f: ∀s,body (mk a.length s)=(A s).map .done):
    loopO body b=runL step A 0 a s0:=by
 subst d;have key: ∀(r l:List α) (s:σ),a=l++r->loopO body (mk l.length s)=runL step A l.length r s:=by
  intro r;induction r with
  | nil=>intro l s h;rw[List.append_nil]at h;subst h;rw[zw,f,runL];cases A s<;>rfl
  | cons x r ih=>
    intro l s h;have hl:l.length<a.length:=by rw[h];simp
    have g:a[l.length]=x:=by simp[h]
    rw[zw,e l.length hl s,g,runL];cases hs:step l.length x s with
    | none=>rfl
    | some c=>
      cases c with
      | done r=>rfl
      | go B=>simp only[Option.map_some,Ctl.mapGo];have:=ih (l++ [x]) B (by rw[h];simp);simp_all
 exact key a [] s0 rfl
def zsy {α ρ:Type} {step:Nat->α->Unit->Option (Ctl Unit ρ)} {A:Unit->Option ρ} (p:α->Bool) (a:ρ): ∀(l:List α) (k:Nat),(∀k x,x∈l->step k x ()=if p x then some (.go ()) else some (.done a))->
    runL step A k l ()=if l.all p then A () else some a
 | [],_,_=>rfl
 | x::l,k,h=>by
   rw[runL,h k x (by simp)]
   cases b:p x with
   | false=>simp[b]
   | true=>
     simp only[if_true]
     rw[zsy p a l (k+1) λk y c=>h k y (by simp[c])]
     simp_all
section
def zuR [DecidableEq α] {a b:List α} (hl:a.length=b.length):(a.zip b).all (λx=>decide (x.1=x.2))=Dc (a=b):=by
 induction a generalizing b with
 | nil=>cases b with | nil=>rfl | cons y b=>simp at hl
 | cons x a ih=>
   cases b with
   | nil=>simp at hl
   | cons y b=>simp_all
theorem eq_loop [DecidableEq α] (a b:List α) (f:α->α->Option Bool) (hf: ∀x y,x∈a->y∈b->f x y=some (Dc (x=y))) (hl:a.length=b.length) (g:a.length<=4611686018427387904):
 loopO (ρ:=Ctl Unit Bool) (λ(h:Int)=>if (Dc (h<(a.length:Int)))=true then ((idx a h).bind λB=>(idx b h).bind λD=>(f B D).bind λA=>
  if (!A)=true then (some (.done (.done false))) else (some (.go (I6.wrap (h+(1:Int)))))) else (some (.done (.go ())))) (0:Int)=some (if a=b then .go () else .done false):=by
 rw[zus (a.zip b) (λk (_:Unit)=>(k:Int)) (λ_ x _=>if x.1=x.2 then some (Ctl.go ()) else some (Ctl.done (Ctl.done false))) (λ_=>some (Ctl.go ())) () ?h0 ?hs ?hf]
 case h0=>rfl
 case hs=>
  intro k e _
  have c:k<a.length:=by simp at e;omega
  simp only[zb a k c,zb b k (by omega),Bh,List.getElem_zip,hf a[k] b[k] (An _) (An _)]
  rw[za (by omega) (by omega)]
  by_cases d:a[k]=b[k]
  ·simp[d,Ctl.mapGo,c]
  ·simp[d,Ctl.mapGo,c]
 case hf=>intro _;simp[hl]
 rw[zsy (λx=>decide (x.1=x.2)) (Ctl.done false) _ _ (by intro k x _;simp),zuR hl];grind
theorem zmb [DecidableEq α] (a b:List α) (f:α->α->Option Bool) (c: ∀x y,x∈a->y∈b->f x y=some (Dc (x=y))) (d:a.length<=4611686018427387904):
 (if (!(Dc ((a.length:Int)=(b.length:Int))))=true then (some false) else (bindC (loopO (λ(h:Int)=>if (Dc (h<(a.length:Int)))=true then ((idx a h).bind λB=>(idx b h).bind λD=>(f B D).bind λA=>
   if (!A)=true then (some (.done (.done false))) else (some (.go (I6.wrap (h+(1:Int)))))) else (some (.done (.go ())))) (0:Int)) (λ(_:Unit)=>some true)))=some (Dc (a=b)):=by
 by_cases hl:a.length=b.length
 ·rw[if_neg (by simp[hl]),eq_loop a b f c hl d];by_cases g:a=b<;>simp[g]
 ·have:a≠b:=λe=>hl (by rw[e]);grind
theorem zsP (l:List α) (f:α->Option Int) (g:α->Int) (c: ∀x∈l,f x=some (g x)) (d: ∀x∈l,0<=g x/\g x<=1099511627776) (hl:l.length<=1048576) (s0:Int) (h0:0<=s0) (h:s0<=1099511627776):
 loopO (ρ:=Ctl Int ρ) (λ(A:Int × Int)=>if (Dc (A.2<(l.length:Int)))=true then ((idx l A.2).bind λB=>(f B).bind λD=>some (.go (I6.wrap (A.1+D),I6.wrap (A.2+(1:Int))))) else (some (.done (.go A.1))))
  (s0,(0:Int))=some (.go (s0+(l.map g).sum)):=by
 have b: ∀k,k<=l.length->0<=((l.take k).map g).sum/\((l.take k).map g).sum<=1099511627776*k:=by
  intro k;induction k with
  | zero=>intro _;simp
  | succ k ih=>
    intro a;have:=ih (by omega);have e:k<l.length:=by omega
    rw[Bf,Ba e];grind
 rw[zk (λk=>(s0+((l.take k).map g).sum,(k:Int))) l.length (r:=.go (s0+(l.map g).sum)) ?h0]
 case h0=>simp
 ·intro k a;have i:=b k (by omega);have j:=b (k+1) (by omega);have m:=d l[k] (An _);simp only[zb l k a,Bh,c l[k] (An _)];rw[Bf,Ba a];simp only[Option.toList_some,List.map_append,List.map_cons,List.map_nil,List.sum_append,List.sum_cons,List.sum_nil];rw[za (by omega) (by omega),za (by omega) (by omega)];grind
 ·simp
end
def zX (I:Nat->τ->Prop) (n:Nat) (Q:ρ->Prop) (c:I 0 s0) (h: ∀k s,k<n->I k s->(∃A,body s=some (.go A)/\I (k+1) A)\/(∃r,body s=some (.done r)/\Q r)) (d: ∀s,I n s->∃r,body s=some (.done r)/\Q r): ∃r,loopO body s0=some r/\Q r:=by
 have key: ∀j k s,k+j=n->I k s->∃r,loopO body s=some r/\Q r:=by
  intro j;induction j with
  | zero=>
    intro k s e B;obtain rfl:k=n:=by omega
    obtain ⟨r,a,b⟩:=d s B;exact ⟨r,by rw[zw,a],b⟩
  | succ j ih=>
    intro k s e B;rcases h k s (by omega) B with ⟨A,hs,D⟩ | ⟨r,a,b⟩
    ·obtain ⟨r,a,b⟩:=ih (k+1) A (by omega) D;exact ⟨r,by rw[zw,hs];exact a,b⟩
    ·exact ⟨r,by rw[zw,a],b⟩
 exact key n 0 s0 (by omega) c
def zca (I:Nat->τ->Prop) (n:Nat) (r:ρ) (a:I 0 s0) (h: ∀k s,k<n->I k s->(∃B,body s=some (.go B)/\I (k+1) B)\/body s=some (.done r)) (b: ∀s,I n s->body s=some (.done r)):loopO body s0=some r:=by obtain ⟨D,d,rfl⟩:=zX (ρ:=ρ) I n (λx=>x=r) a (λk s c A=>(h k s c A).imp id λh=>⟨r,h,rfl⟩) λs A=>⟨r,b s A,rfl⟩;trivial
def zur (I:Nat->τ->Prop) (n:Nat) (a:I 0 s0) (h: ∀k s,k<n->I k s->(∃B,body s=some (.go B)/\I (k+1) B)\/(∃r,body s=some (.done r))) (b: ∀s,I n s->∃r,body s=some (.done r)): ∃r,loopO body s0=some r:=by obtain ⟨r,d,_⟩:=zX (ρ:=ρ) I n (λ_=>True) a (λk s c A=>(h k s c A).imp id λ⟨r,h⟩=>⟨r,h,trivial⟩) λs A=>(b s A).imp λ_ h=>⟨h,trivial⟩;simp_all
def zt7 {m:Option (Ctl τ R)} {k:τ->Option R} (h: ∃c,m=some c) (a: ∀t,∃r,k t=some r): ∃r,bindC m k=some r:=by
 obtain ⟨c,rfl⟩:=h;cases c with
 | go t=>exact a t
 | done r=>exact ⟨r,rfl⟩
end Go.Proofs.YtmenicbkddagmaaGreat.Sl
end
section
namespace Go.Proofs.YtmenicbkddagmaaGreat.Sl
open Go
theorem zfP {α:Type} (w:α->Nat): ∀{l:List α} {x:α},x∈l->w x<=(l.map w).sum
 | y::l,x,h=>by
   rw[List.map_cons,List.sum_cons];rcases List.mem_cons.1 h with rfl | h
   ·omega
   ·have:=zfP w h;omega
section
variable {α:Type} {mk:Int->α->α} {c:α->Nat}
end
end Go.Proofs.YtmenicbkddagmaaGreat.Sl
end
section
open Decidable renaming decide->Dc
open Prod.mk renaming injEq->An
open Bool renaming and_eq_true->Ba,not_eq_true'->Bl
open Nat renaming blt->Bf,beq->Bh,ble_eq_true_of_le->Bm,ble->Bo,zero_add->By
open Option.some renaming injEq->Bp
open List renaming perm_append_comm->Bt,replicate->Bw
namespace Go.Proofs.YtmenicbkddagmaaGreat.Sl
open Go Go.RowKit
variable {v u:Value} {X R τ β σ ρ α:Type} {x:Operand} {sz t n s by_ i dj j e fuel2 d fuel L sz':Nat} {is rest pre:List Item} {is':X->List Item} {ops:Array Oper} {c:Code} {P:Program} {w0:World} {S0:List Nat} {fr fr':Fr} {m m1 m2:Option R} {b ag want:Bool} {us Vs args:List Value} {ty:TypeId} {aft:Array Edge} {Q Q':R->Exit->Act->World->Prop} {gd:Option (Nat × Bool)} {ps:List (Nat × Operand)} {k k':IntKind} {l':List Oper} {q:R} {H:Hd} {frf:τ->X->Fr} {isf:τ->X->List Item} {post:R->X->List Item} {zs cs' cs ds:List C} {f:FuncId} {dst:Option Nat} {p:Option X} {g:Nat × Bool} {os:List Operand} {ats:Array TypeId} {uss:List (List Value)} {l:List α} {z:α}
def r.{u} {α:Sort u} {a:α} :a=a:=rfl
def r1.{u,v} {X:Sort u} {α:Sort v} {f:X->α} : ∀x,f x=f x:=λ_=>rfl
def r2.{u,v,t} {T:Sort t} {X:Sort u} {α:Sort v} {f:T->X->α} : ∀t x,f t x=f t x:=λ_ _=>rfl
abbrev iv (n:Int):Value:=.int .i64 n
abbrev ic (n:Int):C:=.int .i64 n
abbrev pt (b:Nat):Value:=.pointer (some ⟨b,0,none⟩)
def pullK {β:Type} :Nat->List Item->(Item->List Item->Option β)->Option β
 | _,[],_=>none
 | 0,i::s,k=>k i s
 | n+1,i::s,k=>pullK n s λj t=>k j (i::t)
def takeK {β:Type} :List Nat->List Item->(List Item->List Item->Option β)->Option β
 | [],is,k=>k [] is
 | n::ns,is,k=>pullK n is λi s=>takeK ns s λjs t=>k (i::js) t
def appK {β:Type} :List Item->List Item->(List Item->Option β)->Option β
 | [],js,k=>k js
 | i::is,js,k=>appK is js λs=>k (i::s)
def setK {β:Type} :Nat->List Item->Item->(List Item->Option β)->Option β
 | _,[],_,_=>none
 | 0,_::s,j,k=>k (j::s)
 | n+1,i::s,j,k=>setK n s j λt=>k (i::t)
def keepK {β:Type} :List Nat->Fr->Fr->(Fr->Option β)->Option β
 | [],_,ex,k=>k ex
 | d::ds,fr,ex,k=>match lk d fr with
   | some v=>keepK ds fr ex λt=>k ((d,v)::t)
   | none=>none
def takeI (A:List Nat) (is h:List Item):Option (List Item):=takeK A is λpre _=>appK pre h some
def takeP (h:List Nat) (is:List Item):Option (List Item × List Item):=takeK h is λpre rest=>some (pre,rest)
def zwn {k:Item->List Item->Option β} {b:β} (h:pullK n is k=some b): ∃i s,pull n is=some (i,s)/\k i s=some b:=by
 induction n generalizing is k with
 | zero=>
   cases is with
   | nil=>cases h
   | cons i s=>exact ⟨i,s,rfl,h⟩
 | succ n ih=>
   cases is with
   | nil=>cases h
   | cons i s=>obtain ⟨j,t,a,c⟩:=ih h;exact ⟨j,i::t,by simp only[pull,a],c⟩
def zwB {E:List Nat} {k:List Item->List Item->Option β} {b:β} (h:takeK E is k=some b):
    ∃pre rest,k pre rest=some b/\∀w S,sats w is S->∃T,sats w (pre++rest) T/\T.Perm S:=by
 induction E generalizing is k with
 | nil=>exact ⟨[],is,h,λw S D=>⟨S,D,.refl _⟩⟩
 | cons n E ih=>obtain ⟨i,s,a,c⟩:=zwn h;obtain ⟨pre,rest,d,e⟩:=ih c;refine ⟨i::pre,rest,d,λw S D=>?_⟩;obtain ⟨A,B,F,G,f⟩:=zq7 a D;obtain ⟨T,I,g⟩:=e w B G;exact ⟨A++T,⟨A,T,rfl,F,I⟩,(List.Perm.append_left A g).trans f⟩
def St.takeK {β:Type} {w0 w:World} {S0 D:List Nat} {is:List Item} {k:List Item->List Item->Option β} {b:β} (h:Sl.takeK D is k=some b):
    ∃pre rest,k pre rest=some b/\∀w,St w0 S0 is w->St w0 S0 (pre++rest) w:=by obtain ⟨pre,rest,c,d⟩:=zwB h;refine ⟨pre,rest,c,λw ⟨os,tape,output,size,base,S,A,e,f⟩=>?_⟩;obtain ⟨T,B,a⟩:=d w S A;exact ⟨os,tape,output,size,base,T,B,a.nodup_iff.2 e,λb g=>f b (a.mem_iff.1 g)⟩
def zkt {js:List Item} {k:List Item->Option β} :appK is js k=k (is++js):=by
 induction is generalizing k with
 | nil=>rfl
 | cons i is ih=>exact ih
def zqg {j:Item} {k:List Item->Option β} {b:β} (h:setK n is j k=some b):k (is.set n j)=some b:=by
 induction n generalizing is k with
 | zero=>
   cases is with
   | nil=>cases h
   | cons i s=>exact h
 | succ n ih=>
   cases is with
   | nil=>cases h
   | cons i s=>exact ih h
def St.takeP {w0 w:World} {S0 A:List Nat} {is pre rest:List Item} (h:Sl.takeP A is=some (pre,rest)) (hs:St w0 S0 is w):St w0 S0 (pre++rest) w:=by obtain ⟨p,q,a,b⟩:=St.takeK (w0:=w0) (w:=w) (S0:=S0) h;simp_all
def kq:IntKind->IntKind->Bool
 | .i64,.i64=>true
 | .u8,.u8=>true
 | .u32,.u32=>true
 | .u64,.u64=>true
 | _,_=>false
def kq_eq (h:kq k k'=true):k=k':=by cases k<;>cases k'<;>first | rfl | cases h
def iop (o:BinOp) (k:IntKind) (p q:Int):Option Value:=match o with
 | .add=>some (.int k (k.wrap (p+q)))
 | .sub=>some (.int k (k.wrap (p - q)))
 | .mul=>some (.int k (k.wrap (p*q)))
 | .lss=>some (.bool (Dc (p<q)))
 | .leq=>some (.bool (Dc (p<=q)))
 | .gtr=>some (.bool (Dc (p>q)))
 | .geq=>some (.bool (Dc (p>=q)))
 | .eql=>some (.bool (Dc (p=q)))
 | .neq=>some (.bool (!Dc (p=q)))
 | .and=>some (.int k (iand k p q))
 | .or=>some (.int k (ior k p q))
 | .xor=>some (.int k (ixor k p q))
 | _=>none
def sop (o:BinOp) (s u:List UInt8):Option Value:=match o with
 | .eql=>some (.bool (Dc (s=u)))
 | .neq=>some (.bool (!Dc (s=u)))
 | .lss=>some (.bool (sLt s u))
 | .leq=>some (.bool (sLt s u||decide (s=u)))
 | .gtr=>some (.bool (!(sLt s u||decide (s=u))))
 | .geq=>some (.bool (!sLt s u))
 | _=>none
def bop (o:BinOp):Option Value->Option Value->Option Value
 | some (.int k p),some (.int k' q)=>match kq k k' with
   | true=>iop o k p q
   | false=>none
 | some (.string ⟨⟨s⟩⟩),some (.string ⟨⟨u⟩⟩)=>sop o s u
 | _,_=>none
def sval (fr:Fr):Op->Option Value
 | .move x=>ev fr x
 | .assign x=>ev fr x
 | .binOp o _ x y _=>bop o (ev fr x) (ev fr y)
 | .unOp .not _ x=>match ev fr x with
   | some (.bool b)=>some (.bool (!b))
   | _=>none
 | .unOp .neg _ x=>match ev fr x with
   | some (.int k p)=>some (.int k (k.wrap (0 - p)))
   | _=>none
 | .extract x k=>match ev fr x with
   | some (.tuple ⟨vs⟩)=>vs[k]?
   | _=>none
 | .nilCheck x=>match ev fr x with
   | some (.pointer (some a))=>some (.pointer (some a))
   | _=>none
 | _=>none
section
variable {pos:String}
def Y.bop {o:BinOp} {t t':TypeId} {x y:Operand} {v:Value} (h:Sl.bop o (ev fr x) (ev fr y)=some v):Y P w0 S0 n fr is ⟨dst,.binOp o t x y t',ty,pos,aft,gd⟩ v:=by
 cases a:ev fr x with
 | none=>rw[a]at h;cases h
 | some A=>
   cases b:ev fr y with
   | none=>rw[a,b]at h;unfold Sl.bop at h;split at h<;>first | cases h | (rename_i d c;cases c)
   | some B=>
     rw[a,b]at h;unfold Sl.bop at h;split at h
     ·rename_i k p k' q d c;cases d;cases c;split at h
      ·rename_i e;obtain rfl:=kq_eq e;cases o<;>first | (cases h;first | exact Y.add a b | exact Y.sub a b | exact Y.mul a b | exact Y.lss a b | exact Y.leq a b | exact Y.gtr a b | exact Y.geq a b | exact Y.eql a b | exact Y.neq a b | exact Y.and a b | exact Y.or a b | exact Y.xor a b) | cases h
      ·cases h
     ·rename_i s u d c;cases d;cases c;cases o<;>first | (cases h;first | exact Y.seql a b | exact Y.sneq a b | exact Y.slss a b | exact Y.sleq a b | exact Y.sgtr a b | exact Y.sgeq a b) | cases h
     ·cases h
def Y.sval {o:Op} {v:Value} (h:Sl.sval fr o=some v):Y P w0 S0 n fr is ⟨dst,o,ty,pos,aft,gd⟩ v:=by
 unfold Sl.sval at h;split at h
 ·exact Y.move h
 ·exact Y.assign h
 ·exact Y.bop h
 ·split at h
  ·rename_i a;cases h;exact Y.not a
  ·cases h
 ·split at h
  ·rename_i a;cases h;exact Y.neg a
  ·cases h
 ·split at h
  ·rename_i a;exact Y.extract (vs:=_) a h
  ·cases h
 ·split at h
  ·rename_i a;cases h;exact Y.nilCheck a
  ·cases h
 ·cases h
end
def qrun (n:Nat):Nat->List Oper->Fr->Option (List Oper × Fr)
 | 0,l,fr=>some (l,fr)
 | k+1,⟨some d,o,_,_,_,none⟩::l,fr=>match Bf d n with
   | true=>match sval fr o with
     | some v=>qrun n k l ((d,v)::fr)
     | none=>none
   | false=>none
 | _,_,_=>none
def grun (n j:Nat) (want:Bool) (dj:Nat):Nat->List Oper->Fr->Option (List Oper × Fr)
 | 0,l,fr=>some (l,fr)
 | k+1,⟨some d,o,_,_,_,some (j',want')⟩::l,fr=>match Bf d n&&(Bh j' j&&(want' == want&& !Nat.beq dj d)) with
   | true=>match sval fr o with
     | some v=>grun n j want dj k l ((d,v)::fr)
     | none=>none
   | false=>none
 | _,_,_=>none
def orun (n j:Nat) (want:Bool) (dj:Nat):Nat->List Oper->Fr->Option (List Oper × Fr)
 | 0,l,fr=>some (l,fr)
 | k+1,⟨some d,_,_,_,_,some (j',want')⟩::l,fr=>match Bf d n&&(Bh j' j&&(want' == want&& !Nat.beq dj d)) with
   | true=>orun n j want dj k l ((d,undef)::fr)
   | false=>none
 | _,_,_=>none
section
variable {o:Op} {pos:String} {l:List Oper}
def Qs (k:Nat) (a:qrun n k l fr=some (l',fr')) (h:TO P w0 S0 m n fr' is ops l' Q):TO P w0 S0 m n fr is ops l Q:=by
 induction k generalizing l fr with
 | zero=>cases a;exact h
 | succ k ih=>
   unfold qrun at a;split at a
   ·trivial
   ·rename_i k' d o ty pos aft f b;cases b;split at a
    ·rename_i c;split at a
     ·rename_i v e;exact TO.y (Y.sval e) rfl rfl c (ih a)
     ·trivial
    ·trivial
   ·trivial
def zjv (h:Bh dj d=false):lk dj ((d,v)::fr)=lk dj fr:=by simp only[lk,h,cond_false]
def Qg (k:Nat) (i:(b == want)=true) (f:(l.head?.bind (·.guard),(ops[j]?).bind (·.dst),lk dj fr)=(some (j,want),some dj,some (.bool b))) (a:grun n j want dj k l fr=some (l',fr')) (h:TO P w0 S0 m n fr' is ops l' Q):TO P w0 S0 m n fr is ops l Q:=by
 obtain ⟨-,p,g⟩:_/\_/\_:=by simpa using f
 clear f;induction k generalizing l fr with
 | zero=>cases a;exact h
 | succ k ih=>
   unfold grun at a;split at a
   ·trivial
   ·rename_i k' d o ty pos aft B A z e;cases e;split at a
    ·rename_i c;simp only[Ba,Bl]at c;obtain ⟨c,q,s,t⟩:=c;have u:B=j:=by simpa using q
     have w:A=want:=by simpa using s
     subst u w;split at a
     ·rename_i v x;refine TO.y (Y.sval x) (Gd.at _ _ dj b rfl p g i) rfl c (ih a ?_);rw[zjv t];exact g
     ·trivial
    ·trivial
   ·trivial
def Of (k:Nat) (i:(b == want)=false) (f:(l.head?.bind (·.guard),(ops[j]?).bind (·.dst),lk dj fr)=(some (j,want),some dj,some (.bool b))) (a:orun n j want dj k l fr=some (l',fr')) (h:TO P w0 S0 m n fr' is ops l' Q):TO P w0 S0 m n fr is ops l Q:=by
 obtain ⟨-,p,g⟩:_/\_/\_:=by simpa using f
 clear f;induction k generalizing l fr with
 | zero=>cases a;exact h
 | succ k ih=>
   unfold orun at a;split at a
   ·trivial
   ·rename_i k' d o ty pos aft B A w e;cases e;split at a
    ·rename_i c;simp only[Ba,Bl]at c;obtain ⟨c,q,s,t⟩:=c;have u:B=j:=by simpa using q
     have v:A=want:=by simpa using s
     subst u v;refine TO.off (Gd.at _ _ dj b rfl p g i) rfl c (ih a ?_);rw[zjv t];exact g
    ·trivial
   ·trivial
end
section
def Sq {x y:Code} (h:TW P w0 S0 m n fr is x (λr=>Exit.then (y.wp P (Q r)) (Q r))):TW P w0 S0 m n fr is (.seq x y) Q:=TW.seq h
def Rg {id:Nat} {l:List Oper} (h:TO P w0 S0 m n fr is l.toArray l Q):TW P w0 S0 m n fr is (.region id l.toArray false) Q:=TW.region h
def Sr {id:Nat} {l:List Oper} {y:Code} (h:TO P w0 S0 m n fr is l.toArray l (λr=>Exit.then (y.wp P (Q r)) (Q r))):TW P w0 S0 m n fr is (.seq (.region id l.toArray false) y) Q:=TW.seq (TW.region h)
def Nl (h:TE w0 S0 m n fr is .normal Q):TO P w0 S0 m n fr is ops [] Q:=h
def Ne {y:Code} (h:TW P w0 S0 m n fr is y Q):TE w0 S0 m n fr is .normal (λr=>Exit.then (y.wp P (Q r)) (Q' r)):=h
def Nx {y:Code} (h:TW P w0 S0 m n fr is y Q):TO P w0 S0 m n fr is ops [] (λr=>Exit.then (y.wp P (Q r)) (Q' r)):=h
def Sk (h:TE w0 S0 m n fr is .normal Q):TW P w0 S0 m n fr is .skip Q:=TW.skip h
def Sn {y:Code} (h:TW P w0 S0 m n fr is y Q):TW P w0 S0 m n fr is .skip (λr=>Exit.then (y.wp P (Q r)) (Q' r)):=TW.skip h
def Wr (h:TE w0 S0 m n fr is .ret Q):TW P w0 S0 m n fr is .ret Q:=TW.ret h
def Wx {id:Nat} (h:TE w0 S0 m n fr is (.exit id) Q):TW P w0 S0 m n fr is (.exit id) Q:=TW.exit h
def Wb {id:Nat} (h:TW P w0 S0 m n fr is c (λr=>Exit.inBlock id (Q r))):TW P w0 S0 m n fr is (.block id c) Q:=TW.block h
def Wc {c:Operand} {x y:Code} (a:ev fr c=some (.bool b)) (d:b=true->TW P w0 S0 m1 n fr is x Q) (e:b=false->TW P w0 S0 m2 n fr is y Q):
    TW P w0 S0 (if b=true then m1 else m2) n fr is (.cond c x y) Q:=TW.cond a d e
def It {l:List Oper} (a:b=true->TO P w0 S0 m1 n fr is ops l Q) (c:b=false->TO P w0 S0 m2 n fr is ops l Q):
    TO P w0 S0 (if b=true then m1 else m2) n fr is ops l Q:=TO.ite a c
def Bi {k:X->Option R} {l:List Oper} (h: ∀x,p=some x->TO P w0 S0 (k x) n fr is ops l Q):TO P w0 S0 (p.bind k) n fr is ops l Q:=TO.bind h
def Wi {k:X->Option R} (h: ∀x,p=some x->TW P w0 S0 (k x) n fr is c Q):TW P w0 S0 (p.bind k) n fr is c Q:=TW.bind h
def Tr {Q':R->Act->World->Prop} (h:TE w0 S0 m n fr is .ret Q):TE w0 S0 m n fr is .ret (λr=>Exit.then (Q' r) (Q r)):=h
def Tx {Q':R->Act->World->Prop} {id:Nat} (h:TE w0 S0 m n fr is (.exit id) Q):TE w0 S0 m n fr is (.exit id) (λr=>Exit.then (Q' r) (Q r)):=h
def Br {id:Nat} (h:TE w0 S0 m n fr is .ret Q):TE w0 S0 m n fr is .ret (λr=>Exit.inBlock id (Q r)):=h
def Bn {id:Nat} (h:TE w0 S0 m n fr is .normal Q):TE w0 S0 m n fr is .normal (λr=>Exit.inBlock id (Q r)):=h
def Be {id:Nat} (h:TE w0 S0 m n fr is .normal Q):TE w0 S0 m n fr is (.exit id) (λr=>Exit.inBlock id (Q r)):=TE.block_exit h
def Jd {M:τ->Act->World->Prop} {e:Exit} (h:TE w0 S0 (some q) n fr is e Q):TE w0 S0 (some (.done q)) n fr is e (jn M Q):=TE.jn_done h
def Ex {Q:ρ->Exit->Act->World->Prop} {I:σ->Act->World->Prop} {q:ρ} {id:Nat} (h:TE w0 S0 (some q) n fr is (.exit id) Q):TE w0 S0 (some (.done q)) n fr is (.exit id) (lp I Q):=TE.lp_exit h
def Er {Q:ρ->Exit->Act->World->Prop} {I:σ->Act->World->Prop} {q:ρ} (h:TE w0 S0 (some q) n fr is .ret Q):TE w0 S0 (some (.done q)) n fr is .ret (lp I Q):=TE.lp_ret h
def Ni {e:Exit} (sz:Nat) (h:TE w0 S0 m n fr (.own (.slice none 0 0) (.sl sz 0 [])::is) e Q):TE w0 S0 m n fr is e Q:=TE.nilItem sz h
def Nw (sz:Nat) (h:TW P w0 S0 m n fr (.own (.slice none 0 0) (.sl sz 0 [])::is) c Q):TW P w0 S0 m n fr is c Q:=TW.nilItem sz h
def No {l:List Oper} (sz:Nat) (h:TO P w0 S0 m n fr (.own (.slice none 0 0) (.sl sz 0 [])::is) ops l Q):TO P w0 S0 m n fr is ops l Q:=TO.ghost (Gh.nilItem sz) λ_=>h
def Na (sz:Nat) (h:TA P w0 S0 m n fr (.own (.slice none 0 0) (.sl sz 0 [])::is) H ops fuel L Q):TA P w0 S0 m n fr is H ops fuel L Q:=TA.ghost (Gh.nilItem sz) λ_=>h
def Jn (X:Type) {m:Option (Ctl τ R)} {k:τ->Option R} {frf:τ->X->Fr} {isf:τ->X->List Item} (ls A:List Nat) (g:τ->X->Fr) (h:τ->X->List Item) (_: ∀t x,keepK ls fr (g t x) some=some (frf t x)) (_: ∀t x,takeI A is (h t x)=some (isf t x)) (a:TW P w0 S0 m n fr is c (jn (Mid w0 S0 n frf isf) Q)) (b: ∀t x,TE w0 S0 (k t) n (frf t x) (isf t x) .normal Q):TW P w0 S0 (bindC m k) n fr is c Q:=TW.joinX frf isf a b
def Ju {m:Option (Ctl τ R)} {k:τ->Option R} {frf:τ->Fr} (ls:List Nat) (g:τ->Fr) (_: ∀t,keepK ls fr (g t) some=some (frf t)) (a:TW P w0 S0 m n fr is c (jn (Mid w0 S0 n (λt (_:Unit)=>frf t) (λ_ _=>is)) Q)) (b: ∀t,TE w0 S0 (k t) n (frf t) is .normal Q):TW P w0 S0 (bindC m k) n fr is c Q:=TW.joinX _ _ a λt _=>b t
def Jb (X:Type) {m:Option τ} {k:τ->Option R} {frf:τ->X->Fr} {isf:τ->X->List Item} (ls A:List Nat) (g:τ->X->Fr) (h:τ->X->List Item) (_: ∀t x,keepK ls fr (g t x) some=some (frf t x)) (_: ∀t x,takeI A is (h t x)=some (isf t x)) (a:TW P w0 S0 m n fr is c (jb (Mid w0 S0 n frf isf))) (b: ∀t x,TE w0 S0 (k t) n (frf t x) (isf t x) .normal Q):TW P w0 S0 (m.bind k) n fr is c Q:=TW.joinBX frf isf a b
def Jv {m:Option τ} {k:τ->Option R} {frf:τ->Fr} (ls:List Nat) (g:τ->Fr) (_: ∀t,keepK ls fr (g t) some=some (frf t)) (a:TW P w0 S0 m n fr is c (jb (Mid w0 S0 n (λt (_:Unit)=>frf t) (λ_ _=>is)))) (b: ∀t,TE w0 S0 (k t) n (frf t) is .normal Q):TW P w0 S0 (m.bind k) n fr is c Q:=TW.joinBX _ _ a λt _=>b t
def Jw (X:Type) {frf:X->Fr} {isf:X->List Item} (ls A:List Nat) (g:X->Fr) (h:X->List Item) (_: ∀x,keepK ls fr (g x) some=some (frf x)) (_: ∀x,takeI A is (h x)=some (isf x)) (a:TW P w0 S0 (some ()) n fr is c (jb (Mid w0 S0 n (λ(_:Unit) x=>frf x) (λ_ x=>isf x)))) (b: ∀x,TE w0 S0 m n (frf x) (isf x) .normal Q):TW P w0 S0 m n fr is c Q:=TW.joinU _ _ a λ_ x=>b x
def Lp (X:Type) {body:σ->Option (Ctl σ ρ)} {s0:σ} {Q:ρ->Exit->Act->World->Prop} {frf:σ->X->Fr} {isf:σ->X->List Item} (ls A:List Nat) (g:σ->X->Fr) (h:σ->X->List Item) (a:X) (qs:List Nat) (_: ∀t x,keepK ls fr (g t x) some=some (frf t x)) (_: ∀t x,takeI A is (h t x)=some (isf t x)) (b: ∀s x,TW P w0 S0 (body s) n (frf s x) (isf s x) c (lp (Mid w0 S0 n frf isf) Q)) (d:Sub (frf s0 a) fr:=by repeat (first | refine ⟨r,?_⟩ | exact trivial)) (e:pulls qs is=some (isf s0 a):=by exact r):
    TW P w0 S0 (loopO body s0) n fr is (.loop c) Q:=TW.loopX frf isf a qs d e b
def Lu {body:σ->Option (Ctl σ ρ)} {s0:σ} {Q:ρ->Exit->Act->World->Prop} {frf:σ->Fr} (ls:List Nat) (g:σ->Fr) (_: ∀t,keepK ls fr (g t) some=some (frf t)) (d: ∀s,TW P w0 S0 (body s) n (frf s) is c (lp (Mid w0 S0 n (λs (_:Unit)=>frf s) (λ_ _=>is)) Q)) (f:Sub (frf s0) fr:=by repeat (first | refine ⟨r,?_⟩ | exact trivial)):
    TW P w0 S0 (loopO body s0) n fr is (.loop c) Q:=by
 refine TW.loop (Mid w0 S0 n (λs (_:Unit)=>frf s) (λ_ _=>is)) (λa w b hs=>⟨(),b.sub f,hs⟩) ?_;rintro s x i a w ⟨y,b,hs⟩;refine wp_mono (d s x i a w b hs) λe a w h=>?_;cases x with
 | go t=>exact h
 | done q=>exact h
end
def backE:Exit->Bool
 | .ret=>true
 | .normal=>true
 | _=>false
def resT:List ResultVar->Option (List Nat)
 | []=>some []
 | .tmp t::s=>match resT s with
   | some ts=>some (t::ts)
   | none=>none
 | _=>none
def lks (fr:Fr):List Nat->Option (List Value)
 | []=>some []
 | t::s=>match lk t fr with
   | some v=>match lks fr s with
     | some vs=>some (v::vs)
     | none=>none
   | none=>none
section
def RV.tmps: ∀{h:List ResultVar} {ts:List Nat} {vs:List Value},resT h=some ts->lks fr ts=some vs->RV P fr is h vs
 | [],ts,vs,a,b=>by cases a;cases b;trivial
 | .tmp t::s,ts,vs,a,b=>by
   unfold resT at a;split at a
   ·rename_i A c;cases a;unfold lks at b;split at b
    ·rename_i v d;split at b
     ·rename_i B e;cases b;exact ⟨d,RV.tmps c e⟩
     ·trivial
    ·trivial
   ·trivial
 | .cell _ _::_,_,_,a,_=>by cases a
def Re {h:List Nat} {fn:Func} {val:R->X->Value} {e:Exit} {ts:List Nat} {vs:List Value} (x:X) (A:List Nat) (a:backE e=true:=by exact r) (b:resT fn.results.toList=some ts:=by exact r) (c:lks fr ts=some vs:=by exact r) (d:retV vs=val q x:=by exact r) (hi:pulls A is=some (post q x):=by exact r):
    TE w0 h (some q) n fr is e (λq=>bodyPost P fn (λe w'=>∃x,e= .returned (val q x)/\St w0 h (post q x) w')):=
 TE.leaf λ_ _ f hs=>zt1 (by cases e<;>first | exact .inl rfl | exact .inr rfl | cases a) (Array.toArray_toList).symm (RV.tmps b c) f hs ⟨x,by rw[d],hs.pulls A hi⟩
def Jg {t:τ} (x:X) (h:List Nat) (a:pulls h is=some (isf t x):=by exact r) (b:Sub (frf t x) fr:=by repeat (first | refine ⟨r,?_⟩ | exact trivial)):
    TE w0 S0 (some (.go t)) n fr is .normal (jn (Mid w0 S0 n frf isf) Q):=TE.jn_go x h b a
def Bg {t:τ} (x:X) (h:List Nat) (a:pulls h is=some (isf t x):=by exact r) (b:Sub (frf t x) fr:=by repeat (first | refine ⟨r,?_⟩ | exact trivial)):
    TE w0 S0 (some t) n fr is .normal (jb (Mid w0 S0 n frf isf)):=TE.jb_go x h b a
def Lg {Q:ρ->Exit->Act->World->Prop} {frf:σ->X->Fr} {isf:σ->X->List Item} {t:σ} (x:X) (h:List Nat) (a:pulls h is=some (isf t x):=by exact r) (b:Sub (frf t x) fr:=by repeat (first | refine ⟨r,?_⟩ | exact trivial)):
    TE w0 S0 (some (.go t)) n fr is .normal (lp (Mid w0 S0 n frf isf) Q):=TE.lp_go x h b a
end
section
variable {o:Op} {pos:String} {l:List Oper}
def Yo (a:Y P w0 S0 n fr is ⟨some d,o,ty,pos,aft,none⟩ v) (h:TO P w0 S0 m n ((d,v)::fr) is ops l Q) (b:Bf d n=true:=by exact r):TO P w0 S0 m n fr is ops (⟨some d,o,ty,pos,aft,none⟩::l) Q:=TO.y a rfl rfl b h
def Yg (a: ∀o:Oper,o.guard=some g->Gd ops fr o true) (b:Y P w0 S0 n fr is ⟨some d,o,ty,pos,aft,some g⟩ v) (h:TO P w0 S0 m n ((d,v)::fr) is ops l Q) (c:Bf d n=true:=by exact r):
    TO P w0 S0 m n fr is ops (⟨some d,o,ty,pos,aft,some g⟩::l) Q:=TO.y b (a _ rfl) rfl c h
def Fo {val:X->Value} (a:Ef P w0 S0 n fr is ⟨some d,o,ty,pos,aft,none⟩ val is') (h: ∀x,TO P w0 S0 m n ((d,val x)::fr) (is' x) ops l Q) (b:Bf d n=true:=by exact r):
    TO P w0 S0 m n fr is ops (⟨some d,o,ty,pos,aft,none⟩::l) Q:=TO.ef a rfl rfl b h
def Fg {val:X->Value} (a: ∀o:Oper,o.guard=some g->Gd ops fr o true) (b:Ef P w0 S0 n fr is ⟨some d,o,ty,pos,aft,some g⟩ val is') (h: ∀x,TO P w0 S0 m n ((d,val x)::fr) (is' x) ops l Q) (c:Bf d n=true:=by exact r):
    TO P w0 S0 m n fr is ops (⟨some d,o,ty,pos,aft,some g⟩::l) Q:=TO.ef b (a _ rfl) rfl c h
def Fu {is':List Item} (a:Ef P w0 S0 n fr is ⟨none,o,ty,pos,aft,none⟩ (λ_:Unit=>undef) (λ_=>is')) (h:TO P w0 S0 m n fr is' ops l Q):
    TO P w0 S0 m n fr is ops (⟨none,o,ty,pos,aft,none⟩::l) Q:=TO.ef0 a rfl rfl λ_=>h
def gdA {q:Bool} (c:(b == want)=q) (a:((ops[j]?).bind (·.dst),lk dj fr)=(some dj,some (.bool b)):=by exact r): ∀o:Oper,o.guard=some (j,want)->Gd ops fr o q:=by intro o d;simp only[An]at a;exact Gd.at j want dj b d a.1 a.2 c
end
def takeV:Nat->List Value->Option (List Value)
 | 0,_=>some []
 | n+1,v::s=>match takeV n s with
   | some t=>some (v::t)
   | none=>none
 | _+1,[]=>none
def partO (off sz:Nat) (ag:Bool) (vs:List Value):Option Value:=match off,vs with
 | 0,vs=>match ag with
   | true=>match takeV sz vs with
     | some t=>some (.agg ⟨t⟩)
     | none=>none
   | false=>match vs with
     | v::_=>some v
     | []=>none
 | off+1,_::s=>partO off sz ag s
 | _+1,[]=>none
def zsS: ∀{n:Nat} {vs t:List Value},takeV n vs=some t->t=vs.take n/\n<=vs.length
 | 0,vs,t,h=>by cases h;simp
 | n+1,v::s,t,h=>by
   unfold takeV at h;split at h
   ·rename_i t' a;cases h;obtain ⟨rfl,b⟩:=zsS a;simp_all
   ·cases h
 | _+1,[],_,h=>by cases h
def zod: ∀{off sz:Nat} {ag:Bool} {vs:List Value} {v:Value},partO off sz ag vs=some v->part vs off sz ag=some v
 | 0,sz,ag,vs,v,h=>by
   unfold partO at h;cases ag with
   | true=>
     simp only at h;split at h
     ·rename_i t a;cases h;obtain ⟨rfl,b⟩:=zsS a;have:Bo (0+sz) vs.length=true:=Bm (by omega);rw[By]at this;simp only[part,cond_true,By,this,List.drop_zero]
     ·cases h
   | false=>
     simp only at h;split at h
     ·trivial
     ·cases h
 | off+1,sz,ag,[],v,h=>by cases h
 | off+1,sz,ag,u::s,v,h=>by
   have:=zod (off:=off) (vs:=s) h;cases ag with
   | true=>
     simp only[part,cond_true,List.length_cons,List.drop_succ_cons]at this |-
     have e:Bo (off+1+sz) (s.length+1)=Bo (off+sz) s.length:=by rw[show off+1+sz=(off+sz)+1 by omega];rfl
     simp_all
   | false=>simpa[part] using this
section
variable {pos:String}
def Fb {b k o f:Nat} (a:fieldB P s f=some o) (c:ev fr x=some (.pointer (some ⟨b,k,none⟩))):Y P w0 S0 n fr is ⟨dst,.fieldAddr s x f,ty,pos,aft,gd⟩ (.pointer (some ⟨b,Nat.add k o,none⟩)):=Y.field_box a rfl c
def Ln {h:Nat} {ty':TypeId} (a:elemB P t=some (h,sz,by_)) (b:Can w0 S0 is v (.sl sz' l.length cs')) (c:ev fr x=some v):
    Y P w0 S0 n fr is ⟨dst,.call {callee:=.builtin .len,args:=#[x],argTypes:=#[t]},ty',pos,aft,gd⟩ (.int .i64 (l.length:Int)):=Y.len a b c
def Ix {y:Operand} {h:Nat} {i:Int} (b:elemB P t=some (h,sz,by_)) (c:Can w0 S0 is v (.sl sz' l.length cs')) (hi:idx l i=some z) (a:(ev fr x,ev fr y)=(some v,some (.int k i))):
    Y P w0 S0 n fr is ⟨dst,.indexAddr t x y,ty,pos,aft,gd⟩ (elP v (i.toNat*sz+0)):=by simp only[An]at a;exact Y.index b c hi a.1 a.2
def Fe {o f c:Nat} {i:Int} (a:fieldB P s f=some o) (b:Can w0 S0 is v (.sl sz' l.length cs')) (d:idx l i=some z) (e:ev fr x=some (elP v (i.toNat*sz+c))):
    Y P w0 S0 n fr is ⟨dst,.fieldAddr s x f,ty,pos,aft,gd⟩ (elP v (i.toNat*sz+Nat.add c o)):=Y.field_el a b (zbP d).2.2 rfl e
def lelO (c s:Nat) (ag:Bool) (cs:List C):Option Value:=match valsR ((cs.drop c).take s) with
 | some us=>match Bh us.length s&&(ag||Bh s 1) with
   | true=>loaded ag us
   | false=>none
 | none=>none
def Le [Enc α] {c:Nat} {i:Int} (e:kindB P t=some (ag,s)) (f:Can w0 S0 is v (lc l)) (g:idx l i=some z) (d:(ev fr x,lelO c s ag (Enc.enc z))=(some (elP v (i.toNat*sz+c)),some u)) (h:Enc.sz α=sz:=by exact r):Y P w0 S0 n fr is ⟨dst,.load t x,ty,pos,aft,gd⟩ u:=by
 simp only[An]at d;obtain ⟨j,a⟩:=d;unfold lelO at a;split at a
 ·rename_i us k;split at a
  ·rename_i b;simp only[Ba]at b;exact Y.load_el e h f (zbP g).2.2 j k b.1 b.2 a
  ·trivial
 ·trivial
def Lz [Enc α] {c:Nat} {i:Int} (b:kindB P t=some (ag,s)) (d:Base w0 S0 v (lc l)) (e:idx l i=some z) (a:(ev fr x,loaded ag (bvals w0 v (i.toNat*sz) c (((Enc.enc z).drop c).take s)))=(some (elP v (i.toNat*sz+c)),some u)) (f:Enc.sz α=sz:=by exact r) (hl:Bh (((Enc.enc z).drop c).take s).length s=true:=by exact r) (g:Bf 0 s=true:=by exact r) (h:(ag||Bh s 1)=true:=by exact r):
    Y P w0 S0 n fr is ⟨dst,.load t x,ty,pos,aft,gd⟩ u:=by simp only[An]at a;exact Y.load_base b f d (zbP e).2.2 a.1 hl g h a.2
def Lh [Enc α] {c:Nat} {j:Int} (i:Nat) (e:kindB P t=some (ag,s)) (f:idx l j=some z) (d:(is[i]?,ev fr x,lelO c s ag zs)=(some (.own v (hl l j.toNat zs)),some (elP v (j.toNat*sz+c)),some u)) (g:Enc.sz α=sz:=by exact r) (h:Bh zs.length sz=true:=by exact r):
    Y P w0 S0 n fr is ⟨dst,.load t x,ty,pos,aft,gd⟩ u:=by
 simp only[An]at d;obtain ⟨hi,k,a⟩:=d;unfold lelO at a;split at a
 ·rename_i us m;split at a
  ·rename_i b;simp only[Ba]at b;exact Y.load_hole e g hi (zbP f).2.2 k m b.1 b.2 a h
  ·trivial
 ·trivial
def Pt {c y:Operand} (d:b=true) (a:(ev fr c,ev fr x)=(some (.bool b),some u)):Y P w0 S0 n fr is ⟨dst,.pick c x y,ty,pos,aft,gd⟩ u:=by simp only[An]at a;exact Y.pick_t d a.1 a.2
def Pf {c y:Operand} (d:b=false) (a:(ev fr c,ev fr y)=(some (.bool b),some u)):Y P w0 S0 n fr is ⟨dst,.pick c x y,ty,pos,aft,gd⟩ u:=by simp only[An]at a;exact Y.pick_f d a.1 a.2
inductive PartsI (w0:World) (S0:List Nat) (is:List Item) (fr:Fr):List (Nat × Operand)->List (Nat × List Value)->Prop
 | nil:PartsI w0 S0 is fr [] []
 | cons {i:Nat} {o:Operand} {v:Value} {us:List Value} {ps:List (Nat × Operand)} {qs:List (Nat × List Value)} :ev fr o=some v->Cel w0 S0 is v us->PartsI w0 S0 is fr ps qs->PartsI w0 S0 is fr ((i,o)::ps) ((i,us)::qs)
def PartsI.parts {qs:List (Nat × List Value)} (h:PartsI w0 S0 is fr ps qs):Parts w0 S0 is fr ps qs:=by
 induction h with
 | nil=>trivial
 | cons a b _ ih=>exact ⟨rfl,⟨_,a,b⟩,ih⟩
def Pc {o:Operand} {qs:List (Nat × List Value)} (a:ev fr o=some v) (b:Cel w0 S0 is v us) (c:PartsI w0 S0 is fr ps qs):PartsI w0 S0 is fr ((i,o)::ps) ((i,us)::qs):=.cons a b c
def Pz:PartsI w0 S0 is fr [] []:=.nil
def repK {β:Type} :List Value->List Value->(List Value->Option β)->Option β
 | vs,[],k=>k vs
 | _::s,u::us,k=>repK s us λt=>k (u::t)
 | [],_::_,_=>none
def splK {β:Type} :Nat->List Value->List Value->(List Value->Option β)->Option β
 | 0,vs,us,k=>repK vs us k
 | n+1,v::s,us,k=>splK n s us λt=>k (v::t)
 | _+1,[],_,_=>none
def zt0 {β:Type} : ∀{vs us:List Value} {k:List Value->Option β} {b:β},repK vs us k=some b->us.length<=vs.length/\k (us++vs.drop us.length)=some b
 | vs,[],k,b,h=>⟨by simp,by simpa[repK] using h⟩
 | _::s,u::us,k,b,h=>by obtain ⟨a,c⟩:=zt0 (vs:=s) h;simp_all
 | [],_::_,_,_,h=>by cases h
def zqx {β:Type} : ∀{n:Nat} {vs us:List Value} {k:List Value->Option β} {b:β},splK n vs us k=some b->n+us.length<=vs.length/\k (splice vs n us)=some b
 | 0,vs,us,k,b,h=>by obtain ⟨c,a⟩:=zt0 h;exact ⟨by omega,by simpa[splice] using a⟩
 | n+1,v::s,us,k,b,h=>by
   obtain ⟨c,a⟩:=zqx (vs:=s) h;refine ⟨by simp;omega,?_⟩;have:n+1+us.length=(n+us.length)+1:=by omega
   simpa[splice,this] using a
 | _+1,[],_,_,_,h=>by cases h
def fillsK (place:List (Nat × Nat)):List Value->List (Nat × List Value)->Option (List Value)
 | cells,[]=>some cells
 | cells,(i,us)::s=>match place[i]? with
   | none=>none
   | some (off,sz)=>match Bh us.length sz with
     | true=>splK off cells us λt=>fillsK place t s
     | false=>none
def zqK {place:List (Nat × Nat)} : ∀{qs:List (Nat × List Value)} {cells A:List Value},fillsK place cells qs=some A->fills place cells qs=some A
 | [],_,_,h=>h
 | (i,us)::s,cells,A,h=>by
   unfold fillsK at h;unfold fills;split at h
   ·cases h
   ·rename_i off sz a;split at h
    ·rename_i d;obtain ⟨e,b⟩:=zqx h;have c:(Bh us.length sz&&Bo (off+us.length) cells.length)=true:=by simp_all
     rw[a];simp only[c,cond_true];exact zqK b
    ·cases h
def Bd {t:TypeId} {place:List (Nat × Nat)} {zs cells:List Value} {qs:List (Nat × List Value)} (a:placesB P t=some place) (b:zeroB P t=some (.agg zs.toArray)) (c:PartsI w0 S0 is fr ps qs) (d:fillsK place zs qs=some cells):Y P w0 S0 n fr is ⟨dst,.build t ps.toArray,ty,pos,aft,gd⟩ (.agg cells.toArray):=Y.build qs a b c.parts (zqK d)
def Bc {c:C} (h:Base w0 S0 v c):Can w0 S0 is v c:=h.can
def Oc {c:C} (k:Nat) (h:is[k]? =some (.own v c)):Can w0 S0 is v c:=Can.own k h
def Cp (h:v.cells=us.toArray) (a:us.all (·.oneCell')=true:=by exact r):Cel w0 S0 is v us:=Cel.plain h a
def Ca (h:Ones w0 S0 is us):Cel w0 S0 is (.agg us.toArray) us:=Cel.agg h
def Cb {c:C} (h:Base w0 S0 v c):Cel w0 S0 is v [v]:=Cel.one (One.can h.can)
def Co {c:C} (k:Nat) (h:is[k]? =some (.own v c):=by exact r):Cel w0 S0 is v [v]:=Cel.one (One.can (Can.own k h))
def Ob {c:C} (h:Base w0 S0 v c):One w0 S0 is v:=One.can h.can
def Ow' {c:C} (k:Nat) (h:is[k]? =some (.own v c):=by exact r):One w0 S0 is v:=One.can (Can.own k h)
def Op' (h:v.oneCell'=true:=by exact r):One w0 S0 is v:=One.plain h
def Al {z:Value} {zs:List Value} (a:zeroB P t=some z) (c:z.cells=zs.toArray):
    Ef P w0 S0 n fr is ⟨dst,.alloc t,ty,pos,aft,gd⟩ (λb:Nat=>.pointer (some ⟨b,0,none⟩)) (λb=>.box b t zs::is):=Ef.alloc a c
def Bx {zs:List Value} (a:ev fr x=some v) (c:Cel w0 S0 is v zs):
    Ef P w0 S0 n fr is ⟨dst,.box t x,ty,pos,aft,gd⟩ (λb:Nat=>.pointer (some ⟨b,0,none⟩)) (λb=>.box b t zs::is):=Ef.box a c
def Sb {y:Operand} {b off bt:Nat} {vs:List Value} {is':List Item} (i:Nat) (c:kindB P t=some (ag,sz)) (a:(is[i]?,ev fr x,ev fr y)=(some (.box b bt vs),some (.pointer (some ⟨b,off,none⟩)),some v)) (d:Cel w0 S0 is v us) (e:splK off vs us (λA=>setK i is (.box b bt A) some)=some is') (hl:Bh us.length sz=true:=by exact r):
    Ef P w0 S0 n fr is ⟨none,.store t x y,ty,pos,aft,gd⟩ (λ_:Unit=>undef) (λ_=>is'):=by simp only[An]at a;obtain ⟨f,g⟩:=zqx e;have h:=zqg g;cases h;exact Ef.store_box i c a.1 a.2.1 a.2.2 d hl (Bm f) rfl rfl
def Se [Flat α] {y:Operand} {c:Nat} {j:Int} {is':List Item} (A:α) (i:Nat) (b:kindB P t=some (ag,s)) (d:idx l j=some z) (a:(is[i]?,ev fr x,ev fr y)=(some (.own v (lc l)),some (elP v (j.toNat*sz+c)),some u)) (e:Cel w0 S0 is u us) (f:setK i is (.own v (lc (l.set j.toNat A))) some=some is') (g:Enc.sz α=sz:=by exact r) (hl:Bh us.length s=true:=by exact r) (h:Bo (c+us.length) sz=true:=by exact r) (hs:splice (Flat.vals z) c us=Flat.vals A:=by exact r):
    Ef P w0 S0 n fr is ⟨none,.store t x y,ty,pos,aft,gd⟩ (λ_:Unit=>undef) (λ_=>is'):=by simp only[An]at a;have k:=zqg f;cases k;exact Ef.store_el A i b g a.1 (zbP d).2.2 a.2.1 a.2.2 e hl h hs rfl
def Bs [Flat α] {d:Option Nat} {len:Nat} {z:Value} (xs:List α) (a:elemB P t=some (e,sz,by_)) (c:zeroB P e=some z) (f:Enc.sz α=sz:=by exact r) (g:partVs fr 0 ps=some Vs:=by exact r) (h:xs.length=len:=by exact r) (i:Bo (len*sz) 16777216=true:=by exact r) (j:Vs.map (λV=>V.cells.toList)=xs.map Flat.vals:=by exact r):
    Ef P w0 S0 n fr is ⟨d,.buildSlice t len ps.toArray,ty,pos,aft,gd⟩ (λb:Nat=>.slice (some ⟨b,0,none⟩) len len) (λb=>.own (.slice (some ⟨b,0,none⟩) len len) (lc xs)::is):=Ef.buildSlice xs a c f g h i j
def Ap [Flat α] {d:Option Nat} {y:Operand} {z:Value} {k q:List α} {is':List Item} (F:List Nat) (f:app by_ l k=some q) (g:elemB P t=some (e,sz,by_)) (h:zeroB P e=some z) (b:(takeP F is,ev fr x,ev fr y)=(some ([.own v (lc l)],is'),some v,some u)) (i:Can w0 S0 is u (lc k)) (j:Bh z.cells.size sz=true:=by exact r) (m:Enc.sz α=sz:=by exact r):
    Ef P w0 S0 n fr is ⟨d,.call {callee:=.builtin .append,args:=#[x,y],argTypes:=#[t,t]},ty,pos,aft,gd⟩ (λD:Value=>D) (λD=>.own D (lc q)::is'):=by
 simp only[An]at b;obtain ⟨o,p,s⟩:=b;intro a w K Q c hs E;obtain ⟨D,w',A,B⟩:=append_go (ty:=ty) (hs.takeP o) f g h j m i hs;have C:(execOp a.eval ⟨d,.call {callee:=.builtin .append,args:=#[x,y],argTypes:=#[t,t]},ty,pos,aft,gd⟩).run P w= .ok (.value D) w':=by simp[execOp,resolve,invoke,builtin,c.eval p,c.eval s,A]
 unfold Oper.wp;rw[C];exact E D w' B
def Cn (P:Program) (f:FuncId) (args:List Value) (pre:List Item) (rds:List (Value × C)) (m:Option R) (val:R->X->Value) (post:R->X->List Item):Prop:=
 callB P f=true/\∀q,m=some q->Con P f args pre rds (val q) (post q)
def BaseR (w:World) (S:List Nat):List (Value × C)->Prop
 | []=>True
 | (v,c)::s=>Base w S v c/\BaseR w S s
def BaseR.of {w:World} {S:List Nat} : ∀{rds:List (Value × C)},(∀p∈rds,Base w S p.1 p.2)->BaseR w S rds
 | [],_=>trivial
 | (_,_)::_,h=>⟨h _ (.head _),BaseR.of λp a=>h p (.tail _ a)⟩
def Ci {fn:Func} {rds:List (Value × C)} {k:Nat} {val:R->X->Value} (a:P.funcs[f]? =some fn) (b:fn.body=some c) (d:fn.ntmps=k) (h: ∀w S,BaseR w S rds->TW P w S m k (argFr 0 args) pre c (λq=>bodyPost P fn (λe w'=>∃x,e= .returned (val q x)/\St w S (post q x) w'))) (hl:Bo args.length k=true:=by exact r) (hN:(fn.name != "runtime.NumGoroutine")=true:=by exact r):
    Cn P f args pre rds m val post:=by refine ⟨by unfold callB;rw[a];simp only[hN,b,Option.isSome_some,Bool.and_self],λq g=>?_⟩;exact Con.intro a b d hl g λw S i=>h w S (BaseR.of i)
theorem Cl {val:R->X->Value} {rds:List (Value × C)} (D:List Nat) (c:Cn P f args pre rds m val post) (d:m=some q) (b:(evs fr os,takeP D is)=(some args,some (pre,rest))) (g: ∀x,appK (post q x) rest some=some (is' x)) (h:Cans w0 S0 rest rds:=by exact trivial):
 Ef P w0 S0 n fr is ⟨dst,.call {callee:=.value (.func f),args:=os.toArray,argTypes:=ats},ty,pos,aft,gd⟩ (val q) is':=by
 simp only[An]at b;intro a w K Q i hs E;obtain ⟨A,B,j,t⟩:=(hs.takeP b.2).frame;have k:=c.2 q d w A B λp l=>j _ _ (h.mem p l);have o:(execOp a.eval ⟨dst,.call {callee:=.value (.func f),args:=os.toArray,argTypes:=ats},ty,pos,aft,gd⟩).run P w= .ok (.enter f args.toArray) w:=by simp[execOp,resolve,Act.eval,Deferred.ofValue,invoke,<-i.evals b.1,zl6 c.1]
 unfold Oper.wp;rw[o];refine k.mono ?_;rintro e w' ⟨x,rfl,u⟩;have s:=g x;rw[zkt]at s;grind
def Cm {val:X->Value} {post:X->List Item} {rds:List (Value × C)} (h:List Nat) (a:Con P f args pre rds val post) (b:callB P f=true) (c:(evs fr os,takeP h is)=(some args,some (pre,rest))) (d: ∀x,appK (post x) rest some=some (is' x)) (e:Cans w0 S0 rest rds:=by exact trivial):
    Ef P w0 S0 n fr is ⟨dst,.call {callee:=.value (.func f),args:=os.toArray,argTypes:=ats},ty,pos,aft,gd⟩ val is':=
 Cl (R:=Unit) (m:=some ()) (q:=()) (val:=λ_=>val) (post:=λ_=>post) h ⟨b,λ_ _=>a⟩ rfl c d e
theorem Cw {val:R->X->Value} {rds:List (Value × C)} {cs all:List Value} (D:List Nat) (d:Cn P f all pre rds m val post) (i:m=some q) (b:(evs fr os,ev fr x)=(some args,some (.func (.func f) #[] cs.toArray))) (c:takeP D is=some (pre,rest)) (g: ∀x,appK (post q x) rest some=some (is' x)) (j:Cans w0 S0 rest rds:=by exact trivial) (k:args++cs=all:=by exact r):
 Ef P w0 S0 n fr is ⟨dst,.call {callee:=.value x,args:=os.toArray,argTypes:=ats},ty,pos,aft,gd⟩ (val q) is':=by
 simp only[An]at b;intro a w K Q h hs E;subst k;obtain ⟨A,B,l,v⟩:=(hs.takeP c).frame;have o:=d.2 q i w A B λp s=>l _ _ (j.mem p s);have t:(execOp a.eval ⟨dst,.call {callee:=.value x,args:=os.toArray,argTypes:=ats},ty,pos,aft,gd⟩).run P w= .ok (.enter f (args++cs).toArray) w:=by have g:=zl6 d.1 (args++cs).toArray w;have c:=h.evals b.1;simp[execOp,resolve,h.eval b.2,Deferred.ofValue,invoke,List.map_toArray,c];trivial
 unfold Oper.wp;rw[t];refine o.mono ?_;rintro e w' ⟨x,rfl,y⟩;have u:=g x;rw[zkt]at u;grind
end
def aval (ops:Array Oper) (n:Nat):List Nat->Fr->Option Fr
 | [],fr=>some fr
 | i::s,fr=>match ops[i]? with
   | some ⟨some d,o,_,_,_,none⟩=>match Bf d n with
     | true=>match sval fr o with
       | some v=>aval ops n s ((d,v)::fr)
       | none=>none
     | false=>none
   | _=>none
def aoff (ops:Array Oper) (n j:Nat) (want:Bool) (dj:Nat):List Nat->Fr->Option Fr
 | [],fr=>some fr
 | i::s,fr=>match ops[i]? with
   | some ⟨some d,_,_,_,_,some (j',want')⟩=>match Bf d n&&(Bh j' j&&(want' == want&& !Nat.beq dj d)) with
     | true=>aoff ops n j want dj s ((d,undef)::fr)
     | false=>none
   | _=>none
def decF:List Nat->Nat->Option Nat
 | [],f=>some f
 | _::s,f+1=>decF s f
 | _::_,0=>none
def abits:List Nat->Nat->Nat
 | [],L=>L
 | i::s,L=>abits s (L ||| 2 ^ i)
def ardy (ops:Array Oper):List Nat->Nat->Bool
 | [],_=>true
 | i::s,L=>rdyB ops i L 0&&ardy ops s (L ||| 2 ^ i)
def anob (H:Hd):List Nat->Bool
 | []=>true
 | i::s=>nob i H&&anob H s
def achk (ops:Array Oper) (σ:List Nat):List Nat->Nat->Bool
 | [],_=>true
 | i::s,L=>chkR ops i 0 σ L&&achk ops σ s (L ||| 2 ^ i)
def asid (ops:Array Oper) (fr0:Fr) (H:Hd) (σ:List Side):List Nat->Fr->Bool
 | [],_=>true
 | i::s,fr=>match ops[i]? with
   | some ⟨some d,_,_,_,_,_⟩=>sideC fr fr0 H σ&&(nokey d fr0&&(othr ops.size d σ&&asid ops fr0 H σ s fr))
   | _=>false
def zrb {fr fr0:Fr} {H:Hd} {d e:Nat} {v:Value} : ∀{σ:List Side},sideC fr fr0 H σ=true->othr e d σ=true->sideC ((d,v)::fr) fr0 H σ=true
 | [],_,_=>rfl
 | s::σ,h,a=>by
   unfold sideC at h |-
   unfold othr at a;simp only[Ba]at h a |-
   refine ⟨?_,h.2.1,h.2.2.1,h.2.2.2.1,zrb h.2.2.2.2 a.2.2⟩;unfold nokey;rw[Ba];refine ⟨?_,h.1⟩;have:=a.2.1;simp only[Bl]at this |-
   cases b:Bh d s.d with
   | false=>rfl
   | true=>rw[Nat.eq_of_beq_eq_true b,Nat.beq_refl]at this;cases this
def zrU {ops:Array Oper} {fr0:Fr} {H:Hd} {σ:List Side} {d:Nat} {v:Value} : ∀{s:List Nat} {fr:Fr},sideC fr fr0 H σ=true->othr ops.size d σ=true->asid ops fr0 H σ s fr=true->asid ops fr0 H σ s ((d,v)::fr)=true
 | [],_,_,_,_=>rfl
 | i::s,fr,b,a,h=>by
   unfold asid at h |-
   split at h
   ·rename_i A o ty pos aft g hi;simp only[hi,Ba]at h |-
    exact ⟨zrb h.1 a,h.2.1,h.2.2.1,zrU b a h.2.2.2⟩
   ·cases h
def zipK {β:Type} :List Item->List Nat->(Hd->Option β)->Option β
 | [],_,k=>k []
 | i::is,b::bs,k=>zipK is bs λH=>k ((i,b)::H)
 | _::_,[],_=>none
def heldK (A h:List Nat) (is:List Item):Option (List Item × Hd):=takeK A is λpre rest=>appK rest pre λis'=>zipK pre h λH=>some (is',H)
theorem zxd: ∀{is:List Item} {A:List Nat} {k:Hd->Option β} {b:β},zipK is A k=some b->∃H,k H=some b:=by
 intro is;induction is with
 | nil=>exact λh=>⟨[],h⟩
 | cons i is ih=>
   intro A k b h;cases A with
   | nil=>cases h
   | cons c A=>obtain ⟨H,a⟩:=ih h;grind
def St.heldK {w0:World} {S0 B A:List Nat} {is is':List Item} {H:Hd} (h:Sl.heldK B A is=some (is',H)) {w:World} (hs:St w0 S0 is w):St w0 S0 is' w:=by obtain ⟨pre,rest,a,b⟩:=St.takeK (w0:=w0) (w:=w) (S0:=S0) h;rw[zkt]at a;obtain ⟨D,c⟩:=zxd a;cases c;exact (b w hs).permL Bt
section
variable {o:Op} {pos:String}
def Dr {id:Nat} {is':List Item} (B A:List Nat) (b:heldK B A is=some (is',H)) (c:P.follows .mixedOrders=true) (h:TA P w0 S0 m n fr is' H ops ops.size 0 Q):TW P w0 S0 m n fr is (.region id ops true) Q:=
 λr d a w e hs=>TW.draw c h r d a w e (hs.heldK b)
def Ai {k:X->Option R} (h: ∀x,p=some x->TA P w0 S0 (k x) n fr is H ops fuel L Q):TA P w0 S0 (p.bind k) n fr is H ops fuel L Q:=TA.bind h
def Ia (a:b=true->TA P w0 S0 m1 n fr is H ops fuel L Q) (c:b=false->TA P w0 S0 m2 n fr is H ops fuel L Q):
    TA P w0 S0 (if b=true then m1 else m2) n fr is H ops fuel L Q:=TA.ite a c
def Az (h:TE w0 S0 m n fr is .normal Q) (a:Region.ready .any ops (bm ops.size L)= []:=by kernel_rfl):TA P w0 S0 m n fr is H ops fuel L Q:=TA.nil a h
def Ab (i B:Nat) (hi:ops[i]? =some ⟨some d,o,ty,pos,aft,none⟩) (a:Y P w0 S0 n fr (hb' ops.size B H) ⟨some d,o,ty,pos,aft,none⟩ v) (h:TA P w0 S0 m n ((d,v)::fr) is H ops fuel (L ||| 2 ^ i) Q) (A:sfx is (hl' ops.size L H)=hl' ops.size L H:=by exact r) (b:Bf d n=true:=by exact r) (c:rdyB ops i L B=true:=by kernel_rfl) (e:nob i H=true:=by exact r):TA P w0 S0 m n fr is H ops (fuel+1) L Q:=TA.y i B hi a rfl rfl b c e A h
def Ay (i:Nat) (hi:ops[i]? =some ⟨some d,o,ty,pos,aft,none⟩) (a:Y P w0 S0 n fr (hb' ops.size 0 H) ⟨some d,o,ty,pos,aft,none⟩ v) (h:TA P w0 S0 m n ((d,v)::fr) is H ops fuel (L ||| 2 ^ i) Q) (A:sfx is (hl' ops.size L H)=hl' ops.size L H:=by exact r) (b:Bf d n=true:=by exact r) (c:rdyB ops i L 0=true:=by kernel_rfl) (e:nob i H=true:=by exact r):TA P w0 S0 m n fr is H ops (fuel+1) L Q:=TA.y i 0 hi a rfl rfl b c e A h
def Ag (i B:Nat) (a: ∀o:Oper,o.guard=some g->Gd ops fr o true) (hi:ops[i]? =some ⟨some d,o,ty,pos,aft,some g⟩) (b:Y P w0 S0 n fr (hb' ops.size B H) ⟨some d,o,ty,pos,aft,some g⟩ v) (h:TA P w0 S0 m n ((d,v)::fr) is H ops fuel (L ||| 2 ^ i) Q) (A:sfx is (hl' ops.size L H)=hl' ops.size L H:=by exact r) (c:Bf d n=true:=by exact r) (e:rdyB ops i L B=true:=by kernel_rfl) (f:nob i H=true:=by exact r):TA P w0 S0 m n fr is H ops (fuel+1) L Q:=TA.y i B hi b (a _ rfl) rfl c e f A h
def Aq (js:List Nat) (g:(aval ops n js fr,decF js fuel2)=(some fr',some fuel)) (h:TA P w0 S0 m n fr' is H ops fuel (abits js L) Q) (A:sfx is (hl' ops.size L H)=hl' ops.size L H:=by exact r) (c:ardy ops js L=true:=by kernel_rfl) (b:anob H js=true:=by exact r):TA P w0 S0 m n fr is H ops fuel2 L Q:=by
 simp only[An]at g;obtain ⟨a,e⟩:=g;induction js generalizing fr fuel2 L with
 | nil=>cases a;cases e;exact h
 | cons i s ih=>
   unfold aval at a;split at a
   ·rename_i d o ty pos aft hi;split at a
    ·rename_i j;split at a
     ·rename_i v k;unfold ardy at c;unfold anob at b;rw[Ba]at c b;cases fuel2 with
      | zero=>cases e
      | succ f=>exact TA.y i 0 hi (Y.sval k) rfl rfl j c.1 b.1 A (ih h (by rw[hl_or b.1];exact A) c.2 b.2 a e)
     ·trivial
    ·trivial
   ·trivial
def Ax (js:List Nat) (q:(b == want)=false) (l:(js.head?.bind λi=>(ops[i]?).bind (·.guard),(ops[j]?).bind (·.dst),lk dj fr)=(some (j,want),some dj,some (.bool b))) (a:(aoff ops n j want dj js fr,decF js fuel2)=(some fr',some fuel)) (h:TA P w0 S0 m n fr' is H ops fuel (abits js L) Q) (B:sfx is (hl' ops.size L H)=hl' ops.size L H:=by exact r) (e:ardy ops js L=true:=by kernel_rfl) (c:anob H js=true:=by exact r):TA P w0 S0 m n fr is H ops fuel2 L Q:=by
 simp only[An]at l a;obtain ⟨-,t,p⟩:=l;obtain ⟨a,k⟩:=a;induction js generalizing fr fuel2 L with
 | nil=>cases a;cases k;exact h
 | cons i s ih=>
   unfold aoff at a;split at a
   ·rename_i d o ty pos aft D A hi;split at a
    ·rename_i g;simp only[Ba,Bl]at g;obtain ⟨g,u,v,w⟩:=g;have x:D=j:=by simpa using u
     have y:A=want:=by simpa using v
     subst x y;unfold ardy at e;unfold anob at c;rw[Ba]at e c;cases fuel2 with
     | zero=>cases k
     | succ f=>exact TA.off i hi (Gd.at _ _ dj b rfl t p q) rfl g e.1 c.1 B (ih h (by rw[hl_or c.1];exact B) e.2 c.2 (by rw[zjv w];exact p) a k)
    ·trivial
   ·trivial
def Au (js:List Nat) (k:(js.head?.bind λi=>(ops[i]?).bind (·.guard),(ops[j]?).bind (·.dst),lk dj fr)=(some (j,want),some dj,some undef)) (a:(aoff ops n j want dj js fr,decF js fuel2)=(some fr',some fuel)) (h:TA P w0 S0 m n fr' is H ops fuel (abits js L) Q) (B:sfx is (hl' ops.size L H)=hl' ops.size L H:=by exact r) (c:ardy ops js L=true:=by kernel_rfl) (b:anob H js=true:=by exact r):TA P w0 S0 m n fr is H ops fuel2 L Q:=by
 simp only[An]at k a;obtain ⟨-,p,l⟩:=k;obtain ⟨a,g⟩:=a;induction js generalizing fr fuel2 L with
 | nil=>cases a;cases g;exact h
 | cons i s ih=>
   unfold aoff at a;split at a
   ·rename_i d o ty pos aft D A hi;split at a
    ·rename_i e;simp only[Ba,Bl]at e;obtain ⟨e,q,t,u⟩:=e;have v:D=j:=by simpa using q
     have w:A=want:=by simpa using t
     subst v w;unfold ardy at c;unfold anob at b;rw[Ba]at c b;cases fuel2 with
     | zero=>cases g
     | succ f=>exact TA.off i hi (Gd.un _ _ dj rfl p l) rfl e c.1 b.1 B (ih h (by rw[hl_or b.1];exact B) c.2 b.2 (by rw[zjv u];exact l) a g)
    ·trivial
   ·trivial
def Ou (k:Nat) {l:List Oper} (c:(l.head?.bind (·.guard),(ops[j]?).bind (·.dst),lk dj fr)=(some (j,want),some dj,some undef)) (a:orun n j want dj k l fr=some (l',fr')) (h:TO P w0 S0 m n fr' is ops l' Q):TO P w0 S0 m n fr is ops l Q:=by
 obtain ⟨-,g,f⟩:_/\_/\_:=by simpa using c
 clear c;induction k generalizing l fr with
 | zero=>cases a;exact h
 | succ k ih=>
   unfold orun at a;split at a
   ·trivial
   ·rename_i k' d o ty pos aft B A u e;cases e;split at a
    ·rename_i b;simp only[Ba,Bl]at b;obtain ⟨b,i,p,q⟩:=b;have s:B=j:=by simpa using i
     have t:A=want:=by simpa using p
     subst s t;refine TO.off (Gd.un _ _ dj rfl g f) rfl b (ih a ?_);rw[zjv q];exact f
    ·trivial
   ·trivial
def Xe {val:X->Value} (hi:ops[i]? =some ⟨some d,o,ty,pos,aft,none⟩) (a:Ef P w0 S0 n fr is ⟨some d,o,ty,pos,aft,none⟩ val is') (h: ∀x,TA P w0 S0 m n ((d,val x)::fr) (is' x) H ops fuel (L ||| 2 ^ i) Q) (A: ∀x,sfx (is' x) (hl' ops.size (L ||| 2 ^ i) H)=hl' ops.size (L ||| 2 ^ i) H:=by exact λ_=>r) (b:Bf d n=true:=by exact r):
    TX P w0 S0 m n fr is H ops fuel L Q i:=TX.ef hi a rfl rfl b A h
def moveK (h:List Nat) (is:List Item):Option (List Item):=takeK h is λpre rest=>appK rest pre some
def St.moveK {w0:World} {S0 A:List Nat} {is js:List Item} (h:Sl.moveK A is=some js) {w:World} (hs:St w0 S0 is w):St w0 S0 js w:=by obtain ⟨pre,rest,a,b⟩:=St.takeK (w0:=w0) (w:=w) (S0:=S0) h;rw[zkt]at a;cases a;exact (b w hs).permL Bt
def Ef.move {val:X->Value} {js:X->List Item} {A:Oper} (B:List Nat) (h:Ef P w0 S0 n fr is A val is') (b: ∀x,moveK B (is' x)=some (js x)):Ef P w0 S0 n fr is A val js:=
 λa w K Q c hs D=>h a w K Q c hs λx w' hs'=>D x w' (hs'.moveK (b x))
def Xr {val:X->Value} {js:X->List Item} (A:List Nat) (hi:ops[i]? =some ⟨some d,o,ty,pos,aft,none⟩) (a:Ef P w0 S0 n fr is ⟨some d,o,ty,pos,aft,none⟩ val is') (b: ∀x,moveK A (is' x)=some (js x)) (h: ∀x,TA P w0 S0 m n ((d,val x)::fr) (js x) H ops fuel (L ||| 2 ^ i) Q) (B: ∀x,sfx (js x) (hl' ops.size (L ||| 2 ^ i) H)=hl' ops.size (L ||| 2 ^ i) H:=by exact λ_=>r) (c:Bf d n=true:=by exact r):
    TX P w0 S0 m n fr is H ops fuel L Q i:=TX.ef hi (a.move A b) rfl rfl c B h
def Xrg {val:X->Value} {js:X->List Item} (A:List Nat) (a: ∀o:Oper,o.guard=some g->Gd ops fr o true) (hi:ops[i]? =some ⟨some d,o,ty,pos,aft,some g⟩) (b:Ef P w0 S0 n fr is ⟨some d,o,ty,pos,aft,some g⟩ val is') (c: ∀x,moveK A (is' x)=some (js x)) (h: ∀x,TA P w0 S0 m n ((d,val x)::fr) (js x) H ops fuel (L ||| 2 ^ i) Q) (B: ∀x,sfx (js x) (hl' ops.size (L ||| 2 ^ i) H)=hl' ops.size (L ||| 2 ^ i) H:=by exact λ_=>r) (e:Bf d n=true:=by exact r):
    TX P w0 S0 m n fr is H ops fuel L Q i:=TX.ef hi (b.move A c) (a _ rfl) rfl e B h
def Xu {is':List Item} (hi:ops[i]? =some ⟨none,o,ty,pos,aft,none⟩) (a:Ef P w0 S0 n fr is ⟨none,o,ty,pos,aft,none⟩ (λ_:Unit=>undef) (λ_=>is')) (h:TA P w0 S0 m n fr is' H ops fuel (L ||| 2 ^ i) Q) (A:sfx is' (hl' ops.size (L ||| 2 ^ i) H)=hl' ops.size (L ||| 2 ^ i) H:=by exact r):
    TX P w0 S0 m n fr is H ops fuel L Q i:=TX.ef0 hi a rfl rfl (λ_=>A) λ_=>h
def Xy (hi:ops[i]? =some ⟨some d,o,ty,pos,aft,none⟩) (a:Y P w0 S0 n fr is ⟨some d,o,ty,pos,aft,none⟩ v) (h:TA P w0 S0 m n ((d,v)::fr) is H ops fuel (L ||| 2 ^ i) Q) (A:sfx is (hl' ops.size (L ||| 2 ^ i) H)=hl' ops.size (L ||| 2 ^ i) H:=by exact r) (b:Bf d n=true:=by exact r):TX P w0 S0 m n fr is H ops fuel L Q i:=TX.y hi a rfl rfl b A h
def Xeg {val:X->Value} (a: ∀o:Oper,o.guard=some g->Gd ops fr o true) (hi:ops[i]? =some ⟨some d,o,ty,pos,aft,some g⟩) (b:Ef P w0 S0 n fr is ⟨some d,o,ty,pos,aft,some g⟩ val is') (h: ∀x,TA P w0 S0 m n ((d,val x)::fr) (is' x) H ops fuel (L ||| 2 ^ i) Q) (A: ∀x,sfx (is' x) (hl' ops.size (L ||| 2 ^ i) H)=hl' ops.size (L ||| 2 ^ i) H:=by exact λ_=>r) (c:Bf d n=true:=by exact r):
    TX P w0 S0 m n fr is H ops fuel L Q i:=TX.ef hi b (a _ rfl) rfl c A h
def Xyg (a: ∀o:Oper,o.guard=some g->Gd ops fr o true) (hi:ops[i]? =some ⟨some d,o,ty,pos,aft,some g⟩) (b:Y P w0 S0 n fr is ⟨some d,o,ty,pos,aft,some g⟩ v) (h:TA P w0 S0 m n ((d,v)::fr) is H ops fuel (L ||| 2 ^ i) Q) (A:sfx is (hl' ops.size (L ||| 2 ^ i) H)=hl' ops.size (L ||| 2 ^ i) H:=by exact r) (c:Bf d n=true:=by exact r):TX P w0 S0 m n fr is H ops fuel L Q i:=TX.y hi b (a _ rfl) rfl c A h
def A1 (i:Nat) (h:TX P w0 S0 m n fr is H ops fuel L Q i) (a:Region.ready .any ops (bm ops.size L)= [i]:=by kernel_rfl):TA P w0 S0 m n fr is H ops (fuel+1) L Q:=TA.one i a h
def A2 (i j:Nat) (a:TX P w0 S0 m n fr is H ops fuel L Q i) (b:TX P w0 S0 m n fr is H ops fuel L Q j) (c:Region.ready .any ops (bm ops.size L)= [i,j]:=by kernel_rfl):TA P w0 S0 m n fr is H ops (fuel+1) L Q:=TA.two i j c a b
def Sz: ∀s∈([]:List Side),s.ok P w0 S0 n fr ops:=λ_ h=>by cases h
def Sc (i:Nat) {val:X->Value} {new:X->List Item} {σ:List Side} (hi:ops[i]? =some ⟨some d,o,ty,pos,aft,none⟩) (e: ∀a h,(∀{v c},Base w0 S0 v c->Base a h v c)->Ef P a h n fr [] ⟨some d,o,ty,pos,aft,none⟩ val new) (hs: ∀s∈σ,s.ok P w0 S0 n fr ops) (f:Bf d n=true:=by exact r): ∀s∈(⟨i,d,X,val,new⟩:Side)::σ,s.ok P w0 S0 n fr ops:=by
 intro s b;rcases List.mem_cons.1 b with rfl | b
 ·exact ⟨o,ty,pos,aft,hi,f,e⟩
 ·simp_all
def Ts {σ:List Side} (a: ∀s∈σ,s.ok P w0 S0 n fr ops) (b:decF (σ.map (·.i)) fuel2=some fuel) (h:TM P w0 S0 m n fr σ fr is H ops fuel L Q):TA P w0 S0 m n fr is H ops fuel2 L Q:=by
 have key: ∀(l:List Nat) (f g:Nat),decF l f=some g->f=g+l.length:=by
  intro l;induction l with
  | nil=>exact λf g h=>by cases h;rfl
  | cons x l ih=>
    intro f g h;cases f with
    | zero=>cases h
    | succ f=>rw[ih f g h];simp;omega
 rw[key _ _ _ b,List.length_map];exact TM.start σ a h
variable {fr0:Fr} {σ:List Side}
def Mo (h:TA P w0 S0 m n fr is H ops fuel L Q):TM P w0 S0 m n fr0 [] fr is H ops fuel L Q:=TM.nil h
def Me (j:Nat) {val:X->Value} (hi:ops[j]? =some ⟨some d,o,ty,pos,aft,none⟩) (b: ∀a A,(∀{v c},Base w0 S0 v c->Base a A v c)->Ef P a A n fr is ⟨some d,o,ty,pos,aft,none⟩ val is') (h: ∀x,TM P w0 S0 m n fr0 σ ((d,val x)::fr) (is' x) H ops fuel (L ||| 2 ^ j) Q) (e:Bf d n=true:=by exact r) (f:sideC fr fr0 H σ=true:=by exact r) (g:nokey d fr0=true:=by exact r) (k:othr ops.size d σ=true:=by exact r) (l:chkT ops (some j) [] (σ.map (·.i)) L=true:=by kernel_rfl) (hH:sfx is (hl' ops.size L H)=hl' ops.size L H:=by exact r) (hH': ∀x,sfx (is' x) (hl' ops.size (L ||| 2 ^ j) H)=hl' ops.size (L ||| 2 ^ j) H:=by exact λ_=>r):
    TM P w0 S0 m n fr0 σ fr is H ops (fuel+1) L Q:=TM.ef hi b e f g k l hH hH' h
def Mi (j:Nat) (hi:ops[j]? =some ⟨some d,o,ty,pos,aft,none⟩) (e: ∀b A,(∀{v c},Base w0 S0 v c->Base b A v c)->Y P b A n fr is ⟨some d,o,ty,pos,aft,none⟩ v) (h:TM P w0 S0 m n fr0 σ ((d,v)::fr) is H ops fuel (L ||| 2 ^ j) Q) (f:Bf d n=true:=by exact r) (g:sideC fr fr0 H σ=true:=by exact r) (k:nokey d fr0=true:=by exact r) (l:othr ops.size d σ=true:=by exact r) (p:chkT ops (some j) [] (σ.map (·.i)) L=true:=by kernel_rfl) (hH:sfx is (hl' ops.size L H)=hl' ops.size L H:=by exact r) (hH':sfx is (hl' ops.size (L ||| 2 ^ j) H)=hl' ops.size (L ||| 2 ^ j) H:=by exact r):
    TM P w0 S0 m n fr0 σ fr is H ops (fuel+1) L Q:=
 TM.ef (X:=Unit) (val:=λ_=>v) (is':=λ_=>is) hi (λb A z=>by
  intro a w K Q q hs B
  unfold Oper.wp
  rw[e b A z a w q hs]
  exact B () w hs) f g k l p hH (λ_=>hH') λ_=>h
def Mq (js:List Nat) (g:(aval ops n js fr,decF js fuel2)=(some fr',some fuel)) (h:TM P w0 S0 m n fr0 σ fr' is H ops fuel (abits js L) Q) (A:sfx is (hl' ops.size L H)=hl' ops.size L H:=by exact r) (c:achk ops (σ.map (·.i)) js L=true:=by kernel_rfl) (b:anob H js=true:=by exact r) (hs:asid ops fr0 H σ js fr=true:=by exact r):TM P w0 S0 m n fr0 σ fr is H ops fuel2 L Q:=by
 simp only[An]at g;obtain ⟨a,e⟩:=g;induction js generalizing fr fuel2 L with
 | nil=>cases a;cases e;exact h
 | cons i s ih=>
   unfold aval at a;split at a
   ·rename_i d o ty pos aft hi;split at a
    ·rename_i j;split at a
     ·rename_i v k;unfold achk at c;unfold anob at b;unfold asid at hs;rw[hi]at hs;simp only[Ba]at c b hs;cases fuel2 with
      | zero=>cases e
      | succ f=>refine TM.y 0 hi (Y.sval k) rfl rfl j hs.1 hs.2.1 hs.2.2.1 c.1 b.1 A (ih h (by rw[hl_or b.1];exact A) c.2 b.2 ?_ a e);exact zrU hs.1 hs.2.2.1 hs.2.2.2
     ·trivial
    ·trivial
   ·trivial
def Mc {s:Side} (h: ∀x,TM P w0 S0 m n fr0 σ ((s.d,s.val x)::fr) (s.new x++is) H ops fuel (L ||| 2 ^ s.i) Q) (a:sideC fr fr0 H (s::σ)=true:=by exact r) (b:chkT ops none [s.i] (σ.map (·.i)) L=true:=by kernel_rfl) (hH:sfx is (hl' ops.size L H)=hl' ops.size L H:=by exact r):TM P w0 S0 m n fr0 (s::σ) fr is H ops fuel L Q:=TM.close a b hH h
end
def isSl:C->Bool
 | .sl _ _ _=>true
 | _=>false
def opnO:List C->List Value->Option (List C × List Item)
 | [],_=>some ([],[])
 | c::s,Vs=>match isSl c with
   | true=>match Vs with
     | V::Vs=>match opnO s Vs with
       | some (ds,js)=>some (.raw V::ds,.own V c::js)
       | none=>none
     | []=>none
   | false=>match opnO s Vs with
     | some (ds,js)=>some (c::ds,js)
     | none=>none
def zqd: ∀{cs:List C} {Vs:List Value} {ds:List C} {js:List Item},opnO cs Vs=some (ds,js)->opnC cs Vs=ds/\opnI cs Vs=js
 | [],_,ds,js,h=>by cases h;exact ⟨rfl,rfl⟩
 | c::s,Vs,ds,js,h=>by
   unfold opnO at h;split at h
   ·rename_i a;split at h
    ·rename_i V D;split at h
     ·rename_i A B b;cases h;obtain ⟨d,e⟩:=zqd b;cases c with
      | sl sz k cs=>exact ⟨by simp only[opnC,d],by simp only[opnI,e]⟩
      | _=>cases a
     ·cases h
    ·cases h
   ·rename_i a;split at h
    ·rename_i A B b;cases h;obtain ⟨d,e⟩:=zqd b;cases c with
     | sl sz k cs=>cases a
     | _=>exact ⟨by simp only[opnC,d],by simp only[opnI,e]⟩
    ·cases h
def opI [Enc α] (v:Value) (l:List α) (k:Nat) (rest:List Item):Option (List C × List Item)->Option (List Item)
 | some (cs,js)=>appK js rest λt=>some (.own v (hl l k cs)::t)
 | none=>none
section
def Gt {l:List Oper} (g:Gh w0 S0 is is') (h: ∀x,TO P w0 S0 m n fr (is' x) ops l Q):TO P w0 S0 m n fr is ops l Q:=TO.ghost g h
def Gw (g:Gh w0 S0 is is') (h: ∀x,TW P w0 S0 m n fr (is' x) c Q):TW P w0 S0 m n fr is c Q:=TW.ghost g h
def Ga (g:Gh w0 S0 is is') (h: ∀x,TA P w0 S0 m n fr (is' x) H ops fuel L Q):TA P w0 S0 m n fr is H ops fuel L Q:=TA.ghost g h
def Kt {is':List Item} {l:List Oper} (g: ∀w,St w0 S0 is w->St w0 S0 is' w) (h:TO P w0 S0 m n fr is' ops l Q):TO P w0 S0 m n fr is ops l Q:=TO.conv g h
def Kw {is':List Item} (g: ∀w,St w0 S0 is w->St w0 S0 is' w) (h:TW P w0 S0 m n fr is' c Q):TW P w0 S0 m n fr is c Q:=TW.conv g h
def Ke {is':List Item} {e:Exit} (g: ∀w,St w0 S0 is w->St w0 S0 is' w) (h:TE w0 S0 m n fr is' e Q):TE w0 S0 m n fr is e Q:=TE.conv g h
def Ka {is':List Item} (g: ∀w,St w0 S0 is w->St w0 S0 is' w) (h:TA P w0 S0 m n fr is' H ops fuel L Q):TA P w0 S0 m n fr is H ops fuel L Q:=TA.conv g h
def Cz:Cls [] [] []:=.nil
def Ck {c:C} (h:Cls cs is ds):Cls (c::cs) is (c::ds):=.keep h
def Cf {V:Value} {c:C} (h:Cls cs is ds):Cls (.raw V::cs) (.own V c::is) (c::ds):=.fill h
def Hc [Enc α] {x:α} {i:Int} {ys:List C} {js:List Item} (A:List Nat) (y:α) (a:idx l i=some x) (b:takeP A is=some (.own v (hl l i.toNat zs)::js,rest)) (c:Cls zs js ys) (d:Enc.enc y=ys:=by exact r):
    ∀w,St w0 S0 is w->St w0 S0 (.own v (lc (l.set i.toNat y))::rest) w:=by intro w h;subst d;rw[zvf (zbP a).2.2];exact St.cls c (h.takeP b)
def Hs [Enc α] {x:α} {i:Int} {ys:List C} {js:List Item} (A:List Nat) (a:idx l i=some x) (b:takeP A is=some (.own v (hl l i.toNat zs)::js,rest)) (c:Cls zs js ys) (d:Enc.enc x=ys:=by exact r):
    ∀w,St w0 S0 is w->St w0 S0 (.own v (lc l)::rest) w:=by intro w h;subst d;rw[zpV (zbP a).2.2];exact St.cls c (h.takeP b)
def Ha [Enc α] {k:Nat} {js:List Item} (A:List Nat) (xs:List α) (a:takeP A is=some (.own v (.sl sz k cs)::js,rest)) (b:Cls cs js ds) (c:lc xs= .sl sz k ds:=by exact r):
    ∀w,St w0 S0 is w->St w0 S0 (.own v (lc xs)::rest) w:=by intro w h;rw[c];have:=St.cls (pre:=[]) (post:=[]) b (by simpa using h.takeP a);simp_all
def Ho [Enc α] {x:α} {i:Int} (q:Nat) {isf:Tup q->List Item} (A:List Nat) (d:idx l i=some x) (e:takeP A is=some ([.own v (lc l)],rest)) (f: ∀X:Tup q,opI v l i.toNat rest (opnO (Enc.enc x) (tupL q X))=some (isf X)) (g:slN (Enc.enc x)=q:=by exact r):Gh w0 S0 is isf:=by
 intro w h;have c:=h.takeP e;rw[List.singleton_append,zpV (zbP d).2.2]at c;obtain ⟨Vs,j,n⟩:=St.opn c;obtain ⟨X,rfl⟩:=zqB q Vs (j.trans g);refine ⟨X,?_⟩;have a:=f X;cases b:opnO (Enc.enc x) (tupL q X) with
 | none=>rw[b]at a;cases a
 | some p=>obtain ⟨cs,js⟩:=p;rw[b]at a;obtain ⟨k,m⟩:=zqd b;unfold opI at a;simp only[zkt,Bp]at a;rw[<-a,<-k,<-m];trivial
end
section
variable {pos:String}
def repC {β:Type} :List C->List C->(List C->Option β)->Option β
 | vs,[],k=>k vs
 | _::s,u::us,k=>repC s us λt=>k (u::t)
 | [],_::_,_=>none
def splC {β:Type} :Nat->List C->List C->(List C->Option β)->Option β
 | 0,vs,us,k=>repC vs us k
 | n+1,v::s,us,k=>splC n s us λt=>k (v::t)
 | _+1,[],_,_=>none
theorem zjb {c:C} {s:List C} {A:List Value} (h:valsR (c::s)=some A): ∃v vs,valR c=some v/\valsR s=some vs/\A=v::vs:=by unfold valsR at h;grind
def zrk: ∀{cs:List C} {vs:List Value},valsR cs=some vs->vs.length=cs.length
 | [],vs,h=>by cases h;rfl
 | c::cs,vs,h=>by obtain ⟨v,us,b,a,rfl⟩:=zjb h;simp[zrk a]
def ztZ {β:Type} : ∀{zs cs:List C} {k:List C->Option β} {b:β} {zv us:List Value},repC zs cs k=some b->valsR zs=some zv->valsR cs=some us->
    ∃A,k A=some b/\cs.length<=zs.length/\valsR A=some (us++zv.drop us.length)
 | zs,[],k,b,zv,us,h,a,d=>by cases d;exact ⟨zs,by simpa[repC] using h,by simp,by simpa using a⟩
 | z::s,c::cs,k,b,zv,us,h,a,d=>by
   obtain ⟨v,vs,-,e,rfl⟩:=zjb a
   obtain ⟨u,ts,f,g,rfl⟩:=zjb d
   obtain ⟨A,i,j,l⟩:=ztZ (zs:=s) h e g
   exact ⟨c::A,i,by simpa using j,by simp[valsR,f,l]⟩
 | [],_::_,_,_,_,_,h,_,_=>by cases h
def zt2 {β:Type} : ∀{n:Nat} {zs cs:List C} {k:List C->Option β} {b:β} {zv us:List Value},splC n zs cs k=some b->valsR zs=some zv->valsR cs=some us->
    ∃A,k A=some b/\n+cs.length<=zs.length/\valsR A=some (splice zv n us)
 | 0,zs,cs,k,b,zv,us,h,a,c=>by
   obtain ⟨A,d,g,f⟩:=ztZ h a c
   exact ⟨A,d,by omega,by simpa[splice] using f⟩
 | n+1,z::s,cs,k,b,zv,us,h,a,c=>by
   obtain ⟨v,vs,i,hs,rfl⟩:=zjb a
   obtain ⟨A,d,g,f⟩:=zt2 (zs:=s) h hs c
   refine ⟨z::A,d,by simp;omega,?_⟩
   have e:n+1+us.length=(n+us.length)+1:=by omega
   simp[valsR,i,f,splice,e]
 | _+1,[],_,_,_,_,_,h,_,_=>by cases h
def zlq: ∀is:List Item,pulls (Bw is.length 0) is=some is
 | []=>rfl
 | i::is=>by show pulls (0::Bw is.length 0) (i::is)=_;simp only[pulls,pull,zlq is]
def Sh [Enc α] {y:Operand} {c:Nat} {j:Int} {zv:List Value} {is':List Item} (i:Nat) (cs:List C) (e:kindB P t=some (ag,s)) (f:idx l j=some z) (a:(is[i]?,ev fr x,ev fr y)=(some (.own v (hl l j.toNat zs)),some (elP v (j.toNat*sz+c)),some u)) (g:Cel w0 S0 is u us) (h:splC c zs cs (λE=>setK i is (.own v (hl l j.toNat E)) some)=some is') (b:valsR cs=some us:=by exact r) (d:valsR zs=some zv:=by exact r) (k:Bh us.length s=true:=by exact r) (m:Bh zs.length sz=true:=by exact r) (o:Enc.sz α=sz:=by exact r):
    Ef P w0 S0 n fr is ⟨none,.store t x y,ty,pos,aft,gd⟩ (λ_:Unit=>undef) (λ_=>is'):=by
 simp only[An]at a;obtain ⟨E,p,B,q⟩:=zt2 h d b;have w:=zqg p;cases w;have A:c+us.length<=sz:=by have D:=zrk b;simp_all
 exact Ef.store_hole i e o a.1 (zbP f).2.2 a.2.1 a.2.2 g k m (Bm A) d q rfl
inductive CelsI (w0:World) (S0:List Nat) (is:List Item):List Value->List (List Value)->Prop
 | nil:CelsI w0 S0 is [] []
 | cons {v:Value} {us:List Value} {Vs:List Value} {uss:List (List Value)} :Cel w0 S0 is v us->CelsI w0 S0 is Vs uss->CelsI w0 S0 is (v::Vs) (us::uss)
def CelsI.cels (h:CelsI w0 S0 is Vs uss):Cels w0 S0 is Vs uss:=by
 induction h with
 | nil=>trivial
 | cons a _ ih=>exact ⟨a,ih⟩
def Qc (h:Cel w0 S0 is v us) (a:CelsI w0 S0 is Vs uss):CelsI w0 S0 is (v::Vs) (us::uss):=.cons h a
def Qz:CelsI w0 S0 is [] []:=.nil
def Bk {d:Option Nat} {len:Nat} {z:Value} (cs:List C) (a:elemB P t=some (e,sz,by_)) (c:zeroB P e=some z) (f:partVs fr 0 ps=some Vs) (g:CelsI w0 S0 is Vs uss) (h:Bh Vs.length len=true:=by exact r) (i:uss.all (λus=>Bh us.length sz)=true:=by exact r) (j:Bo (len*sz) 16777216=true:=by exact r) (k:Bf 0 sz=true:=by exact r) (l:valsR cs=some uss.flatten:=by exact r):
    Ef P w0 S0 n fr is ⟨d,.buildSlice t len ps.toArray,ty,pos,aft,gd⟩ (λb:Nat=>.slice (some ⟨b,0,none⟩) len len) (λb=>.own (.slice (some ⟨b,0,none⟩) len len) (.sl sz len cs)::is):=Ef.buildSliceR uss cs a c f h i j k g.cels l
def Aw [Enc α] {d:Option Nat} {y:Operand} {z:Value} {k q:List α} (D:List Nat) (c:app by_ l k=some q) (f:elemB P t=some (e,sz,by_)) (g:zeroB P e=some z) (b:(takeP D is,ev fr x,ev fr y)=(some ([.own v (lc l),.own u (lc k)],rest),some v,some u)) (h:Bh z.cells.size sz=true:=by exact r) (i:Enc.sz α=sz:=by exact r):
    Ef P w0 S0 n fr is ⟨d,.call {callee:=.builtin .append,args:=#[x,y],argTypes:=#[t,t]},ty,pos,aft,gd⟩ (λA:Value=>A) (λA=>.own A (lc q)::rest):=by simp only[An]at b;intro a w K Q j hs B;exact Ef.appN (is':=rest) _ c f g h i (zlq _) b.2.1 b.2.2 a w K Q j (hs.takeP b.1) B
def Mk [Flat α] {y:Operand} {zv:Value} {len:Int} {c:Nat} (z:α) (b:mkLen by_ len=some c) (d:elemB P t=some (e,sz,by_)) (f:zeroB P e=some zv) (a:(ev fr x,ev fr y)=(some (.int k len),some (.int k' len)):=by exact r) (g:zv.cells=(Flat.vals z).toArray:=by exact r) (h:Enc.sz α=sz:=by exact r):
    Ef P w0 S0 n fr is ⟨dst,.makeSlice t x y,ty,pos,aft,gd⟩ (λv:Value=>v) (λv=>.own v (lc (Bw c z))::is):=by simp only[An]at a;exact Ef.make b d f g h a.1 a.2
def M0 [Flat α] {y:Operand} {zv:Value} {len:Int} {c:Nat} (z:α) (b:mkLen by_ len=some c) (d:elemB P t=some (e,sz,by_)) (f:zeroB P e=some zv) (a:(ev fr x,ev fr y)=(some (.int k 0),some (.int k' len)):=by exact r) (g:zv.cells=(Flat.vals z).toArray:=by exact r) (h:Enc.sz α=sz:=by exact r):
    Ef P w0 S0 n fr is ⟨dst,.makeSlice t x y,ty,pos,aft,gd⟩ (λv:Value=>v) (λv=>.own v (lc ([]:List α))::is):=by simp only[An]at a;exact Ef.make0 b d f g h a.1 a.2
def fieldTB (P:Program) (s i:Nat):Option (Nat × TypeId):=
 match P.underlying s with
 | some (.struct fs)=>match fs[i]? with
   | some f=>some (f.offset,f.type)
   | none=>none
 | _=>none
def Fy {cs:Array Value} {f o A:Nat} (b:fieldTB P s f=some (o,A)) (l:kindB P A=some (ag,sz)) (e:ev fr x=some (.agg cs)) (c:(bif ag then some (Value.agg (cs.extract o (o+sz))) else cs[o]?)=some v):
    Y P w0 S0 n fr is ⟨dst,.field s x f,ty,pos,aft,gd⟩ v:=by
 intro a w g hs;unfold fieldTB at b;split at b
 ·rename_i D h;split at b
  ·rename_i B j;simp only[Bp,An]at b;obtain ⟨rfl,rfl⟩:=b;obtain ⟨d,i,p,hi,m,k⟩:=zhc l;cases ag with
   | true=>simp only[cond_true,Bp]at c;subst c;simp[execOp,g.eval e,Instr.field,run_underlying h,j,Go.part,k w,sizeOf,typeInfo,hi,m,asAgg]
   | false=>simp only[cond_false]at c;simp[execOp,g.eval e,Instr.field,run_underlying h,j,Go.part,k w,c,asAgg]
  ·trivial
 ·trivial
theorem Can.altb {E:Value} {c D:C} (k:Nat) (h:is[k]? =some (.alt v c E D)) (a:Base w0 S0 E D):Can w0 S0 is v c:=by
 intro w S hs b;obtain ⟨A,B,d⟩:=zcc h hs;rcases B with B | ⟨_,rfl,rfl⟩
 ·obtain ⟨T,F,e⟩:=Ow.rd B;grind
 ·exact a.can w S hs b
end
end Go.Proofs.YtmenicbkddagmaaGreat.Sl
end
section
open List renaming replicate->An,take_append_drop->Ba,flatMap_append->Bf,nodup_append->Bh,length_take->Bl,flatMap_cons->Bm,length_append->Bp,length_drop->Bw,cons_append->By,append_nil->Cg,mem_append->Cj,nil_append->Cq,map_cons->Cr
open Nat renaming mul_le_mul_right->Bo,beq->Ct
open Option renaming bind_some->Bt,map_some->Bz
namespace Go.Proofs.YtmenicbkddagmaaGreat.Sl
open Go Go.RowKit
variable {v:Value} {α R:Type} {l:List α} {gd:Option (Nat × Bool)} {x:Operand} {rest is:List Item} {ls:List (Option α)} {i:Int} {P:Program} {w0:World} {fr:Fr} {d dst:Option Nat} {sz:Nat}
instance {α:Type} [Enc α]:Enc (Option α):=⟨Enc.sz α,λx=>match x with | some x=>Enc.enc x | none=>An (Enc.sz α) .any,λx=>by cases x<;>simp[Enc.len],Enc.pos⟩
def zr6 [Enc α] (l:List α):(l.map some).flatMap (Enc.enc (α:=Option α))=l.flatMap Enc.enc:=by
 induction l with
 | nil=>rfl
 | cons x l ih=>rw[Cr,Bm,Bm,ih];rfl
def ztP [Enc α] (l:List α):lc (l.map some)=lc l:=by unfold lc;rw[zr6,List.length_map];rfl
def allO {α:Type} :List (Option α)->Option (List α)
 | []=>some []
 | x::l=>x.bind λx=>(allO l).map λl=>x::l
def zpL {α:Type} : ∀{ls:List (Option α)} {l:List α},allO ls=some l->ls=l.map some
 | [],l,h=>by cases h;rfl
 | none::ls,l,h=>by cases h
 | some x::ls,l,h=>by
   simp only[allO,Bt]at h;cases a:allO ls with
   | none=>rw[a]at h;cases h
   | some k=>rw[a]at h;cases h;rw[zpL a];rfl
def zjN {α:Type} : ∀(l:List α),allO (l.map some)=some l
 | []=>rfl
 | x::l=>by simp only[Cr,allO,Bt,zjN l,Bz]
def zgy {z:Option α} {x:α} (h:idx ls i=some z) (a:z=some x):idx ls i=some (some x):=by rw[h,a]
section
variable {S0:List Nat} {m:Option R} {n:Nat} {Q:R->Exit->Act->World->Prop}
variable {ty:TypeId} {pos:String} {aft:Array Edge}
def Cd {c:C} {cs:List C} {ds:List C} (h:Cls cs is ds) (a:goneC c=true:=by exact r):Cls (c::cs) is (.any::ds):=.drop a h
def Hm [Enc α] (A:List Nat) (a:takeP A is=some ([.own v (lc l)],rest)): ∀w,St w0 S0 is w->St w0 S0 (.own v (lc (l.map some))::rest) w:=by intro w h;rw[ztP];exact h.takeP a
def Hv [Enc α] (A:List Nat) (a:allO ls=some l) (b:takeP A is=some ([.own v (lc ls)],rest)): ∀w,St w0 S0 is w->St w0 S0 (.own v (lc l)::rest) w:=by intro w h;rw[<-ztP,<-zpL a];exact h.takeP b
def cmpS (s u:List UInt8):Int:=Lib.compareBytes s u
def Es {f:FuncId} {fn:Func} {y:Operand} {s u:List UInt8} {ats:Array TypeId} (e:P.funcs[f]? =some fn) (g:ev fr x=some (strV s)) (h:ev fr y=some (strV u)) (i:(fn.name == "runtime.NumGoroutine")=false:=by kernel_rfl) (j:fn.body.isNone=true:=by kernel_rfl) (k:Extern.findNext fn=none:=by kernel_rfl) (l:Extern.find fn=some Extern.BytealgCompare.compare:=by kernel_rfl):
    Ef P w0 S0 n fr is ⟨d,.call {callee:=.value (.func f),args:=#[x,y],argTypes:=ats},ty,pos,aft,gd⟩ (λ_:Unit=>.int .i64 (cmpS s u)) (λ_=>is):=by
 intro a w K Q b m hK;have o:(execOp a.eval ⟨d,.call {callee:=.value (.func f),args:=#[x,y],argTypes:=ats},ty,pos,aft,gd⟩).run P w= .ok (.value (.int .i64 (cmpS s u))) w:=by have c:=run_callFunc_extern e i j k l #[strV s,strV u] w;have p:(Extern.BytealgCompare.compare #[strV s,strV u]).run P w= .ok (.int .i64 (cmpS s u)) w:=Lib.run_compareString ⟨s.toArray⟩ ⟨u.toArray⟩ w;rw[p]at c;simp only[Result.andThen_ok]at c;have q:a.eval (.func f)= .func (.func f) #[] #[]:=rfl;simp[execOp,resolve,q,Deferred.ofValue,invoke,b.eval g,b.eval h];trivial
 unfold Oper.wp;rw[o];exact hK () w m
def Nc {sz' c:Nat} {cs':List C} {z:α} (b:Can w0 S0 is v (.sl sz' l.length cs')) (d:idx l i=some z) (e:ev fr x=some (elP v c)):
    Y P w0 S0 n fr is ⟨dst,.nilCheck x,ty,pos,aft,gd⟩ (elP v c):=by
 intro a w f hs;obtain ⟨_,g,_⟩:=zbP d;rcases b.row hs with ⟨h,_,rfl⟩ | ⟨j,cap,vs,S,rfl,_⟩
 ·omega
 ·simp[execOp,f.eval e,elP]
def ptrOk (v:Value):Prop:=match v with
 | .slice (some _) _ _=>True
 | _=>False
def zcy {sz':Nat} {cs':List C} {z:α} (a:Can w0 S0 is v (.sl sz' l.length cs')) (b:idx l i=some z): ∀w,St w0 S0 is w->ptrOk v:=by
 intro w hs;obtain ⟨_,c,_⟩:=zbP b;rcases a.row hs with ⟨d,_,rfl⟩ | ⟨e,cap,vs,S,rfl,_⟩
 ·omega
 ·trivial
def Np {c:Nat} (b:ptrOk v) (d:ev fr x=some (elP v c)):
    Y P w0 S0 n fr is ⟨dst,.nilCheck x,ty,pos,aft,gd⟩ (elP v c):=by
 intro a w e hs;unfold ptrOk at b;split at b
 ·simp[execOp,e.eval d,elP]
 ·trivial
def Fp {o s f c k:Nat} (b:fieldB P s f=some o) (e:ptrOk v) (g:ev fr x=some (elP v (k*sz+c))):
    Y P w0 S0 n fr is ⟨dst,.fieldAddr s x f,ty,pos,aft,gd⟩ (elP v (k*sz+Nat.add c o)):=by
 intro a w i hs;unfold ptrOk at e;split at e
 ·unfold fieldB at b;split at b
  ·rename_i D j;split at b
   ·rename_i B l;split at b
    ·rename_i A m;cases d:Ct A.size 0 with
     | true=>rw[d]at b;cases b
     | false=>
       rw[d]at b;have p:A.size≠0:=by intro h;rw[h]at d;cases d
       simp only[cond_false,Option.some.injEq]at b;simp[execOp,i.eval g,Instr.fieldAt,run_underlying j,l,Instr.sureAddr,fieldPlace,sizeOf,typeInfo,m,p,b,elP,add_add,Nat.add_assoc]
    ·trivial
   ·trivial
  ·trivial
 ·trivial
def mayI {β:Type} [Enc β] (v:Value) (o:Option (List β)):Item:=match o with
 | some l=>.own v (lc l)
 | none=>.ows [] []
def Mb [Enc α] {o:Option (List α)} (A:List Nat) (a:o=some l) (b:takeP A is=some ([mayI v o],rest)): ∀w,St w0 S0 is w->St w0 S0 (.own v (lc l)::rest) w:=by intro w h;subst a;exact h.takeP b
def Mn: ∀w,St w0 S0 is w->St w0 S0 (.ows [] []::is) w:=by intro w ⟨os,tape,output,size,base,S,hS,a,b⟩;exact ⟨os,tape,output,size,base,S,⟨[],S,rfl,.nil,hS⟩,a,b⟩
def Ows.raws {w:World} : ∀{us:List Value},(∀u∈us,u.oneCell'=true)->Ows w us (us.map .raw) []
 | [],_=>.nil
 | u::us,h=>.cons u (.raw u) [] us _ [] (.raw u (h u (by simp))) (Ows.raws λv a=>h v (by simp[a]))
def Ow.raws {w:World} {v:Value} {sz n:Nat} {pre cs post:List C} {A:List Nat} (h:Ow w v (.sl sz n (pre++(cs++post))) A):
    ∃(us:List Value) (B:List Nat),us.length=cs.length/\Ow w v (.sl sz n (pre++(us.map .raw++post))) B/\B.Sublist A:=by
 generalize f:pre++(cs++post)=ds at h;cases h with
 | nil=>
   have a:pre= []:=by cases pre<;>simp_all
   have c:cs= []:=by subst a;cases cs<;>simp_all
   have d:post= []:=by subst a c;simpa using f
   subst a c d;exact ⟨[],[],rfl,.nil sz,.slnil⟩
 | row b n cap e sz cur vs _ S g i j hs k l=>
   subst f;obtain ⟨D,F,rfl,a,c⟩:=l.split;obtain ⟨G,E,rfl,d,m⟩:=c.split;refine ⟨(vs.drop pre.length).take cs.length,b::(D++([]++E)),d.length,.row b n cap e sz cur vs _ _ g i j hs k ?_,?_⟩
   ·have:=a.append ((Ows.raws d.oneCells).append m)
    rwa [Ba,Ba]at this
   ·simp
def Hw [Enc α] {x:α} (q:Nat) {isf:Tup q->List Item} (J:List Nat) (c:idx l i=some x) (d:takeP J is=some ([.own v (lc l)],rest)) (e: ∀X:Tup q,(.own v (hl l i.toNat ((tupL q X).map .raw))::rest)=isf X) (f:Enc.sz α=q:=by exact r):Gh w0 S0 is isf:=by intro w h;obtain ⟨os,tape,output,size,base,S,E,g,j⟩:=h.takeP d;rw[List.singleton_append,zpV (zbP c).2.2]at E;obtain ⟨A,B,rfl,F,G⟩:=E;obtain ⟨us,D,k,I,m⟩:=Ow.raws F;obtain ⟨X,rfl⟩:=zqB q us (by rw[k,Enc.len,f]);have a:(D++B).Sublist (A++B):=m.append (List.Sublist.refl _);refine ⟨X,?_⟩;rw[<-e X];exact ⟨os,tape,output,size,base,D++B,⟨D,B,rfl,I,G⟩,a.nodup g,λb n=>j b (a.subset n)⟩
def Ows.anys {w:World} : ∀{us:List Value},(∀u∈us,u.oneCell'=true)->Ows w us (An us.length .any) []
 | [],_=>.nil
 | u::us,h=>.cons u .any [] us _ [] (.any u (h u (by simp))) (Ows.anys λv a=>h v (by simp[a]))
theorem Ef.appendV {t e by_ k lo j N:Nat} {y:Operand} {z:Value} {cs aq ds bs:List C} {u:Value} {is':List Item} (ks:List Nat) (W:(k+j)*by_<=140737488355328) (X:k+j<=9223372036854775807) (Y:elemB P t=some (e,sz,by_)) (m:zeroB P e=some z) (Z:Ct z.cells.size sz=true) (a0:Nat.blt 0 sz=true) (hp:pulls ks is=some (.own v (.sl sz k cs):: .own u (.sl sz N (aq++(ds++bs)))::is')) (a1:aq.length=lo*sz) (a2:ds.length=j*sz) (a3:lo+j<=N) (hx:ev fr x=some v) (H:ev fr y=some (subV u sz lo j)):
 Ef P w0 S0 n fr is ⟨d,.call {callee:=.builtin .append,args:=#[x,y],argTypes:=#[t,t]},ty,pos,aft,gd⟩ (λv':Value=>v')
  (λv'=>.own v' (.sl sz (k+j) (cs++ds)):: .own u (.sl sz N (aq++(An (j*sz) .any++bs)))::is'):=by
 obtain ⟨I,ti,o,a4,a5⟩:=zC Y;have a6:ti.zero=some z:=by unfold zeroB at m;rw[o]at m;simpa using m
 intro a w K Q J hs hK;have hs':St w0 S0 ([.own v (.sl sz k cs),.own u (.sl sz N (aq++(ds++bs)))]++is') w:=hs.pulls ks hp;have key: ∀A,sats w [.own v (.sl sz k cs),.own u (.sl sz N (aq++(ds++bs)))] A->A.Nodup->
  ∃v' w',(Builtin.append_ #[t,t] ty #[v,subV u sz lo j]).run P w= .ok v' w'/\∃A',Chg w w' A/\sats w' [.own v' (.sl sz (k+j) (cs++ds)),.own u (.sl sz N (aq++(An (j*sz) .any++bs)))] A'/\A'.Nodup/\∀b∈A',b∈A\/w.heap.size<=b:=by
  rintro A ⟨A1,A2,rfl,p,A3,A4,rfl,L,h3⟩ s
  rw[show A4= [] from h3,Cg]at s |-
  obtain ⟨us,T1,e1,M,O,rfl⟩:=Ow.ownsRow p
  generalize hG:aq++(ds++bs)=xs at L
  cases L with
  | nil=>
    have hj:j=0:=by omega
    have a7:lo=0:=by omega
    subst hj a7;have a8:ds= []:=List.eq_nil_of_length_eq_zero (by omega);subst a8;have D:=append_none_any (P:=P) (ty:=ty) I o v k us M;refine ⟨v,w,by simpa[subV] using D,(v.ownBlock.toList++T1)++ [],Chg.refl _ _,⟨v.ownBlock.toList++T1,[],rfl,?_,[],[],rfl,?_,rfl⟩,by simpa using s,λb hb=>.inl (by simpa using hb)⟩
    ·simp_all
    ·rw[Nat.zero_mul,List.replicate_zero,hG];exact .nil sz
  | row b n2 cap2 R sz2 cur vs _ T2 E S hm a9 T hr=>
    subst hG;obtain ⟨S1,S23,rfl,F,b0⟩:=hr.split;obtain ⟨S2,S3,rfl,g,l⟩:=b0.split;have hmulN:(lo+j)*sz<=N*sz:=Bo _ a3;rw[Nat.add_mul]at hmulN;have hleN:N*sz<=cap2*sz:=Bo _ S;have b8:vs.length=N*sz:=by rw[<-T,Bl,Array.length_toList];omega
    rw[a1]at F g l;rw[a2]at g l;have G:((vs.drop (lo*sz)).take (j*sz)).length=j*sz:=by rw[Bl,Bw];omega
    have b1: ∀i q,((vs.drop (lo*sz)).take (j*sz))[i]? =some q->w.cell? ((⟨b,lo*sz,none⟩:Addr).add i)=some q:=by
     intro i q c;have hi:i<j*sz:=by rw[<-G];exact (List.getElem?_eq_some_iff.1 c).1
     rw[add_lit,cell_of_row w b (lo*sz+i) cur R (0,0) E];grind
    obtain ⟨adr,b2,b3⟩: ∃adr:Addr,subV (.slice (some ⟨b,0,none⟩) N cap2) sz lo j= .slice (some adr) j (cap2 - lo)/\∀i q,((vs.drop (lo*sz)).take (j*sz))[i]? =some q->w.cell? (adr.add i)=some q:=by
     by_cases U:cap2=lo
     ·refine ⟨⟨b,0,none⟩,by simp only[subV,if_pos U],λi q c=>?_⟩;grind
     ·refine ⟨⟨b,lo*sz,none⟩,?_,b1⟩;simp only[subV,if_neg U,Bz,add_lit,Nat.zero_add]
    rw[b2];obtain ⟨v',w',f,r1,r2,V,r4⟩:=append_raw (P:=P) (ty:=ty) I o a6 a4 a5 (by simpa using Z) (by simpa using a0) M adr j (cap2 - lo) _ G b3 g.oneCells X W;obtain ⟨hndL,hndR,b9⟩:=Bh.1 s;obtain ⟨hndV,hndT,hdisV⟩:=Bh.1 hndL;obtain ⟨c0,hndT2⟩:=List.nodup_cons.1 hndR;have c1:=O.lt;have hltA:=F.lt;have hltB:=g.lt;have hltC:=l.lt;have c2:b<w.heap.size:=(Array.getElem?_eq_some_iff.1 E).1;have h: ∀q∈T1++(b::(S1++(S2++S3))),w'.heap[q]? =w.heap[q]?:=by
     intro q c;refine V.block q ?_ ?_
     ·grind
     ·grind
    have hO1:=O.keep (w':=w') λq c=>h q (Cj.2 (.inl c));have hO2:=g.keep (w':=w') λq c=>h q (by simp[c]);have hO3:=F.keep (w':=w') λq c=>h q (by simp[c]);have hO4:=l.keep (w':=w') λq c=>h q (by simp[c]);have b4:Chg w w' ((v.ownBlock.toList++T1)++(b::(S1++(S2++S3)))):=Chg.of_grown V _ λq c=>by simp only[Cj];exact .inl (.inl c)
    have b5:Ow w' (.slice (some ⟨b,0,none⟩) N cap2) (.sl sz N (aq++(An (j*sz) .any++bs))) (b::(S1++S3)):=by refine .row b N cap2 R sz cur vs _ _ ((h b (by simp)).trans E) S hm a9 T ?_;have h7:=hO3.append ((Ows.anys (w:=w') g.oneCells).append hO4);rw[G,Ba,Ba,Cq]at h7;trivial
    refine ⟨v',w',r1,(v'.ownBlock.toList++(T1++S2))++(b::(S1++S3)),b4,⟨_,_,rfl,Ow.of_ownsRow r2 (hO1.append hO2),_,[],by rw[Cg],b5,rfl⟩,?_,?_⟩
    ·have c3: ∀q∈v'.ownBlock.toList,q∈v.ownBlock.toList\/w.heap.size<=q:=r4;have b6:((T1++S2)++(b::(S1++S3))).Nodup:=by
      have c4:(T1++(b::(S1++(S2++S3)))).Perm ((T1++S2)++(b::(S1++S3))):=by grind
      grind
     rw[List.append_assoc];refine Bh.2 ⟨by cases v'.ownBlock<;>simp,b6,?_⟩;intro q c y H e;subst e;have c5:q∈T1++(b::(S1++(S2++S3))):=by grind
     grind
    ·grind
 obtain ⟨SA,hSA⟩:=hs'.own;obtain ⟨A,B,rfl,hA,hB⟩:=zb5.1 hSA.1;obtain ⟨v',w',p,_⟩:=key A hA (Bh.1 hSA.2.1).1;have b7:St w0 S0 ([.own v' (.sl sz (k+j) (cs++ds)),.own u (.sl sz N (aq++(An (j*sz) .any++bs)))]++is') w':=hs'.step λA hA hn=>by grind
 have D:(execOp a.eval ⟨d,.call {callee:=.builtin .append,args:=#[x,y],argTypes:=#[t,t]},ty,pos,aft,gd⟩).run P w= .ok (.value v') w':=by simp[execOp,resolve,invoke,builtin,J.eval hx,J.eval H,p]
 unfold Oper.wp;rw[D];exact hK v' w' b7
def cutO (ls:List (Option α)) (lo hi:Int):Option (List α × List (Option α)):=
 if 0<=lo/\lo<=hi/\hi<=ls.length then (allO ((ls.drop lo.toNat).take (hi.toNat - lo.toNat))).map λz=>(z,ls.take lo.toNat++(An (hi.toNat - lo.toNat) none++ls.drop hi.toNat)) else none
def zwK {A:List (Option α)} {z:List α} {lo hi:Int} (h:cutO ls lo hi=some (z,A)):
    0<=lo/\lo<=hi/\hi<=ls.length/\(ls.drop lo.toNat).take (hi.toNat - lo.toNat)=z.map some/\A=ls.take lo.toNat++(An (hi.toNat - lo.toNat) none++ls.drop hi.toNat):=by
 unfold cutO at h;split at h
 ·rename_i a;cases b:allO ((ls.drop lo.toNat).take (hi.toNat - lo.toNat)) with
  | none=>rw[b]at h;cases h
  | some B=>rw[b]at h;cases h;exact ⟨a.1,a.2.1,a.2.2,zpL b,rfl⟩
 ·cases h
def zv7 [Enc α] (k:Nat):(An k (none:Option α)).flatMap Enc.enc=An (k*Enc.sz α) .any:=by
 induction k with
 | zero=>simp
 | succ k ih=>rw[List.replicate_succ,Bm,ih,Nat.succ_mul,Nat.add_comm,<-List.replicate_append_replicate];rfl
theorem Av [Enc α] {t e by_:Nat} {y:Operand} {z:Value} {g q:List α} {V:List (Option α)} {u:Value} {lo hi:Int} (W:List Nat) (o:cutO ls lo hi=some (g,V)) (p:app by_ l g=some q) (s:elemB P t=some (e,sz,by_)) (A:zeroB P e=some z) (b:(takeP W is,ev fr x,ev fr y)=(some ([.own v (lc l),.own u (lc ls)],rest),some v,some (subV u sz lo.toNat (hi.toNat - lo.toNat)))) (B:Ct z.cells.size sz=true:=by exact r) (D:Enc.sz α=sz:=by exact r):
 Ef P w0 S0 n fr is ⟨d,.call {callee:=.builtin .append,args:=#[x,y],argTypes:=#[t,t]},ty,pos,aft,gd⟩ (λU:Value=>U) (λU=>.own U (lc q):: .own u (lc V)::rest):=by
 subst D;simp only[Prod.mk.injEq]at b;obtain ⟨H,I,J,c,rfl⟩:=zwK o;obtain ⟨rfl,f,h⟩:=zku p;have i:g.length=hi.toNat - lo.toNat:=by have:=congrArg List.length c;grind
 have E:ls=ls.take lo.toNat++(g.map some++ls.drop hi.toNat):=by
  conv=>lhs;rw[<-Ba lo.toNat ls,<-Ba (hi.toNat - lo.toNat) (ls.drop lo.toNat),c,List.drop_drop]
  grind
 have F:lc ls= .sl (Enc.sz α) ls.length ((ls.take lo.toNat).flatMap Enc.enc++(g.flatMap Enc.enc++(ls.drop hi.toNat).flatMap Enc.enc)):=by
  show C.sl (Enc.sz α) ls.length (ls.flatMap Enc.enc)=_;conv=>lhs;rw[show ls.flatMap (Enc.enc (α:=Option α))=(ls.take lo.toNat++(g.map some++ls.drop hi.toNat)).flatMap Enc.enc from congrArg _ E]
  rw[Bf,Bf,zr6]
 have L:lc (ls.take lo.toNat++(An (hi.toNat - lo.toNat) none++ls.drop hi.toNat))= .sl (Enc.sz α) ls.length ((ls.take lo.toNat).flatMap Enc.enc++(An ((hi.toNat - lo.toNat)*Enc.sz α) .any++(ls.drop hi.toNat).flatMap Enc.enc)):=by unfold lc;rw[Bf,Bf,zv7,Bp,Bp,Bl,List.length_replicate,Bw];rw[show min lo.toNat ls.length+(hi.toNat - lo.toNat+(ls.length - hi.toNat))=ls.length by omega];rfl
 have M:lc (l++g)= .sl (Enc.sz α) (l.length+(hi.toNat - lo.toNat)) (l.flatMap Enc.enc++g.flatMap Enc.enc):=by unfold lc;grind
 rw[i]at f h;intro a w K Q G hs Z;have m:=hs.takeP b.1;rw[By,By,Cq,F]at m;refine Ef.appendV (P:=P) (is':=rest) (by_:=by_) (lo:=lo.toNat) (j:=hi.toNat - lo.toNat) (k:=l.length) (N:=ls.length) _ f h s A B (by simpa using Enc.pos (α:=α)) (zlq _) ?_ ?_ (by omega) b.2.1 b.2.2 a w K Q G m (λU w' O=>?_)
 ·rw[zbj,Bl];show min lo.toNat ls.length*Enc.sz α=_;congr 1;omega
 ·rw[zbj,i]
 ·grind
end
section
variable {S0:List Nat} {m:Option R} {n:Nat} {H:Hd} {Q:R->Exit->Act->World->Prop} {ops:Array Oper} {fuel L:Nat}
theorem A4 (i j k l:Nat) (b:TX P w0 S0 m n fr is H ops fuel L Q i) (c:TX P w0 S0 m n fr is H ops fuel L Q j) (d:TX P w0 S0 m n fr is H ops fuel L Q k) (e:TX P w0 S0 m n fr is H ops fuel L Q l) (a:Region.ready .any ops (bm ops.size L)= [i,j,k,l]:=by kernel_rfl):TA P w0 S0 m n fr is H ops (fuel+1) L Q:=
 TA.all [i,j,k,l] a (by simp) λq f=>by grind
end
section
variable {n:Nat}
def Rz:RV P fr is [] []:=trivial
def Rf {h:List Nat} {fn:Func} {X:Type} {val:R->X->Value} {post:R->X->List Item} {q:R} {e:Exit} {vs:List Value} (x:X) (A:List Nat) (a:RV P fr is fn.results.toList vs) (b:backE e=true:=by exact r) (c:retV vs=val q x:=by exact r) (hi:pulls A is=some (post q x):=by exact r):
    TE w0 h (some q) n fr is e (λq=>bodyPost P fn (λe w'=>∃x,e= .returned (val q x)/\St w0 h (post q x) w')):=
 TE.leaf λ_ _ d hs=>zt1 (by cases e<;>first | exact .inl rfl | exact .inr rfl | cases b) (Array.toArray_toList).symm a d hs ⟨x,by rw[c],hs.pulls A hi⟩
end
end Go.Proofs.YtmenicbkddagmaaGreat.Sl
end
section
open List.cons renaming injEq->An
open Nat renaming beq->Ba,blt->Bf
open Option.some renaming injEq->Bh
open List renaming replicate->Bl
open Bool renaming and_eq_true->Bm
open Int renaming ofNat_inj->Bo
open Prod.mk renaming injEq->Bp
namespace Go.Proofs.YtmenicbkddagmaaGreat.Sl
open Go Go.RowKit
variable {aq is is':List Item} {P:Program} {fr fr':Fr} {w0 w:World} {R X σ τ:Type} {ops ops':Array Oper} {S0 S hs hs':List Nat} {n:Nat} {c:Code} {v:Value} {Q:R->Exit->Act->World->Prop} {l' l:List Oper} {q:R} {fn:Func}
inductive Tb where
 | e
 | n (k v:Nat) (l r:Tb)
def Tb.get:Tb->Nat->Option Nat
 | .e,_=>none
 | .n k v l r,q=>match Ba q k with
   | true=>some v
   | false=>match Bf q k with
     | true=>l.get q
     | false=>r.get q
def Tb.all (p:Nat->Nat->Bool):Tb->Bool
 | .e=>true
 | .n k v l r=>p k v&&(l.all p&&r.all p)
def Tb.sound {p:Nat->Nat->Bool} : ∀{t:Tb},t.all p=true->∀{q v:Nat},t.get q=some v->p q v=true
 | .e,_,_,_,h=>by cases h
 | .n k v l r,h,q,u,a=>by
   unfold Tb.all at h;simp only[Bm]at h;unfold Tb.get at a;split at a
   ·simp_all
   ·split at a
    ·exact Tb.sound h.2.1 a
    ·exact Tb.sound h.2.2 a
def fldB (P:Program) (q v:Nat):Bool:=match fieldB P (q / 64) (q % 64) with | some o=>Ba o v | none=>false
def kndB (P:Program) (q v:Nat):Bool:=match kindB P q with | some (ag,sz)=>(ag == Ba (v % 2) 1)&&Ba sz (v / 2) | none=>false
def eltB (P:Program) (q v:Nat):Bool:=match elemB P q with | some (_,sz,_)=>Ba sz v | none=>false
class Tab (P:Program) where
 f:Tb
 k:Tb
 e:Tb
 hf:f.all (fldB P)=true
 hk:k.all (kndB P)=true
 he:e.all (eltB P)=true
def Tab.field [T:Tab P] {s i o:Nat} (hi:Bf i 64=true) (h:T.f.get (s*64+i)=some o):fieldB P s i=some o:=by
 have:=Tb.sound T.hf h;have a:=zkw.1 hi;unfold fldB at this;rw[show (s*64+i) / 64=s by omega,show (s*64+i) % 64=i by omega]at this;split at this
 ·simp_all
 ·trivial
def Tab.kind [T:Tab P] {t c:Nat} (h:T.k.get t=some c):kindB P t=some (Ba (c % 2) 1,c / 2):=by
 have:=Tb.sound T.hk h;unfold kndB at this;split at this
 ·simp_all
 ·trivial
def Tab.elem [T:Tab P] {t c:Nat} (h:T.e.get t=some c): ∃e by_,elemB P t=some (e,c,by_):=by
 have:=Tb.sound T.he h;unfold eltB at this;split at this
 ·simp_all
 ·trivial
structure IxF where
 α:Type
 enc:Enc α
 l:List α
 i:Int
 z:α
def IxF.ok (x:IxF):Prop:=idx x.l x.i=some x.z
def IxsOk:List IxF->Prop
 | []=>True
 | x::s=>x.ok/\IxsOk s
def Xz:IxsOk []:=trivial
def Xc {α:Type} [e:Enc α] {l:List α} {i:Int} {z:α} {s:List IxF} (h:idx l i=some z) (hs:IxsOk s):IxsOk (⟨α,e,l,i,z⟩::s):=⟨h,hs⟩
def IxsOk.get: ∀{s:List IxF} {k:Nat} {x:IxF},IxsOk s->s[k]? =some x->x.ok
 | y::s,0,x,h,a=>by cases a;exact h.1
 | y::s,k+1,x,h,a=>IxsOk.get (s:=s) (k:=k) h.2 (by simpa using a)
def BsOk:List (Bool × Bool)->Prop
 | []=>True
 | (b,c)::s=>b=c/\BsOk s
def BsOk.get: ∀{s:List (Bool × Bool)} {k:Nat} {b c:Bool},BsOk s->s[k]? =some (b,c)->b=c
 | (_,_)::s,0,b,c,h,a=>by cases a;exact h.1
 | (_,_)::s,k+1,b,c,h,a=>BsOk.get (s:=s) (k:=k) h.2 (by simpa using a)
structure Ctx where
 rds:List (Value × C)
 ixs:List IxF
 gs:List (Bool × Bool)
structure Ctx.ok (w0:World) (S0:List Nat) (K:Ctx):Prop where
 rds:BaseR w0 S0 K.rds
 ixs:IxsOk K.ixs
 gs:BsOk K.gs
def Gz:BsOk []:=trivial
def Gc {b c:Bool} {s:List (Bool × Bool)} (h:b=c) (hs:BsOk s):BsOk ((b,c)::s):=⟨h,hs⟩
def Bq {c:C} {rds:List (Value × C)} (h:Base w S v c) (hs:BaseR w S rds):BaseR w S ((v,c)::rds):=⟨h,hs⟩
def Kk {rds:List (Value × C)} {xs:List IxF} {gs:List (Bool × Bool)} (a:BaseR w S rds) (b:IxsOk xs) (c:BsOk gs):Ctx.ok w S ⟨rds,xs,gs⟩:=⟨a,b,c⟩
def Kx {rds:List (Value × C)} {xs:List IxF} (a:BaseR w S rds) (b:IxsOk xs):Ctx.ok w S ⟨rds,xs,[]⟩:=⟨a,b,Gz⟩
def Kg {rds:List (Value × C)} {gs:List (Bool × Bool)} (a:BaseR w S rds) (b:BsOk gs):Ctx.ok w S ⟨rds,[],gs⟩:=⟨a,Xz,b⟩
def BaseR.get {w:World} {S:List Nat} : ∀{rds:List (Value × C)} {k:Nat} {v:Value} {c:C},BaseR w S rds->rds[k]? =some (v,c)->Base w S v c
 | (_,_)::s,0,_,_,h,a=>by cases a;exact h.1
 | (_,_)::s,k+1,_,_,h,a=>BaseR.get (rds:=s) (k:=k) h.2 (by simpa using a)
def dat (rds:List (Value × C)) (is:List Item) (h:Nat):Option (Value × C):=match Bf h 100 with
 | true=>match is[h]? with
   | some (.own v c)=>some (v,c)
   | _=>none
 | false=>rds[Nat.sub h 100]?
def zjc {rds:List (Value × C)} {h:Nat} {c:C} (b:BaseR w0 S0 rds) (a:dat rds is h=some (v,c)):Can w0 S0 is v c:=by
 unfold dat at a;split at a
 ·split at a
  ·rename_i B A hi;cases a;exact Can.own h hi
  ·trivial
 ·exact (BaseR.get b a).can
def opV (T:Tab P) (K:Ctx) (fr:Fr) (is:List Item) (hs:List Nat) (aq A:List Item):Op->Option (List Nat × Value × List Item × List Item)
 | .fieldAddr s x f=>match hs with
   | 0::hs=>match ev fr x,Bf f 64,T.f.get (s*64+f) with
     | some (.pointer (some ⟨b,off,none⟩)),true,some o=>some (hs,.pointer (some ⟨b,Nat.add off o,none⟩),aq,A)
     | _,_,_=>none
   | (h+1)::j::c::hs=>match dat K.rds is h,K.ixs[j]?,ev fr x,Bf f 64,T.f.get (s*64+f) with
     | some (v,.sl _ m _),some ⟨_,e,l,i,_⟩,some u,true,some o=>some (hs,elP v (i.toNat*e.sz+Nat.add c o),.own u (.int .i64 m)::aq,.own (elP v (i.toNat*e.sz+c)) (.int .i64 l.length)::A)
     | _,_,_,_,_=>none
   | _=>none
 | .load t x=>match hs with
   | h::hs=>match Bf h 200,T.k.get t,ev fr x with
     | true,some c,some (.pointer (some ⟨b,off,none⟩))=>match is[h]? with
       | some (.box b' _ vs)=>match partO off (c / 2) (Ba (c % 2) 1) vs with
         | some v=>some (hs,v,.own (pt b) .any::aq,.own (pt b') .any::A)
         | none=>none
       | _=>none
     | false,some c,some u=>match hs with
       | j::q::hs=>match dat K.rds is (Nat.sub h 200),K.ixs[j]? with
         | some (v,d),some ⟨_,e,l,i,z⟩=>match lelO q (c / 2) (Ba (c % 2) 1) (e.enc z) with
           | some r=>some (hs,r,.own u d::aq,.own (elP v (i.toNat*e.sz+q)) (lc l)::A)
           | none=>none
         | _,_=>none
       | _=>none
     | _,_,_=>none
   | []=>none
 | .indexAddr t x y=>match hs with
   | h::j::hs=>match dat K.rds is h,K.ixs[j]?,T.e.get t,ev fr x,ev fr y with
     | some (v,.sl _ m _),some ⟨_,_,l,i,_⟩,some sz,some u,some (.int k i')=>some (hs,elP v (i.toNat*sz+0),.own u (.int .i64 m):: .own (.int k i') .any::aq,.own v (.int .i64 l.length):: .own (.int k i) .any::A)
     | _,_,_,_,_=>none
   | _=>none
 | .call ⟨.builtin .len,⟨[x]⟩,⟨[t]⟩⟩=>match hs with
   | h::hs=>match dat K.rds is h,T.e.get t,ev fr x with
     | some (v,.sl _ m _),some _,some u=>some (hs,.int .i64 (m:Int),.own u .any::aq,.own v .any::A)
     | _,_,_=>none
   | []=>none
 | .pick c x y=>match hs with
   | g::hs=>match K.gs[g]?,ev fr c with
     | some (b,w),some (.bool b')=>match ev fr (bif w then x else y) with
       | some v=>some (hs,v,.own (.bool b') .any::aq,.own (.bool b) .any::A)
       | none=>none
     | _,_=>none
   | []=>none
 | o=>match sval fr o with
   | some v=>some (hs,v,aq,A)
   | none=>none
section
variable {K:Ctx}
def zo5 [T:Tab P] (G:K.ok w0 S0) {O I J:List Item} {o:Op} (h:opV T K fr is hs aq O o=some (hs',v,I,J)) (e:I=J):
    aq=O/\∀dst ty pos aft gd,Y P w0 S0 n fr is ⟨dst,o,ty,pos,aft,gd⟩ v:=by
 unfold opV at h;split at h
 ·split at h
  ·split at h
   ·rename_i b off W a p q;cases h;exact ⟨e,λdst ty pos aft gd=>Fb (Tab.field p q) a⟩
   ·cases h
  ·split at h
   ·rename_i v sz' M cs' _ U l i z u W f j a p q;cases h;simp only[An,Item.own.injEq,C.int.injEq,true_and,Bo]at e;obtain ⟨⟨rfl,rfl⟩,e⟩:=e;exact ⟨e,λdst ty pos aft gd=>Fe (Tab.field p q) (zjc G.rds f) (G.ixs.get j) a⟩
   ·cases h
  ·cases h
 ·split at h
  ·split at h
   ·rename_i c b off _ g a;split at h
    ·rename_i V bt vs hi;split at h
     ·rename_i u m;cases h;simp only[An,Item.own.injEq,Value.pointer.injEq,Bh,Addr.mk.injEq,and_true]at e;obtain ⟨rfl,e⟩:=e;exact ⟨e,λdst ty pos aft gd=>Y.load_box _ (Tab.kind g) hi a (zod m)⟩
     ·cases h
    ·cases h
   ·rename_i c u _ g a;split at h
    ·split at h
     ·rename_i N d _ U l i z f j;split at h
      ·rename_i r' y;cases h;simp only[An,Item.own.injEq]at e;obtain ⟨⟨rfl,rfl⟩,e⟩:=e;exact ⟨e,λdst ty pos aft gd=>Le (Tab.kind g) (zjc G.rds f) (G.ixs.get j) (by rw[a,y]) rfl⟩
      ·cases h
     ·cases h
    ·cases h
   ·cases h
  ·cases h
 ·split at h
  ·split at h
   ·rename_i N sz' M cs' _ U l i z sz u k Z f j hs a A;cases h;simp only[An,Item.own.injEq,Value.int.injEq,C.int.injEq,true_and,and_true,Bo]at e;obtain ⟨⟨rfl,rfl⟩,⟨-,rfl⟩,e⟩:=e;obtain ⟨el,by_,s⟩:=Tab.elem hs;exact ⟨e,λdst ty pos aft gd=>Ix s (zjc G.rds f) (G.ixs.get j) (by rw[a,A])⟩
   ·cases h
  ·cases h
 ·split at h
  ·split at h
   ·rename_i N sz' M cs' F u f hs a;cases h;simp only[An,Item.own.injEq,and_true]at e;obtain ⟨rfl,e⟩:=e;obtain ⟨el,by_,s⟩:=Tab.elem hs;have B:(Bl M ()).length=M:=List.length_replicate;refine ⟨e,λdst ty pos aft gd=>?_⟩;have:=Ln (n:=n) (l:=Bl M ()) (dst:=dst) (ty':=ty) (pos:=pos) (aft:=aft) (gd:=gd) (t:=_) s (by rw[B];exact zjc G.rds f) a;simp_all
   ·cases h
  ·cases h
 ·split at h
  ·split at h
   ·rename_i b w V D g;split at h
    ·rename_i u m;cases h;simp only[An,Item.own.injEq,Value.bool.injEq,and_true]at e;obtain ⟨rfl,e⟩:=e;have x:=G.gs.get D;refine ⟨e,λdst ty pos aft gd=>?_⟩;cases w with
     | true=>exact Y.pick_t x g m
     | false=>exact Y.pick_f x g m
    ·cases h
   ·cases h
  ·cases h
 ·split at h
  ·rename_i N E;cases h;exact ⟨e,λ_ _ _ _ _=>Y.sval E⟩
  ·cases h
end
inductive Md where
 | w (c:Code)
 | o (ops:Array Oper) (l:List Oper)
abbrev Ys:=List (Code ⊕ Nat)
variable {ys':Ys}
def yq (P:Program) {R:Type} :Ys->(R->Exit->Act->World->Prop)->R->Exit->Act->World->Prop
 | [],Q=>Q
 | .inl y::ys,Q=>λr=>Exit.then (y.wp P (yq P ys Q r)) (yq P ys Q r)
 | .inr id::ys,Q=>λr=>Exit.inBlock id (yq P ys Q r)
def Gl (P:Program) (w0:World) (S0:List Nat) (m:Option R) (n:Nat) (fr:Fr) (is:List Item) (h:Md) (ys:Ys) (Q:R->Exit->Act->World->Prop):Prop:=match h with
 | .w c=>TW P w0 S0 m n fr is c (yq P ys Q)
 | .o ops l=>TO P w0 S0 m n fr is ops l (yq P ys Q)
def grd (K:Ctx) (ops:Array Oper) (fr:Fr) (hs:List Nat) (j:Nat) (want:Bool):Option (List Nat × Bool × List Item × List Item):=match (ops[j]?).bind (·.dst) with
 | some d=>match lk d fr with
   | some (.bool b)=>match hs with
     | g::hs=>match K.gs[g]? with
       | some (b',w)=>some (hs,w == want,[.own (.bool b) .any],[.own (.bool b') .any])
       | none=>none
     | []=>none
   | _=>none
 | none=>none
def nxt:Ys->Option (Code × Ys)
 | []=>none
 | .inl y::ys=>some (y,ys)
 | .inr _::ys=>nxt ys
def drv {P:Program} (T:Tab P) (K:Ctx) (n:Nat):Nat->List Nat->Md->Ys->Fr->List Item->List Item->List Item->Option (Md × Ys × Fr × List Item × List Item × List Item)
 | 0,_,md,ys,fr,is,aq,bs=>some (md,ys,fr,is,aq,bs)
 | m+1,hs,.w c,ys,fr,is,aq,bs=>match c with
   | .seq x y=>drv T K n m hs (.w x) (.inl y::ys) fr is aq bs
   | .region _ ⟨l⟩ false=>drv T K n m hs (.o ⟨l⟩ l) ys fr is aq bs
   | .block id c=>drv T K n m hs (.w c) (.inr id::ys) fr is aq bs
   | .skip=>match nxt ys with
     | some (y,ys)=>drv T K n m hs (.w y) ys fr is aq bs
     | none=>none
   | _=>none
 | m+1,hs,.o ops l,ys,fr,is,aq,bs=>match l with
   | []=>match nxt ys with
     | some (y,ys)=>drv T K n m hs (.w y) ys fr is aq bs
     | none=>none
   | ⟨some d,o,_,_,_,none⟩::l=>match Bf d n with
     | true=>match opV T K fr is hs aq bs o with
       | some (hs,v,aq,bs)=>drv T K n m hs (.o ops l) ys ((d,v)::fr) is aq bs
       | none=>none
     | false=>none
   | ⟨some d,o,_,_,_,some (j,want)⟩::l=>match Bf d n,grd K ops fr hs j want with
     | true,some (hs,true,a,b)=>match opV T K fr is hs (a++aq) (b++bs) o with
       | some (hs,v,aq,bs)=>drv T K n m hs (.o ops l) ys ((d,v)::fr) is aq bs
       | none=>none
     | true,some (hs,false,a,b)=>drv T K n m hs (.o ops l) ys ((d,undef)::fr) is (a++aq) (b++bs)
     | _,_=>none
   | ⟨none,.store t x y,_,_,_,none⟩::l=>match hs with
     | h::q::hs=>match is[h]?,T.k.get t,ev fr x,ev fr y with
       | some (.box b bt vs),some c,some (.pointer (some ⟨b',off,none⟩)),some v=>match q with
         | 0=>match Ba v.cells.toList.length (c / 2)&&v.cells.toList.all (·.oneCell') with
           | true=>match splK off vs v.cells.toList (λA=>setK h is (.box b bt A) some) with
             | some is'=>drv T K n m hs (.o ops l) ys fr is' (.own (pt b') .any::aq) (.own (pt b) .any::bs)
             | none=>none
           | false=>none
         | q+1=>match dat K.rds is q,Ba (c / 2) 1,splK off vs [v] (λA=>setK h is (.box b bt A) some) with
           | some (u,_),true,some is'=>drv T K n m hs (.o ops l) ys fr is' (.own (pt b') .any:: .own v .any::aq) (.own (pt b) .any:: .own u .any::bs)
           | _,_,_=>none
       | _,_,_,_=>none
     | _=>none
   | _=>none
section
variable {K:Ctx} {mm:Option R}
def zxg {j:Nat} {want q:Bool} {a b:List Item} (c:BsOk K.gs) (h:grd K ops fr hs j want=some (hs',q,a,b)):a=b->∀o:Oper,o.guard=some (j,want)->Gd ops fr o q:=by
 unfold grd at h;split at h
 ·rename_i d f;split at h
  ·rename_i g i;split at h
   ·split at h
    ·rename_i A w k;cases h;intro e o l;simp only[An,Item.own.injEq,Value.bool.injEq,and_true]at e;subst e;have:=c.get k;subst this;exact Gd.at j want d g l f i rfl
    ·cases h
   ·cases h
  ·cases h
 ·cases h
theorem zm1 {j:Nat} {want q:Bool} {a b A:List Item} (c:BsOk K.gs) (h:grd K ops fr hs j want=some (hs',q,a,b)) (e:a++aq=b++A):aq=A/\∀o:Oper,o.guard=some (j,want)->Gd ops fr o q:=by
 have hl:a.length=b.length:=by
  unfold grd at h;repeat' split at h
  all_goals grind
 obtain ⟨d,f⟩:=List.append_inj e hl;exact ⟨f,zxg c h d⟩
def zsp {fr:Fr} {is:List Item} {y:Code} : ∀{ys ys':Ys},nxt ys=some (y,ys')->TW P w0 S0 mm n fr is y (yq P ys' Q)->TE w0 S0 mm n fr is .normal (yq P ys Q)
 | [],_,h,_=>by cases h
 | .inl _::_,_,h,g=>by cases h;exact TE.next g
 | .inr _::ys,_,h,g=>TE.block_normal (zsp (ys:=ys) h g)
def zr5 [T:Tab P] (F:K.ok w0 S0): ∀(m:Nat) (hs:List Nat) (G:Md) (ys:Ys) (fr:Fr) (is aq I:List Item) {E:Md} {ys':Ys} {fr':Fr} {is' B D:List Item},drv T K n m hs G ys fr is aq I=some (E,ys',fr',is',B,D)->
    B=D->aq=I/\(Gl P w0 S0 mm n fr' is' E ys' Q->Gl P w0 S0 mm n fr is G ys Q):=by
 intro m;induction m with
 | zero=>intro hs G ys fr is aq I E ys' fr' is' B D h e;cases h;exact ⟨e,id⟩
 | succ m ih=>
   intro hs G ys fr is aq I E ys' fr' is' B D h e;cases G with
   | w c=>
     unfold drv at h;split at h
     ·obtain ⟨a,d⟩:=ih _ _ _ _ _ _ _ h e;exact ⟨a,λg=>TW.seq (d g)⟩
     ·obtain ⟨a,d⟩:=ih _ _ _ _ _ _ _ h e;exact ⟨a,λg=>TW.region (d g)⟩
     ·obtain ⟨a,d⟩:=ih _ _ _ _ _ _ _ h e;exact ⟨a,λg=>TW.block (d g)⟩
     ·split at h
      ·rename_i f;obtain ⟨a,d⟩:=ih _ _ _ _ _ _ _ h e;exact ⟨a,λg=>TW.skip (zsp f (d g))⟩
      ·cases h
     ·cases h
   | o ops l=>
     unfold drv at h;split at h
     ·split at h
      ·rename_i f;obtain ⟨a,d⟩:=ih _ _ _ _ _ _ _ h e;exact ⟨a,λg=>TO.nil (zsp f (d g))⟩
      ·cases h
     ·split at h
      ·rename_i i;split at h
       ·rename_i j;obtain ⟨a,d⟩:=ih _ _ _ _ _ _ _ h e;obtain ⟨k,p⟩:=zo5 (n:=n) F j a;exact ⟨k,λg=>TO.y (p _ _ _ _ _) rfl rfl i (d g)⟩
       ·cases h
      ·cases h
     ·split at h
      ·rename_i i q;split at h
       ·rename_i j;obtain ⟨a,d⟩:=ih _ _ _ _ _ _ _ h e;obtain ⟨k,p⟩:=zo5 (n:=n) F j a;obtain ⟨s,t⟩:=zm1 F.gs q k;exact ⟨s,λg=>TO.y (p _ _ _ _ _) (t _ rfl) rfl i (d g)⟩
       ·cases h
      ·rename_i i q;obtain ⟨a,d⟩:=ih _ _ _ _ _ _ _ h e;obtain ⟨s,t⟩:=zm1 F.gs q a;exact ⟨s,λg=>TO.off (t _ rfl) rfl i (d g)⟩
      ·cases h
     ·split at h
      ·split at h
       ·rename_i b bt vs c J off v hi x z f;split at h
        ·split at h
         ·rename_i hl;split at h
          ·rename_i is' hs';obtain ⟨a,d⟩:=ih _ _ _ _ _ _ _ h e;simp only[An,Item.own.injEq,Value.pointer.injEq,Bh,Addr.mk.injEq,and_true]at a;obtain ⟨rfl,a⟩:=a;rw[Bm]at hl;exact ⟨a,λg=>TO.ef0 (Sb _ (Tab.kind x) (by rw[hi,z,f]) (Cp (by simp) hl.2) hs' hl.1) rfl rfl λ_=>d g⟩
          ·cases h
         ·cases h
        ·split at h
         ·rename_i u _ is' A hl hs';obtain ⟨a,d⟩:=ih _ _ _ _ _ _ _ h e;simp only[An,Item.own.injEq,Value.pointer.injEq,Bh,Addr.mk.injEq,and_true]at a;obtain ⟨rfl,rfl,a⟩:=a;exact ⟨a,λg=>TO.ef0 (Sb _ (Tab.kind x) (by rw[hi,z,f]) (Cel.one (One.can (zjc F.rds A))) hs' (by rw[Nat.eq_of_beq_eq_true hl];rfl)) rfl rfl λ_=>d g⟩
         ·cases h
       ·cases h
      ·cases h
     ·cases h
def Vw [T:Tab P] (B:K.ok w0 S0) (k:Nat) (hs:List Nat) {A:Code} (a:drv T K n k hs (.w c) [] fr is [] []=some (.w A,ys',fr',is',aq,aq)) (h:TW P w0 S0 mm n fr' is' A (yq P ys' Q)):TW P w0 S0 mm n fr is c Q:=
 (zr5 B k hs _ _ _ _ _ _ a rfl).2 h
def Vt [T:Tab P] (A:K.ok w0 S0) (k:Nat) (hs:List Nat) (a:drv T K n k hs (.w c) [] fr is [] []=some (.o ops' l',ys',fr',is',aq,aq)) (h:TO P w0 S0 mm n fr' is' ops' l' (yq P ys' Q)):TW P w0 S0 mm n fr is c Q:=
 (zr5 A k hs _ _ _ _ _ _ a rfl).2 h
def Vv [T:Tab P] (A:K.ok w0 S0) (k:Nat) (hs:List Nat) (a:drv T K n k hs (.o ops l) [] fr is [] []=some (.o ops' l',ys',fr',is',aq,aq)) (h:TO P w0 S0 mm n fr' is' ops' l' (yq P ys' Q)):TO P w0 S0 mm n fr is ops l Q:=
 (zr5 A k hs _ _ _ _ _ _ a rfl).2 h
variable {rds:List (Value × C)}
def Dw [T:Tab P] (Z:BaseR w0 S0 rds) (k:Nat) (hs:List Nat) {A:Code} (a:drv T ⟨rds,[],[]⟩ n k hs (.w c) [] fr is [] []=some (.w A,ys',fr',is',aq,aq)) (h:TW P w0 S0 mm n fr' is' A (yq P ys' Q)):TW P w0 S0 mm n fr is c Q:=Vw (Kx Z Xz) k hs a h
def Dt [T:Tab P] (Z:BaseR w0 S0 rds) (k:Nat) (hs:List Nat) (a:drv T ⟨rds,[],[]⟩ n k hs (.w c) [] fr is [] []=some (.o ops' l',ys',fr',is',aq,aq)) (h:TO P w0 S0 mm n fr' is' ops' l' (yq P ys' Q)):TW P w0 S0 mm n fr is c Q:=Vt (Kx Z Xz) k hs a h
def Dv [T:Tab P] (Z:BaseR w0 S0 rds) (k:Nat) (hs:List Nat) (a:drv T ⟨rds,[],[]⟩ n k hs (.o ops l) [] fr is [] []=some (.o ops' l',ys',fr',is',aq,aq)) (h:TO P w0 S0 mm n fr' is' ops' l' (yq P ys' Q)):TO P w0 S0 mm n fr is ops l Q:=Vv (Kx Z Xz) k hs a h
end
def drvA {P:Program} (T:Tab P) (K:Ctx) (n:Nat) (ops:Array Oper) (H:Hd):List Nat->List Nat->List Nat->Fr->List Item->List Item->Option (Fr × List Item × List Item)
 | [],_,_,fr,aq,bs=>some (fr,aq,bs)
 | i::js,Bs,hs,fr,aq,bs=>match ops[i]? with
   | some ⟨some d,o,_,_,_,none⟩=>match Bf d n,opV T K fr (hb' ops.size (Bs.headD 0) H) hs aq bs o with
     | true,some (hs,v,aq,bs)=>drvA T K n ops H js Bs.tail hs ((d,v)::fr) aq bs
     | _,_=>none
   | some ⟨some d,o,_,_,_,some (j,want)⟩=>match Bf d n,grd K ops fr hs j want with
     | true,some (hs,true,a,b)=>match opV T K fr (hb' ops.size (Bs.headD 0) H) hs (a++aq) (b++bs) o with
       | some (hs,v,aq,bs)=>drvA T K n ops H js Bs.tail hs ((d,v)::fr) aq bs
       | none=>none
     | true,some (hs,false,a,b)=>drvA T K n ops H js Bs.tail hs ((d,undef)::fr) (a++aq) (b++bs)
     | _,_=>none
   | _=>none
def bdry (ops:Array Oper):List Nat->List Nat->Nat->Bool
 | [],_,_=>true
 | i::s,Bs,L=>rdyB ops i L (Bs.headD 0)&&(rdyB ops i L 0&&bdry ops s Bs.tail (L ||| 2 ^ i))
section
variable {K:Ctx} {mm:Option R} {H:Hd} {fuel L:Nat}
def zmZ [T:Tab P] (B:K.ok w0 S0): ∀(js Bs hs:List Nat) (fr:Fr) (aq F:List Item) (fuel2 L:Nat) {fr':Fr} {D E:List Item},drvA T K n ops H js Bs hs fr aq F=some (fr',D,E)->decF js fuel2=some fuel->bdry ops js Bs L=true->anob H js=true->
    sfx is (hl' ops.size L H)=hl' ops.size L H->D=E->aq=F/\(TA P w0 S0 mm n fr' is H ops fuel (abits js L) Q->TA P w0 S0 mm n fr is H ops fuel2 L Q)
 | [],_,_,_,_,_,_,_,_,_,_,h,b,_,_,_,e=>by cases h;cases b;exact ⟨e,id⟩
 | i::js,Bs,hs,fr,aq,F,fuel2,L,_,_,_,h,b,c,a,hH,e=>by
   unfold bdry at c
   unfold anob at a
   simp only[Bm]at c a
   obtain ⟨f,rfl,b⟩: ∃f,fuel2=f+1/\decF js f=some fuel:=by
    cases fuel2 with
    | zero=>cases b
    | succ f=>exact ⟨f,rfl,b⟩
   have A:sfx is (hl' ops.size (L ||| 2 ^ i) H)=hl' ops.size (L ||| 2 ^ i) H:=by rw[hl_or a.1];exact hH
   unfold drvA at h
   split at h
   ·rename_i hi
    split at h
    ·rename_i d l
     obtain ⟨j,k⟩:=zmZ B js _ _ _ _ _ f _ h b c.2.2 a.2 A e
     obtain ⟨m,o⟩:=zo5 (n:=n) B l j
     exact ⟨m,λg=>TA.y i _ hi (o _ _ _ _ _) rfl rfl d c.1 a.1 hH (k g)⟩
    ·cases h
   ·rename_i hi
    split at h
    ·rename_i d p
     split at h
     ·rename_i l
      obtain ⟨j,k⟩:=zmZ B js _ _ _ _ _ f _ h b c.2.2 a.2 A e
      obtain ⟨m,o⟩:=zo5 (n:=n) B l j
      obtain ⟨q,s⟩:=zm1 B.gs p m
      exact ⟨q,λg=>TA.y i _ hi (o _ _ _ _ _) (s _ rfl) rfl d c.1 a.1 hH (k g)⟩
     ·cases h
    ·rename_i d p
     obtain ⟨j,k⟩:=zmZ B js _ _ _ _ _ f _ h b c.2.2 a.2 A e
     obtain ⟨q,s⟩:=zm1 B.gs p j
     exact ⟨q,λg=>TA.off i hi (s _ rfl) rfl d c.2.1 a.1 hH (k g)⟩
    ·cases h
   ·cases h
def Ak [T:Tab P] (B:K.ok w0 S0) (js Bs hs:List Nat) {fuel2:Nat} (a:(drvA T K n ops H js Bs hs fr [] [],decF js fuel2)=(some (fr',aq,aq),some fuel)) (h:TA P w0 S0 mm n fr' is H ops fuel (abits js L) Q) (A:sfx is (hl' ops.size L H)=hl' ops.size L H:=by exact r) (b:bdry ops js Bs L=true:=by kernel_rfl) (c:anob H js=true:=by exact r):TA P w0 S0 mm n fr is H ops fuel2 L Q:=by simp only[Bp]at a;exact (zmZ B js Bs hs fr [] [] fuel2 L a.1 a.2 b c A rfl).2 h
def Aj [T:Tab P] {rds:List (Value × C)} (Z:BaseR w0 S0 rds) (js Bs hs:List Nat) {fuel2:Nat} (a:(drvA T ⟨rds,[],[]⟩ n ops H js Bs hs fr [] [],decF js fuel2)=(some (fr',aq,aq),some fuel)) (h:TA P w0 S0 mm n fr' is H ops fuel (abits js L) Q) (A:sfx is (hl' ops.size L H)=hl' ops.size L H:=by exact r) (b:bdry ops js Bs L=true:=by kernel_rfl) (c:anob H js=true:=by exact r):TA P w0 S0 mm n fr is H ops fuel2 L Q:=Ak (Kx Z Xz) js Bs hs a h A b c
end
def canK (rds:List (Value × C)) (is:List Item):List Nat->Option (List (Value × C))
 | []=>some []
 | q::qs=>match dat rds is q,canK rds is qs with
   | some p,some ps=>some (p::ps)
   | _,_=>none
def ztv {w0:World} {S0:List Nat} {rds:List (Value × C)} {is:List Item} (a:BaseR w0 S0 rds): ∀{qs:List Nat} {ps:List (Value × C)},canK rds is qs=some ps->Cans w0 S0 is ps
 | [],_,h=>by cases h;trivial
 | q::qs,_,h=>by
   unfold canK at h;split at h
   ·rename_i p ps b c;cases h;exact ⟨zjc a b,ztv a c⟩
   ·cases h
section
def Cc {B:Type} {mm:Option B} {k:B->Option R} {val:B->X->Value} {post is':B->X->List Item} {pre rest:List Item} {A rds:List (Value × C)} {f:FuncId} {os:List Operand} {args:List Value} {ats:Array TypeId} {d:Nat} {ty:TypeId} {pos:String} {aft:Array Edge} (Z:BaseR w0 S0 A) (D qs:List Nat) (b:Cn P f args pre rds mm val post) (c:(evs fr os,takeP D is)=(some args,some (pre,rest))) (e: ∀q x,appK (post q x) rest some=some (is' q x)) (h: ∀q,mm=some q->∀x,TO P w0 S0 (k q) n ((d,val q x)::fr) (is' q x) ops l Q) (g:canK A rest qs=some rds:=by exact r) (i:Bf d n=true:=by exact r):
    TO P w0 S0 (mm.bind k) n fr is ops (⟨some d,.call {callee:=.value (.func f),args:=os.toArray,argTypes:=ats},ty,pos,aft,none⟩::l) Q:=
 TO.bind λq a=>TO.ef (Cl D b a c (e q) (ztv Z g)) rfl rfl i (h q a)
def Ch {f:FuncId} {args:List Value} {pre:List Item} {rds:List (Value × C)} {k:Nat} {val:R->X->Value} {post:R->X->List Item} {m:Option R} (b:P.funcs[f]? =some fn) (a:(fn.body,fn.ntmps)=(some c,k)) (h: ∀w S,BaseR w S rds->TW P w S m k (argFr 0 args) pre c (λq=>bodyPost P fn (λe w'=>∃x,e= .returned (val q x)/\St w S (post q x) w'))) (hl:Nat.ble args.length k=true:=by exact r) (hN:(fn.name != "runtime.NumGoroutine")=true:=by exact r):Cn P f args pre rds m val post:=by simp only[Bp]at a;exact Ci b a.1 a.2 h hl hN
end
def Bj {α:Type} [Enc α] {l:List α} {i:Int} {x:α} {d:C} (c:Nat) (a:Base w S v (lc l)) (b:idx l i=some x) (e:(Enc.enc x)[c]? =some d):Base w S (elv w v (i.toNat*Enc.sz α+c)) d:=Base.el a (zbP b).2.2 rfl e
def rvK {P:Program} (T:Tab P) (fr:Fr) (is:List Item):List ResultVar->List Nat->Option (List Value × List Item × List Item)
 | [],_=>some ([],[],[])
 | .tmp t::r,hs=>match lk t fr,rvK T fr is r hs with
   | some v,some (vs,aq,bs)=>some (v::vs,aq,bs)
   | _,_=>none
 | .cell p t::r,i::hs=>match is[i]?,lk p fr,T.k.get t,rvK T fr is r hs with
   | some (.box b _ us),some (.pointer (some ⟨b',off,none⟩)),some c,some (vs,aq,bs)=>match partO off (c / 2) (Ba (c % 2) 1) us with
     | some v=>some (v::vs,.own (pt b') .any::aq,.own (pt b) .any::bs)
     | none=>none
   | _,_,_,_=>none
 | .cell _ _::_,[]=>none
def zsz {P:Program} {T:Tab P} {fr:Fr} {is:List Item} : ∀{B:List ResultVar} {hs:List Nat} {vs:List Value} {aq A:List Item},rvK T fr is B hs=some (vs,aq,A)->aq=A->RV P fr is B vs
 | [],_,_,_,_,h,_=>by cases h;trivial
 | .tmp t::r,hs,_,_,_,h,e=>by
   unfold rvK at h;split at h
   ·rename_i v vs aq A a d;cases h;exact ⟨a,zsz d e⟩
   ·cases h
 | .cell p t::r,i::hs,_,_,_,h,e=>by
   unfold rvK at h;split at h
   ·rename_i b bt us D off c vs aq A a d f g;split at h
    ·rename_i v j;cases h;simp only[An,Item.own.injEq,Value.pointer.injEq,Bh,Addr.mk.injEq,and_true]at e;obtain ⟨rfl,e⟩:=e;exact RV.cell i a d (Tab.kind f) (zod j) (zsz g e)
    ·cases h
   ·cases h
 | .cell _ _::_,[],_,_,_,h,_=>by cases h
section
def Rj [T:Tab P] {h:List Nat} {val:R->X->Value} {post:R->X->List Item} {e:Exit} {vs:List Value} (x:X) (A hs:List Nat) (a:rvK T fr is fn.results.toList hs=some (vs,aq,aq)) (b:backE e=true:=by exact r) (c:retV vs=val q x:=by exact r) (hi:pulls A is=some (post q x):=by exact r):
    TE w0 h (some q) n fr is e (λq=>bodyPost P fn (λe w'=>∃x,e= .returned (val q x)/\St w0 h (post q x) w')):=Rf x A (zsz a rfl) b c hi
end
section
variable {m:Option R}
def Wv {Q':R->Act->World->Prop} (h:TE w0 S0 m n fr is .ret Q):TW P w0 S0 m n fr is .ret (λr=>Exit.then (Q' r) (Q r)):=Wr (Tr h)
def We {I:σ->Act->World->Prop} {id:Nat} {Q':Ctl σ R->Act->World->Prop} (h:TE w0 S0 (some q) n fr is .normal Q):
    TW P w0 S0 (some (Ctl.done q)) n fr is (.exit id) (λr=>Exit.then (Q' r) (lp I (λr=>Exit.inBlock id (Q r)) r)):=Wx (Tx (Ex (Be h)))
def Bu {I:σ->Act->World->Prop} {M:τ->Act->World->Prop} {id A:Nat} {B:Ctl σ (Ctl τ R)->Act->World->Prop} {D:R->Act->World->Prop} (h:TE w0 S0 (some q) n fr is .ret Q):
    TE w0 S0 (some (Ctl.done (Ctl.done q))) n fr is .ret (λr=>Exit.inBlock id (Exit.then (B r) (lp I (λr=>Exit.inBlock A (jn M (λr=>Exit.then (D r) (Q r)) r)) r))):=Br (Tr (Er (Br (Jd (Tr h)))))
def Rq {h:List Nat} {val:R->Unit->Value} {post:R->Unit->List Item} {e:Exit} {ts:List Nat} {vs:List Value} (a:backE e=true:=by exact r) (b:resT fn.results.toList=some ts:=by exact r) (c:lks fr ts=some vs:=by exact r) (d:retV vs=val q ():=by exact r) (hi:some []=some (post q ()):=by exact r):
    TE w0 h (some q) n fr is e (λq=>bodyPost P fn (λe w'=>∃x,e= .returned (val q x)/\St w0 h (post q x) w')):=Re () [] a b c d hi
def Jq {frf:τ->Unit->Fr} {isf:τ->Unit->List Item} {t:τ} (a:some []=some (isf t ()):=by exact r) (b:Sub (frf t ()) fr:=by repeat (first | refine ⟨r,?_⟩ | exact trivial)):
    TE w0 S0 (some (.go t)) n fr is .normal (jn (Mid w0 S0 n frf isf) Q):=Jg () [] a b
def Bv {frf:τ->Unit->Fr} {isf:τ->Unit->List Item} {t:τ} (a:some []=some (isf t ()):=by exact r) (b:Sub (frf t ()) fr:=by repeat (first | refine ⟨r,?_⟩ | exact trivial)):
    TE w0 S0 (some t) n fr is .normal (jb (Mid w0 S0 n frf isf)):=Bg () [] a b
def Lq {ρ:Type} {Q:ρ->Exit->Act->World->Prop} {frf:σ->Unit->Fr} {isf:σ->Unit->List Item} {t:σ} (a:some []=some (isf t ()):=by exact r) (b:Sub (frf t ()) fr:=by repeat (first | refine ⟨r,?_⟩ | exact trivial)):
    TE w0 S0 (some (.go t)) n fr is .normal (lp (Mid w0 S0 n frf isf) Q):=Lg () [] a b
def Dz {H:Hd} {id:Nat} (k:Nat) (B A:List Nat) (a:heldK (B++Bl (k - B.length) 0) (A++Bl (k - A.length) 999) is=some (is',H)) (b:P.follows .mixedOrders=true) (h:TA P w0 S0 m n fr is' H ops ops.size 0 Q):
    TW P w0 S0 m n fr is (.region id ops true) Q:=Dr _ _ a b h
end
end Go.Proofs.YtmenicbkddagmaaGreat.Sl
end
