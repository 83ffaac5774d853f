/-
  The plain laws: what the pure functions come to, and the statements. Conditions: none.
-/
import Derived.Test.YtblaakdafebglaaGreatPm
import Derived.Test.YtblaakdafebglaaGreatQ7
set_option linter.unusedVariables false
set_option linter.unusedSimpArgs false
set_option linter.defProp false
open Option renaming bind->Bb
open Decidable renaming decide->Dc
open Option renaming bind_some->Og,bind_eq_some_iff->Qj,bind_assoc->Ta
open Bool renaming false_eq_true->Oh,not_true->Om,and_eq_true->Oq,not_false->Ph,true_and->Pv,not_eq_true'->Qx,or_eq_true->Rc,false_and->Sd,and_true->Sm,and_self->Sp,not_eq_true->Td,and_false->Tl,false_or->Tn,or_false->To
open List renaming drop_eq_getElem_cons->Oi,length_append->Ol,getElem_of_mem->On,take_of_length_le->Oo,drop_of_length_le->Ox,append_assoc->Oy,take_append_drop->Oz,all_eq_true->Pa,getElem?_eq_getElem->Pb,eq_nil_of_length_eq_zero->Pd,pairwise_iff_getElem->Pe,pairwise_cons->Pl,length_drop->Pn,length_take->Po,nil_append->Pp,getElem_mem->Pq,take_succ_cons->Px,cons_append->Py,pairwise_append->Qa,length_cons->Qb,length->Qd,length_singleton->Qe,range->Qf,append_nil->Qh,take_add_one->Qi,mem_append->Qk,mem_cons->Ql,getElem_take->Qm,set_append_right->Qr,drop_zero->Qt,filter_eq_self->Qu,drop_append_of_le_length->Ri,dropLast_concat_getLast->Rl,replicate->Rm,filter_append->Ro,getElem_drop->Rs,any_cons->Rt,drop_length->Ru,getElem_map->Rv,filter_eq_nil_iff->Rw,take_zero->Sf,all_cons->Si,mem_cons_self->Sx,ext_getElem->Te,drop_append->Tf,any_append->Tg,length_set->Tk,drop_drop->Tm,take_nil->Tq,any_nil->Tt
open Int renaming toNat_natCast->Ok,tmod->Pw,tdiv->Qy,le_refl->Ry
open BitVec renaming ofInt->Ot,ofInt_natCast->Sg,toNat_ofNat->Ss
open Nat renaming le_refl->Ov,and_two_pow_sub_one_eq_mod->Pi,lt_or_ge->Pk,le_trans->Pr,mod_eq_of_lt->Ps,pow_le_pow_right->Pu,min_eq_left->Qg,lt_trichotomy->Qp,or_lt_two_pow->Qq,mod_lt->Qv,mul_le_mul_left->Qw,zero_le->Ra,mul_le_mul_right->Rb,div_le_self->Rh,pow_succ->Rk,two_pow_add_eq_or_of_lt->Rn,xor_lt_two_pow->Rp,lt_of_le_of_lt->Rr,ble_eq_true_of_le->Rx,le_of_ble_eq_true->Sa,ble->So,add_sub_cancel->Sw,zero_add->Sy,and_le_left->Th,mul_comm->Tu,sub_self->Tv,zero_mul->Tw
open Option.some renaming injEq->Tc
open Prod.mk renaming injEq->Tp
open UInt8 renaming toNat->Ty
noncomputable section
open Go.IntKind renaming i64->I6
namespace Go.Proofs.YtblaakdafebglaaGreat
open Go Sl
variable {α κ ρ R β τ:Type} {l:List Ac} {a n b k x:Nat} {K:α->κ} {seq counter:Int} {e:Aa} {key nonce s t rest secret:J2} {body:Int->Option (Ctl Int (Ctl Unit Bool))} {f:α->Option β}
theorem z6 (n a b:Int):zE n a b=some (Dc (a<=n/\n<=b)):=by unfold zE;grind
theorem zbe (n a b:Int):zz n a b=some (Dc (a<=n/\n<=b)):=by unfold zz;grind
theorem zxp (q:Int):zgz q=ze7 q:=by
 unfold zgz ze7;rw[z6,zbe];by_cases h:0<=q/\q<=1000
 ·rw[za (n:=q+50),za (n:=q+50 - 1),za (n:=q+49),show q+50 - 1=q+49 by omega]
 ·grind
def needV (q:Int):Int:=if 0<=q/\q<=1000 then 2+2*((q+49) / 50) else 0
def zhZ (q:Int):0<=needV q/\needV q<=42:=by unfold needV;split<;>omega
theorem zm2 (q:Int):ze7 q=some (needV q):=by
 unfold ze7 needV;rw[zbe];by_cases h:0<=q/\q<=1000
 ·have a:J7 (q+49)=q+49:=za;have b:Qy (q+49) 50=(q+49) / 50:=Int.tdiv_eq_ediv_of_nonneg (by omega);have c:J7 ((q+49) / 50)=(q+49) / 50:=za;have d:J7 (2*((q+49) / 50))=2*((q+49) / 50):=za;have e:J7 (2+2*((q+49) / 50))=2+2*((q+49) / 50):=za;simp_all
 ·grind
def zsB (q:Int):zgz q=some (needV q):=by rw[zxp,zm2]
def znZ (n:Int):zbx n=some (Dc (1<=n/\n<=99)):=by unfold zbx;rw[z6];rfl
def zvg (l:List A5) (h:l.length<=1048576):0<=(l.map λx=>needV x.S).sum/\(l.map λx=>needV x.S).sum<=42*l.length:=by
 clear h;induction l with
 | nil=>simp
 | cons x l ih=>have:=zhZ x.S;simp only[List.map_cons,List.sum_cons,Qb];omega
def zk7 (s:Ad) (h:s.j.length<=1048576):zh5 s=some ((s.j.map λx=>needV x.S).sum+if s.j.length>0 then 4 else 0):=by
 unfold zh5;rw[ztk (ρ:=Int) s.j (λx=>ze7 x.S) (λx=>needV x.S) (λx _=>zm2 _) (λx _=>by have:=zhZ x.S;omega) h 0 (by omega) (by omega)];have:=zvg s.j h;simp only[ze,Int.zero_add];by_cases a:(s.j.length:Int)>0
 ·rw[iP,za,iP (by omega)];rfl
 ·simp_all
def zqt (s:Ad) (h:s.j.length<=1048576):zhX s=some (4+(s.j.map λx=>needV x.S).sum):=by unfold zhX;rw[ztk (ρ:=Int) s.j (λx=>zgz x.S) (λx=>needV x.S) (λx _=>zsB _) (λx _=>by have:=zhZ x.S;omega) h 4 (by omega) (by omega)];rfl
theorem zbS (s:Ad) (h:s.j.length<=1048576):zc9 s=zbP s:=by
 unfold zbP zc9;simp only[zbe,z6,znZ,Og,zk7 s h,zqt s h,ge_iff_le];by_cases a:0<=s.G/\s.G<=1000
 ·by_cases b:(s.j.length:Int)>4
  ·grind
  ·simp only[a,b,and_self,decide_true,decide_false,Om,Oh,iF,Og];congr 1;funext _;by_cases c:s.j.length=0
   ·simp_all
   ·grind
 ·grind
theorem zr5 (m:Nat): ∀s:J2,s.length+m<=9223372036854775806->∃r:J2,loopO (ρ:=Ctl J2 J2) (λ(h:Int × J2)=>if Dc (h.1>0)then Bb (cat ([toU8 (J7 ((48:Int)+(Pw h.1 10)))]) h.2) λA=>some (.go (J7 (Qy h.1 10),A))else some (.done (.go h.2))) ((m:Int),s)=some (.go r)/\r.length<=s.length+m:=by
 induction m using Nat.strongRecOn with
 | _ m ih=>
   intro s hs;rw[zG];by_cases b:m=0
   ·simp_all
   ·simp only;rw[iP (by grind),zcg (by grind)];have a:Qy (m:Int) 10=((m / 10:Nat):Int):=rfl;rw[a,za (n:=((m / 10:Nat):Int))];obtain ⟨r,c,hl⟩:=ih (m / 10) (by omega) ([toU8 (J7 ((48:Int)+(Pw (m:Int) (10:Int))))]++s) (by grind);grind
theorem zr6 (k:Int) (h:k<=9223372036854775800): ∃t,zt k=some t:=by
 unfold zt;by_cases b:k<=0
 ·simp_all
 ·rw[iN];obtain ⟨r,a,hl⟩:=zr5 k.toNat [] (by grind);rw[show (k.toNat:Int)=k by omega]at a;refine ⟨[109]++r,?_⟩;rw[a];simp only[ze];rw[zcg (by grind)];rfl
def markT (k:Int):J2:=(zt k).getD []
def zP (k:Int) (h:k<=9223372036854775800):zt k=some (markT k):=by obtain ⟨t,a⟩:=zr6 k h;unfold markT;rw[a];rfl
def zfb (x:Op):Nat:=x.g.length+(x.J.length+0)
def sz_Op (x:Op) (left:Int) (a:0<=left) (b:left<=1048576) (h:Dec.ok x):zie x left=some (szV left (zfb x)):=by
 unfold zie;show _=some (szV left (x.g.length+(x.J.length+0)));refine zm6 a b (h.1) λe c=>?_;simp only[c];have A:0<=left - (x.g.length:Int):=by omega
 have D:left - (x.g.length:Int)<=1048576:=by omega
 refine zm6 A D (h.2.2) λf d=>?_;simp only[d];have B:0<=left - (x.g.length:Int) - (x.J.length:Int):=by omega
 have E:left - (x.g.length:Int) - (x.J.length:Int)<=1048576:=by omega
 exact zwr B
def eq_Op (a b:Op):zib a b=some (Dc (a=b)):=by have c:(a=b)↔(a.g=b.g/\a.M=b.M/\a.J=b.J/\True):=⟨λe=>by subst e;simp,λh=>by cases a;cases b;simp_all⟩;rw[decide_eq_decide.2 c];unfold zib;refine eq_step λ_=>?_;refine eq_step λ_=>?_;refine eq_step λ_=>?_;exact eq_end
def zyu (a:List Op) (left:Int) (b:0<=left) (c:left<=1048576) (h:okl a):zi2 a left=some (szV left (wS zfb a)):=by unfold zi2;exact zwq a zie zfb (λx d left b c=>sz_Op x left b c (h.2 x d)) h.1 left b c
def to_OpS (a:List Op) (h:a.length<=1048576):zi3 a=some a:=by unfold zi3;rw[zoF (by omega) (by omega)];simp only[Og];rw[to_loop a _ zmN (λx _=>rfl) (by omega)];rfl
def eq_OpS (a b:List Op) (h:a.length<=4611686018427387904):zly a b=some (Dc (a=b)):=
 zeS a b zib (λx y _ _=>eq_Op x y) h
def zej (_:Op):Nat:=3
def mk_Op (q:Int) (_:Op):Op:=(⟨markT (q),Dc (Pw (q+1) 3=0),markT (q+1+1)⟩:Op)
def zwY (a:List Op) (k:Int) (c:1<=k) (d:k+((a.map zej).sum:Nat)<=4611686018427387904) (h:a.length<=4611686018427387904):zhi a k=some (k+((a.map zej).sum:Nat),mkL mk_Op zej k a):=by
 unfold zhi;rw[zb2 mk_Op zej a k c d h ?hb ?hd]
 case hb=>
  intro q i l x hi m n e hl f
  have b:(zej x:Int)=3:=rfl
  rw[b]at e
  have A:J7 ((i:Int)+1)=(i:Int)+1:=za
  have w0:J7 (q+1)=q+1:=za
  have g:J7 (q+1+1)=q+1+1:=za
  have j:J7 (q+1+1+1)=q+1+1+1:=za
  simp only[hi,Og,A,w0,g,j,zP (q) (by omega),zP (q+1+1) (by omega)]
  rw[iP (by simpa[hl] using f),Ok,b]
  first | done | rfl | (congr 3<;>omega)
 case hd=>intro q l hl;simp
 rfl
def zei (x:As):Nat:=x.R.length+(x.g.length+(x.T.length+(wS zfb x.Q+0)))
def zx2 (x:As) (left:Int) (a:0<=left) (b:left<=1048576) (h:Dec.ok x):zfZ x left=some (szV left (zei x)):=by
 unfold zfZ;show _=some (szV left (x.R.length+(x.g.length+(x.T.length+(wS zfb x.Q+0)))));refine zm6 a b (h.2.1) λf c=>?_;simp only[c];have B:0<=left - (x.R.length:Int):=by omega
 have F:left - (x.R.length:Int)<=1048576:=by omega
 refine zm6 B F (h.2.2.2.2.1) λi d=>?_;simp only[d];have D:0<=left - (x.R.length:Int) - (x.g.length:Int):=by omega
 have G:left - (x.R.length:Int) - (x.g.length:Int)<=1048576:=by omega
 refine zm6 D G (h.2.2.2.2.2.1) λj e=>?_;simp only[e];have A:0<=left - (x.R.length:Int) - (x.g.length:Int) - (x.T.length:Int):=by omega
 have I:left - (x.R.length:Int) - (x.g.length:Int) - (x.T.length:Int)<=1048576:=by omega
 rw[zyu x.Q _ A I (h.2.2.2.2.2.2)];refine zx3 A λk=>?_;have E:0<=left - (x.R.length:Int) - (x.g.length:Int) - (x.T.length:Int) - (wS zfb x.Q:Int):=by omega
 have J:left - (x.R.length:Int) - (x.g.length:Int) - (x.T.length:Int) - (wS zfb x.Q:Int)<=1048576:=by omega
 exact zwr E
def zji (x:As):Prop:=x.Q.length<=4611686018427387904
def to_Call (x:As) (h:zei x<=1048576):zf0 x=some x:=by unfold zf0;have a:x.R.length+(x.g.length+(x.T.length+(wS zfb x.Q+0)))<=1048576:=h;simp only[to_OpS x.Q (zp4 (w:=zfb) (l:=x.Q) (by omega)),Og]
def eq_Call (a b:As) (h:zji a):zfW a b=some (Dc (a=b)):=by have c:(a=b)↔(a.E=b.E/\a.R=b.R/\a.q=b.q/\a.N=b.N/\a.g=b.g/\a.T=b.T/\a.Q=b.Q/\True):=⟨λe=>by subst e;simp,λh=>by cases a;cases b;simp_all⟩;rw[decide_eq_decide.2 c];unfold zfW;refine eq_step λ_=>?_;refine eq_step λ_=>?_;refine eq_step λ_=>?_;refine eq_step λ_=>?_;refine eq_step λ_=>?_;refine eq_step λ_=>?_;rw[eq_OpS a.Q b.Q h];refine eq_call λ_=>?_;exact eq_end
def eq_KeySlot (a b:A6):zdQ a b=some (Dc (a=b)):=by have c:(a=b)↔(a.q=b.q/\a.g=b.g/\True):=⟨λe=>by subst e;simp,λh=>by cases a;cases b;simp_all⟩;rw[decide_eq_decide.2 c];unfold zdQ;refine eq_step λ_=>?_;refine eq_step λ_=>?_;exact eq_end
def eq_KeySlotS (a b:List A6) (h:a.length<=4611686018427387904):zhb a b=some (Dc (a=b)):=
 zeS a b zdQ (λx y _ _=>eq_KeySlot x y) h
def zl (_:A6):Nat:=2
def zed (q:Int) (_:A6):A6:=(⟨q,markT (q+1)⟩:A6)
def zr7 (a:List A6) (k:Int) (c:1<=k) (d:k+((a.map zl).sum:Nat)<=4611686018427387904) (h:a.length<=4611686018427387904):zdI a k=some (k+((a.map zl).sum:Nat),mkL zed zl k a):=by
 unfold zdI;rw[zb2 zed zl a k c d h ?hb ?hd]
 case hb=>
  intro q i l x hi j m e hl f
  have b:(zl x:Int)=2:=rfl
  rw[b]at e
  have A:J7 ((i:Int)+1)=(i:Int)+1:=za
  have w0:J7 (q+1)=q+1:=za
  have g:J7 (q+1+1)=q+1+1:=za
  simp only[hi,Og,A,w0,g,zP (q+1) (by omega)]
  rw[iP (by simpa[hl] using f),Ok,b]
  first | done | rfl | (congr 3<;>omega)
 case hd=>intro q l hl;simp
 rfl
def zrQ (a:List A6) (k:Int) (c:1<=k) (d:k+((a.map zl).sum:Nat)<=4611686018427387904) (h:a.length<=4611686018427387904):zdH (mkL zed zl k a) k=some (k+((a.map zl).sum:Nat)):=by
 unfold zdH;rw[zbo,zcx zed zl a k (Ctl.go (k+((a.map zl).sum:Nat))) c d ?hb ?hd]
 case hb=>
  intro q i x hi j l e f
  have b:(zl x:Int)=2:=rfl
  rw[b]at e
  have A:J7 ((i:Int)+1)=(i:Int)+1:=za
  have w0:J7 (q+1)=q+1:=za
  have g:J7 (q+1+1)=q+1+1:=za
  simp only[hi,Og,A,w0,g,zed,zP (q+1) (by omega)]
  rw[iP (by simpa using f),b]
  simp
  try omega
 case hd=>simp
 rfl
def zlm (x:A7):Prop:=x.t.length<=4611686018427387904
def eq_KeyDev (a b:A7) (h:zlm a):zf6 a b=some (Dc (a=b)):=by have c:(a=b)↔(a.L=b.L/\a.t=b.t/\a.H=b.H/\True):=⟨λe=>by subst e;simp,λh=>by cases a;cases b;simp_all⟩;rw[decide_eq_decide.2 c];unfold zf6;refine eq_step λ_=>?_;rw[eq_KeySlotS a.t b.t h];refine eq_call λ_=>?_;refine eq_step λ_=>?_;exact eq_end
def eq_Share (a b:A5):ze1 a b=some (Dc (a=b)):=by have c:(a=b)↔(a.q=b.q/\a.S=b.S/\True):=⟨λe=>by subst e;simp,λh=>by cases a;cases b;simp_all⟩;rw[decide_eq_decide.2 c];unfold ze1;refine eq_step λ_=>?_;refine eq_step λ_=>?_;exact eq_end
def eq_ShareS (a b:List A5) (h:a.length<=4611686018427387904):zis a b=some (Dc (a=b)):=
 zeS a b ze1 (λx y _ _=>eq_Share x y) h
def zy (_:A5):Nat:=2
def zgq (q:Int) (_:A5):A5:=(⟨q,q+1⟩:A5)
def ztN (a:List A5) (k:Int) (c:1<=k) (d:k+((a.map zy).sum:Nat)<=4611686018427387904) (h:a.length<=4611686018427387904):zeO a k=some (k+((a.map zy).sum:Nat),mkL zgq zy k a):=by
 unfold zeO;rw[zb2 zgq zy a k c d h ?hb ?hd]
 case hb=>
  intro q i l x hi j m e hl f
  have b:(zy x:Int)=2:=rfl
  rw[b]at e
  have A:J7 ((i:Int)+1)=(i:Int)+1:=za
  have w0:J7 (q+1)=q+1:=za
  have g:J7 (q+1+1)=q+1+1:=za
  simp only[hi,Og,A,w0,g]
  rw[iP (by simpa[hl] using f),Ok,b]
  first | done | rfl | (congr 3<;>omega)
 case hd=>intro q l hl;simp
 rfl
def ztB (a:List A5) (k:Int) (c:1<=k) (d:k+((a.map zy).sum:Nat)<=4611686018427387904) (h:a.length<=4611686018427387904):zeM (mkL zgq zy k a) k=some (k+((a.map zy).sum:Nat)):=by
 unfold zeM;rw[zbo,zcx zgq zy a k (Ctl.go (k+((a.map zy).sum:Nat))) c d ?hb ?hd]
 case hb=>
  intro q i x hi j l e f
  have b:(zy x:Int)=2:=rfl
  rw[b]at e
  have A:J7 ((i:Int)+1)=(i:Int)+1:=za
  have w0:J7 (q+1)=q+1:=za
  have g:J7 (q+1+1)=q+1+1:=za
  simp only[hi,Og,A,w0,g,zgq]
  rw[iP (by simpa using f),b]
  simp
  try omega
 case hd=>simp
 rfl
def zln (x:Ad):Prop:=x.j.length<=4611686018427387904
def eq_Shares (a b:Ad) (h:zln a):zf7 a b=some (Dc (a=b)):=by have c:(a=b)↔(a.G=b.G/\a.j=b.j/\True):=⟨λe=>by subst e;simp,λh=>by cases a;cases b;simp_all⟩;rw[decide_eq_decide.2 c];unfold zf7;refine eq_step λ_=>?_;rw[eq_ShareS a.j b.j h];refine eq_call λ_=>?_;exact eq_end
def eq_Ent (a b:Ac):zha a b=some (Dc (a=b)):=by have d:(a=b)↔(a.g=b.g/\a.c=b.c/\a.M=b.M/\a.J=b.J/\True):=⟨λe=>by subst e;simp,λh=>by cases a;cases b;simp_all⟩;rw[decide_eq_decide.2 d];unfold zha;refine eq_step λ_=>?_;refine eq_step λ_=>?_;refine eq_step λ_=>?_;refine eq_step λ_=>?_;exact eq_end
def eq_EntS (a b:List Ac) (h:a.length<=4611686018427387904):zfX a b=some (Dc (a=b)):=
 zeS a b zha (λx y _ _=>eq_Ent x y) h
def zj (_:Ac):Nat:=4
def ze2 (q:Int) (_:Ac):Ac:=(⟨markT (q),q+1,Dc (Pw (q+1+1) 3=0),markT (q+1+1+1)⟩:Ac)
def zrl (a:List Ac) (k:Int) (c:1<=k) (d:k+((a.map zj).sum:Nat)<=4611686018427387904) (h:a.length<=4611686018427387904):zer a k=some (k+((a.map zj).sum:Nat),mkL ze2 zj k a):=by
 unfold zer;rw[zb2 ze2 zj a k c d h ?hb ?hd]
 case hb=>
  intro q i l x hi n o e hl f
  have b:(zj x:Int)=4:=rfl
  rw[b]at e
  have A:J7 ((i:Int)+1)=(i:Int)+1:=za
  have w0:J7 (q+1)=q+1:=za
  have g:J7 (q+1+1)=q+1+1:=za
  have j:J7 (q+1+1+1)=q+1+1+1:=za
  have m:J7 (q+1+1+1+1)=q+1+1+1+1:=za
  simp only[hi,Og,A,w0,g,j,m,zP (q) (by omega),zP (q+1+1+1) (by omega)]
  rw[iP (by simpa[hl] using f),Ok,b]
  first | done | rfl | (congr 3<;>omega)
 case hd=>intro q l hl;simp
 rfl
def zre (a:List Ac) (k:Int) (c:1<=k) (d:k+((a.map zj).sum:Nat)<=4611686018427387904) (h:a.length<=4611686018427387904):zeq (mkL ze2 zj k a) k=some (k+((a.map zj).sum:Nat)):=by
 unfold zeq;rw[zbo,zcx ze2 zj a k (Ctl.go (k+((a.map zj).sum:Nat))) c d ?hb ?hd]
 case hb=>
  intro q i x hi m n e f
  have b:(zj x:Int)=4:=rfl
  rw[b]at e
  have A:J7 ((i:Int)+1)=(i:Int)+1:=za
  have w0:J7 (q+1)=q+1:=za
  have g:J7 (q+1+1)=q+1+1:=za
  have j:J7 (q+1+1+1)=q+1+1+1:=za
  have l:J7 (q+1+1+1+1)=q+1+1+1+1:=za
  simp only[hi,Og,A,w0,g,j,l,ze2,zP (q) (by omega),zP (q+1+1+1) (by omega)]
  rw[iP (by simpa using f),b]
  simp
  try omega
 case hd=>simp
 rfl
def eq_EntSS (a b:List (List Ac)) (h:a.length<=4611686018427387904/\∀y∈a,y.length<=4611686018427387904):zjx a b=some (Dc (a=b)):=
 zeS a b zfX (λx y c _=>eq_EntS x y (h.2 x c)) h.1
def zu2 (a:List (List Ac)) (k:Int) (b:1<=k) (c:k+((a.map (λl=>(l.map zj).sum)).sum:Nat)<=4611686018427387904) (h:a.length<=4611686018427387904/\∀y∈a,y.length<=4611686018427387904):zfr a k=some (k+((a.map (λl=>(l.map zj).sum)).sum:Nat),mkL (λq l=>mkL ze2 zj q l) (λl=>(l.map zj).sum) k a):=by
 unfold zfr;rw[zb2 (λq l=>mkL ze2 zj q l) (λl=>(l.map zj).sum) a k b c h.1 ?hb ?hd]
 case hb=>
  intro q i l x hi d e f hl g
  have j:=h.1
  have A:J7 ((i:Int)+1)=(i:Int)+1:=za
  simp only[hi,Og,A,zrl x q e f (h.2 x d)]
  rw[iP (by simpa[hl] using g),Ok]
 case hd=>intro q l hl;simp
 rfl
def zuN (a:List (List Ac)) (k:Int) (b:1<=k) (c:k+((a.map (λl=>(l.map zj).sum)).sum:Nat)<=4611686018427387904) (h:a.length<=4611686018427387904/\∀y∈a,y.length<=4611686018427387904):zfn (mkL (λq l=>mkL ze2 zj q l) (λl=>(l.map zj).sum) k a) k=some (k+((a.map (λl=>(l.map zj).sum)).sum:Nat)):=by
 unfold zfn;rw[zbo,zcx (λq l=>mkL ze2 zj q l) (λl=>(l.map zj).sum) a k (Ctl.go (k+((a.map (λl=>(l.map zj).sum)).sum:Nat))) b c ?hb ?hd]
 case hb=>
  intro q i x hi d e f g
  have j:=h.1
  have A:J7 ((i:Int)+1)=(i:Int)+1:=za
  simp only[hi,Og,A,zre x q e f (h.2 x d)]
  rw[iP (by simpa using g),iN (by simp;omega)]
 case hd=>simp
 rfl
def eq_IntS (a b:List Int) (h:a.length<=4611686018427387904):zky a b=some (Dc (a=b)):=by have:=zeS a b (λx y=>some (Dc (x=y))) (λ_ _ _ _=>rfl) h;simp only[Og]at this;exact this
def zv5 (a:List Int) (k:Int) (c:1<=k) (d:k+((a.map (λ_=>1)).sum:Nat)<=4611686018427387904) (h:a.length<=4611686018427387904):zf9 a k=some (k+((a.map (λ_=>1)).sum:Nat),mkL (λq _=>q) (λ_=>1) k a):=by
 unfold zf9;rw[zb2 (λq _=>q) (λ_=>1) a k c d h ?hb ?hd]
 case hb=>
  intro q i l x hi g j e hl f
  have b:(((λ_=>1) x:Nat):Int)=1:=rfl
  rw[b]at e
  have A:J7 ((i:Int)+1)=(i:Int)+1:=za
  have w0:J7 (q+1)=q+1:=za
  simp only[hi,Og,A,w0]
  rw[iP (by simpa[hl] using f),Ok,b]
  first | done | rfl | (congr 3<;>omega)
 case hd=>intro q l hl;simp
 rfl
def zvR (a:List Int) (k:Int) (c:1<=k) (d:k+((a.map (λ_=>1)).sum:Nat)<=4611686018427387904) (h:a.length<=4611686018427387904):zf8 (mkL (λq _=>q) (λ_=>1) k a) k=some (k+((a.map (λ_=>1)).sum:Nat)):=by
 unfold zf8;rw[zbo,zcx (λq _=>q) (λ_=>1) a k (Ctl.go (k+((a.map (λ_=>1)).sum:Nat))) c d ?hb ?hd]
 case hb=>
  intro q i x hi g j e f
  have b:(((λ_=>1) x:Nat):Int)=1:=rfl
  rw[b]at e
  have A:J7 ((i:Int)+1)=(i:Int)+1:=za
  have w0:J7 (q+1)=q+1:=za
  simp only[hi,Og,A,w0]
  rw[iP (by simpa using f),b]
  simp
  try omega
 case hd=>simp
 rfl
def zt2 (x:Aa):Prop:=x.x.length<=4611686018427387904/\(x.s.length<=4611686018427387904/\∀y∈x.s,y.length<=4611686018427387904)/\x.A.length<=4611686018427387904
def eq_Eng (a b:Aa) (h:zt2 a):zi1 a b=some (Dc (a=b)):=by have d:(a=b)↔(a.x=b.x/\a.s=b.s/\a.c=b.c/\a.A=b.A/\True):=⟨λe=>by subst e;simp,λh=>by cases a;cases b;simp_all⟩;rw[decide_eq_decide.2 d];unfold zi1;rw[eq_EntS a.x b.x h.1];refine eq_call λ_=>?_;rw[eq_EntSS a.s b.s h.2.1];refine eq_call λ_=>?_;refine eq_step λ_=>?_;rw[eq_IntS a.A b.A h.2.2];refine eq_call λ_=>?_;exact eq_end
def zjj (x:Am):Prop:=zt2 x.b
def eq_STen (a b:Am) (h:zjj a):zfY a b=some (Dc (a=b)):=by have c:(a=b)↔(a.r=b.r/\a.K=b.K/\a.O=b.O/\a.b=b.b/\True):=⟨λe=>by subst e;simp,λh=>by cases a;cases b;simp_all⟩;rw[decide_eq_decide.2 c];unfold zfY;refine eq_step λ_=>?_;refine eq_step λ_=>?_;refine eq_step λ_=>?_;rw[eq_Eng a.b b.b h];refine eq_call λ_=>?_;exact eq_end
def eq_LogRow (a b:Ar):zeo a b=some (Dc (a=b)):=by have d:(a=b)↔(a.q=b.q/\a.B=b.B/\a.c=b.c/\a.P=b.P/\a.U=b.U/\True):=⟨λe=>by subst e;simp,λh=>by cases a;cases b;simp_all⟩;rw[decide_eq_decide.2 d];unfold zeo;refine eq_step λ_=>?_;refine eq_step λ_=>?_;refine eq_step λ_=>?_;refine eq_step λ_=>?_;refine eq_step λ_=>?_;exact eq_end
def eq_STenS (a b:List Am) (h:a.length<=4611686018427387904/\∀y∈a,zjj y):zjz a b=some (Dc (a=b)):=
 zeS a b zfY (λx y c _=>eq_STen x y (h.2 x c)) h.1
def zH (x:Am):Nat:=4+(x.b.x.map zj).sum+(x.b.s.map (λl=>(l.map zj).sum)).sum+(x.b.A.map (λ_=>1)).sum
def zhL (q:Int) (x:Am):Am:={r:=q,K:=q+1,O:=q+1+1,b:={x:=mkL ze2 zj (q+1+1+1) x.b.x,s:=mkL (λq l=>mkL ze2 zj q l) (λl=>(l.map zj).sum) (q+1+1+1+(((x.b.x.map zj).sum:Nat):Int)) x.b.s,c:=q+1+1+1+(((x.b.x.map zj).sum:Nat):Int)+(((x.b.s.map (λl=>(l.map zj).sum)).sum:Nat):Int),A:=mkL (λq _=>q) (λ_=>1) (q+1+1+1+(((x.b.x.map zj).sum:Nat):Int)+(((x.b.s.map (λl=>(l.map zj).sum)).sum:Nat):Int)+1) x.b.A:Aa} :Am}
def zu3 (a:List Am) (k:Int) (e:1<=k) (f:k+((a.map zH).sum:Nat)<=4611686018427387904) (h:a.length<=4611686018427387904/\∀y∈a,zjj y):zfs a k=some (k+((a.map zH).sum:Nat),mkL zhL zH k a):=by
 unfold zfs;rw[zb2 zhL zH a k e f h.1 ?hb ?hd]
 case hb=>
  intro q i l x hi c p g hl j
  have t:=h.1
  have d:(zH x:Int)=4+(((x.b.x.map zj).sum:Nat):Int)+(((x.b.s.map (λl=>(l.map zj).sum)).sum:Nat):Int)+(((x.b.A.map (λ_=>1)).sum:Nat):Int):=by show (((4+(x.b.x.map zj).sum+(x.b.s.map (λl=>(l.map zj).sum)).sum+(x.b.A.map (λ_=>1)).sum:Nat)):Int)=_;omega
  rw[d]at g
  have B:J7 ((i:Int)+1)=(i:Int)+1:=za
  have w0:J7 (q+1)=q+1:=za
  have m:J7 (q+1+1)=q+1+1:=za
  have n:J7 (q+1+1+1)=q+1+1+1:=za
  have o:J7 (q+1+1+1+(((x.b.x.map zj).sum:Nat):Int)+(((x.b.s.map (λl=>(l.map zj).sum)).sum:Nat):Int)+1)=q+1+1+1+(((x.b.x.map zj).sum:Nat):Int)+(((x.b.s.map (λl=>(l.map zj).sum)).sum:Nat):Int)+1:=za
  simp only[hi,Og,B,w0,m,n,o,zrl x.b.x (q+1+1+1) (by omega) (by omega) ((h.2 x c).1),zu2 x.b.s (q+1+1+1+(((x.b.x.map zj).sum:Nat):Int)) (by omega) (by omega) ((h.2 x c).2.1),zv5 x.b.A (q+1+1+1+(((x.b.x.map zj).sum:Nat):Int)+(((x.b.s.map (λl=>(l.map zj).sum)).sum:Nat):Int)+1) (by omega) (by omega) ((h.2 x c).2.2)]
  rw[iP (by simpa[hl] using j),Ok,d]
  first | done | rfl | (congr 3<;>omega)
 case hd=>intro q l hl;simp
 rfl
def zuO (a:List Am) (k:Int) (e:1<=k) (f:k+((a.map zH).sum:Nat)<=4611686018427387904) (h:a.length<=4611686018427387904/\∀y∈a,zjj y):zfo (mkL zhL zH k a) k=some (k+((a.map zH).sum:Nat)):=by
 unfold zfo;rw[zbo,zcx zhL zH a k (Ctl.go (k+((a.map zH).sum:Nat))) e f ?hb ?hd]
 case hb=>
  intro q i x hi c p g j
  have t:=h.1
  have d:(zH x:Int)=4+(((x.b.x.map zj).sum:Nat):Int)+(((x.b.s.map (λl=>(l.map zj).sum)).sum:Nat):Int)+(((x.b.A.map (λ_=>1)).sum:Nat):Int):=by show (((4+(x.b.x.map zj).sum+(x.b.s.map (λl=>(l.map zj).sum)).sum+(x.b.A.map (λ_=>1)).sum:Nat)):Int)=_;omega
  rw[d]at g
  have B:J7 ((i:Int)+1)=(i:Int)+1:=za
  have w0:J7 (q+1)=q+1:=za
  have m:J7 (q+1+1)=q+1+1:=za
  have n:J7 (q+1+1+1)=q+1+1+1:=za
  have o:J7 (q+1+1+1+(((x.b.x.map zj).sum:Nat):Int)+(((x.b.s.map (λl=>(l.map zj).sum)).sum:Nat):Int)+1)=q+1+1+1+(((x.b.x.map zj).sum:Nat):Int)+(((x.b.s.map (λl=>(l.map zj).sum)).sum:Nat):Int)+1:=za
  simp only[hi,Og,B,w0,m,n,o,zhL,zre x.b.x (q+1+1+1) (by omega) (by omega) ((h.2 x c).1),zuN x.b.s (q+1+1+1+(((x.b.x.map zj).sum:Nat):Int)) (by omega) (by omega) ((h.2 x c).2.1),zvR x.b.A (q+1+1+1+(((x.b.x.map zj).sum:Nat):Int)+(((x.b.s.map (λl=>(l.map zj).sum)).sum:Nat):Int)+1) (by omega) (by omega) ((h.2 x c).2.2)]
  rw[iP (by simpa using j),d]
  simp only[decide_true,Om,Oh,iF]
  rw[iN (by simp;omega)]
  try simp only[decide_true,Om,Oh,iF]
  rw[iN (by simp;omega)]
  try simp only[decide_true,Om,Oh,iF]
  rw[iN (by simp;omega)]
  try simp only[decide_true,Om,Oh,iF]
  first | done | rfl | (congr 3<;>omega)
 case hd=>simp
 rfl
def eq_LogRowS (a b:List Ar) (h:a.length<=4611686018427387904):zfm a b=some (Dc (a=b)):=
 zeS a b zeo (λx y _ _=>eq_LogRow x y) h
def zq (_:Ar):Nat:=5
def zdk (q:Int) (_:Ar):Ar:=(⟨q,q+1,q+1+1,markT (q+1+1+1),Dc (Pw (q+1+1+1+1) 3=0)⟩:Ar)
def zmP (a:List Ar) (k:Int) (c:1<=k) (d:k+((a.map zq).sum:Nat)<=4611686018427387904) (h:a.length<=4611686018427387904):zcR a k=some (k+((a.map zq).sum:Nat),mkL zdk zq k a):=by
 unfold zcR;rw[zb2 zdk zq a k c d h ?hb ?hd]
 case hb=>
  intro q i l x hi o p e hl f
  have b:(zq x:Int)=5:=rfl
  rw[b]at e
  have A:J7 ((i:Int)+1)=(i:Int)+1:=za
  have w0:J7 (q+1)=q+1:=za
  have g:J7 (q+1+1)=q+1+1:=za
  have j:J7 (q+1+1+1)=q+1+1+1:=za
  have m:J7 (q+1+1+1+1)=q+1+1+1+1:=za
  have n:J7 (q+1+1+1+1+1)=q+1+1+1+1+1:=za
  simp only[hi,Og,A,w0,g,j,m,n,zP (q+1+1+1) (by omega)]
  rw[iP (by simpa[hl] using f),Ok,b]
  first | done | rfl | (congr 3<;>omega)
 case hd=>intro q l hl;simp
 rfl
def zmv (a:List Ar) (k:Int) (c:1<=k) (d:k+((a.map zq).sum:Nat)<=4611686018427387904) (h:a.length<=4611686018427387904):zcQ (mkL zdk zq k a) k=some (k+((a.map zq).sum:Nat)):=by
 unfold zcQ;rw[zbo,zcx zdk zq a k (Ctl.go (k+((a.map zq).sum:Nat))) c d ?hb ?hd]
 case hb=>
  intro q i x hi n o e f
  have b:(zq x:Int)=5:=rfl
  rw[b]at e
  have A:J7 ((i:Int)+1)=(i:Int)+1:=za
  have w0:J7 (q+1)=q+1:=za
  have g:J7 (q+1+1)=q+1+1:=za
  have j:J7 (q+1+1+1)=q+1+1+1:=za
  have l:J7 (q+1+1+1+1)=q+1+1+1+1:=za
  have m:J7 (q+1+1+1+1+1)=q+1+1+1+1+1:=za
  simp only[hi,Og,A,w0,g,j,l,m,zdk,zP (q+1+1+1) (by omega)]
  rw[iP (by simpa using f),b]
  simp
  try omega
 case hd=>simp
 rfl
def zjZ (x:Af):Prop:=zlm x.m/\zln x.u/\(x.a.length<=4611686018427387904/\∀y∈x.a,zjj y)/\x.D.length<=4611686018427387904/\x.I.length<=4611686018427387904
def eq_Store (a b:Af) (h:zjZ a):zdR a b=some (Dc (a=b)):=by have c:(a=b)↔(a.F=b.F/\a.m=b.m/\a.u=b.u/\a.a=b.a/\a.D=b.D/\a.I=b.I/\a.B=b.B/\True):=⟨λe=>by subst e;simp,λh=>by cases a;cases b;simp_all⟩;rw[decide_eq_decide.2 c];unfold zdR;refine eq_step λ_=>?_;rw[eq_KeyDev a.m b.m h.1];refine eq_call λ_=>?_;rw[eq_Shares a.u b.u h.2.1];refine eq_call λ_=>?_;rw[eq_STenS a.a b.a h.2.2.1];refine eq_call λ_=>?_;rw[eq_LogRowS a.D b.D h.2.2.2.1];refine eq_call λ_=>?_;rw[eq_LogRowS a.I b.I h.2.2.2.2];refine eq_call λ_=>?_;refine eq_step λ_=>?_;exact eq_end
def zbB (x:Af):Nat:=((x.m.t.map zl).sum:Nat)+((x.u.j.map zy).sum:Nat)+((x.a.map zH).sum:Nat)+((x.D.map zq).sum:Nat)+((x.I.map zq).sum:Nat)
def zu4 (x:Af) (k:Int) (c:1<=k) (b:k+zbB x<=4611686018427387904) (h:zjZ x):zft x k=some (k+zbB x,mkL zed zl (k) x.m.t,mkL zgq zy (k+(((x.m.t.map zl).sum:Nat):Int)) x.u.j,mkL zhL zH (k+(((x.m.t.map zl).sum:Nat):Int)+(((x.u.j.map zy).sum:Nat):Int)) x.a,mkL zdk zq (k+(((x.m.t.map zl).sum:Nat):Int)+(((x.u.j.map zy).sum:Nat):Int)+(((x.a.map zH).sum:Nat):Int)) x.D,mkL zdk zq (k+(((x.m.t.map zl).sum:Nat):Int)+(((x.u.j.map zy).sum:Nat):Int)+(((x.a.map zH).sum:Nat):Int)+(((x.D.map zq).sum:Nat):Int)) x.I):=by
 have d:k+((((x.m.t.map zl).sum:Nat)+((x.u.j.map zy).sum:Nat)+((x.a.map zH).sum:Nat)+((x.D.map zq).sum:Nat)+((x.I.map zq).sum:Nat):Nat):Int)<=4611686018427387904:=b;have e:k+(zbB x:Int)=k+(((x.m.t.map zl).sum:Nat):Int)+(((x.u.j.map zy).sum:Nat):Int)+(((x.a.map zH).sum:Nat):Int)+(((x.D.map zq).sum:Nat):Int)+(((x.I.map zq).sum:Nat):Int):=by unfold zbB;omega
 rw[e];unfold zft;simp only[zhh,zhj];simp only[zr7 x.m.t (k) (by omega) (by omega) h.1,Og];simp only[ztN x.u.j (k+(((x.m.t.map zl).sum:Nat):Int)) (by omega) (by omega) h.2.1,Og];simp only[zu3 x.a (k+(((x.m.t.map zl).sum:Nat):Int)+(((x.u.j.map zy).sum:Nat):Int)) (by omega) (by omega) h.2.2.1,Og];simp only[zmP x.D (k+(((x.m.t.map zl).sum:Nat):Int)+(((x.u.j.map zy).sum:Nat):Int)+(((x.a.map zH).sum:Nat):Int)) (by omega) (by omega) h.2.2.2.1,Og];simp only[zmP x.I (k+(((x.m.t.map zl).sum:Nat):Int)+(((x.u.j.map zy).sum:Nat):Int)+(((x.a.map zH).sum:Nat):Int)+(((x.D.map zq).sum:Nat):Int)) (by omega) (by omega) h.2.2.2.2,Og]
def zuP (x:Af) (k:Int) (c:1<=k) (b:k+zbB x<=4611686018427387904) (h:zjZ x):zfp (⟨x.F,⟨x.m.L,mkL zed zl (k) x.m.t,x.m.H⟩,⟨x.u.G,mkL zgq zy (k+(((x.m.t.map zl).sum:Nat):Int)) x.u.j⟩,mkL zhL zH (k+(((x.m.t.map zl).sum:Nat):Int)+(((x.u.j.map zy).sum:Nat):Int)) x.a,mkL zdk zq (k+(((x.m.t.map zl).sum:Nat):Int)+(((x.u.j.map zy).sum:Nat):Int)+(((x.a.map zH).sum:Nat):Int)) x.D,mkL zdk zq (k+(((x.m.t.map zl).sum:Nat):Int)+(((x.u.j.map zy).sum:Nat):Int)+(((x.a.map zH).sum:Nat):Int)+(((x.D.map zq).sum:Nat):Int)) x.I,x.B⟩:Af) k=some (k+zbB x):=by
 have d:k+((((x.m.t.map zl).sum:Nat)+((x.u.j.map zy).sum:Nat)+((x.a.map zH).sum:Nat)+((x.D.map zq).sum:Nat)+((x.I.map zq).sum:Nat):Nat):Int)<=4611686018427387904:=b;have e:k+(zbB x:Int)=k+(((x.m.t.map zl).sum:Nat):Int)+(((x.u.j.map zy).sum:Nat):Int)+(((x.a.map zH).sum:Nat):Int)+(((x.D.map zq).sum:Nat):Int)+(((x.I.map zq).sum:Nat):Int):=by unfold zbB;omega
 rw[e];unfold zfp;simp only[zhe,zhf];simp only[zrQ x.m.t (k) (by omega) (by omega) h.1,Og];repeat (rw[iN (by simp;omega)];try simp only[Og])
 simp only[ztB x.u.j (k+(((x.m.t.map zl).sum:Nat):Int)) (by omega) (by omega) h.2.1,Og];repeat (rw[iN (by simp;omega)];try simp only[Og])
 simp only[zuO x.a (k+(((x.m.t.map zl).sum:Nat):Int)+(((x.u.j.map zy).sum:Nat):Int)) (by omega) (by omega) h.2.2.1,Og];repeat (rw[iN (by simp;omega)];try simp only[Og])
 simp only[zmv x.D (k+(((x.m.t.map zl).sum:Nat):Int)+(((x.u.j.map zy).sum:Nat):Int)+(((x.a.map zH).sum:Nat):Int)) (by omega) (by omega) h.2.2.2.1,Og];repeat (rw[iN (by simp;omega)];try simp only[Og])
 simp only[zmv x.I (k+(((x.m.t.map zl).sum:Nat):Int)+(((x.u.j.map zy).sum:Nat):Int)+(((x.a.map zH).sum:Nat):Int)+(((x.D.map zq).sum:Nat):Int)) (by omega) (by omega) h.2.2.2.2,Og];repeat (rw[iN (by simp;omega)];try simp only[Og])
def eq_KV (a b:KV):zia a b=some (Dc (a=b)):=by have c:(a=b)↔(a.g=b.g/\a.J=b.J/\True):=⟨λe=>by subst e;simp,λh=>by cases a;cases b;simp_all⟩;rw[decide_eq_decide.2 c];unfold zia;refine eq_step λ_=>?_;refine eq_step λ_=>?_;exact eq_end
def eq_KVS (a b:List KV) (h:a.length<=4611686018427387904):zlx a b=some (Dc (a=b)):=
 zeS a b zia (λx y _ _=>eq_KV x y) h
def zbQ (_:KV):Nat:=2
def mk_KV (q:Int) (_:KV):KV:=(⟨markT (q),markT (q+1)⟩:KV)
def zwX (a:List KV) (k:Int) (c:1<=k) (d:k+((a.map zbQ).sum:Nat)<=4611686018427387904) (h:a.length<=4611686018427387904):zhg a k=some (k+((a.map zbQ).sum:Nat),mkL mk_KV zbQ k a):=by
 unfold zhg;rw[zb2 mk_KV zbQ a k c d h ?hb ?hd]
 case hb=>
  intro q i l x hi j m e hl f
  have b:(zbQ x:Int)=2:=rfl
  rw[b]at e
  have A:J7 ((i:Int)+1)=(i:Int)+1:=za
  have w0:J7 (q+1)=q+1:=za
  have g:J7 (q+1+1)=q+1+1:=za
  simp only[hi,Og,A,w0,g,zP (q) (by omega),zP (q+1) (by omega)]
  rw[iP (by simpa[hl] using f),Ok,b]
  first | done | rfl | (congr 3<;>omega)
 case hd=>intro q l hl;simp
 rfl
def zwV (a:List KV) (k:Int) (c:1<=k) (d:k+((a.map zbQ).sum:Nat)<=4611686018427387904) (h:a.length<=4611686018427387904):zhd (mkL mk_KV zbQ k a) k=some (k+((a.map zbQ).sum:Nat)):=by
 unfold zhd;rw[zbo,zcx mk_KV zbQ a k (Ctl.go (k+((a.map zbQ).sum:Nat))) c d ?hb ?hd]
 case hb=>
  intro q i x hi j l e f
  have b:(zbQ x:Int)=2:=rfl
  rw[b]at e
  have A:J7 ((i:Int)+1)=(i:Int)+1:=za
  have w0:J7 (q+1)=q+1:=za
  have g:J7 (q+1+1)=q+1+1:=za
  simp only[hi,Og,A,w0,g,mk_KV,zP (q) (by omega),zP (q+1) (by omega)]
  rw[iP (by simpa using f),b]
  simp
  try omega
 case hd=>simp
 rfl
def zgu (x:At):Prop:=x.j.length<=4611686018427387904
def eq_Reply (a b:At) (h:zgu a):ze0 a b=some (Dc (a=b)):=by have c:(a=b)↔(a.V=b.V/\a.N=b.N/\a.P=b.P/\a.j=b.j/\True):=⟨λe=>by subst e;simp,λh=>by cases a;cases b;simp_all⟩;rw[decide_eq_decide.2 c];unfold ze0;refine eq_step λ_=>?_;refine eq_step λ_=>?_;refine eq_step λ_=>?_;rw[eq_KVS a.j b.j h];refine eq_call λ_=>?_;exact eq_end
def zxi (a:List As) (left:Int) (b:0<=left) (c:left<=1048576) (h:okl a):zhk a left=some (szV left (wS zei a)):=by unfold zhk;exact zwq a zfZ zei (λx d left b c=>zx2 x left b c (h.2 x d)) h.1 left b c
def to_CallS (a:List As) (h:wS zei a<=1048576):zhl a=some a:=by have hl:=zp4 h;unfold zhl;rw[zoF (by omega) (by omega)];simp only[Og];rw[to_loop a _ zf0 (λx b=>(to_Call x (zwy h b))) (by omega)];rfl
def eq_CallS (a b:List As) (h:a.length<=4611686018427387904/\∀y∈a,zji y):zjw a b=some (Dc (a=b)):=
 zeS a b zfW (λx y c _=>eq_Call x y (h.2 x c)) h.1
def zd6 (x:As):Nat:=6+(x.Q.map zej).sum
def zum (q:Int) (x:As):As:=(⟨q,markT (q+1),q+1+1,q+1+1+1,markT (q+1+1+1+1),markT (q+1+1+1+1+1),mkL mk_Op zej (q+1+1+1+1+1+1) x.Q⟩:As)
def zu1 (a:List As) (k:Int) (c:1<=k) (d:k+((a.map zd6).sum:Nat)<=4611686018427387904) (h:a.length<=4611686018427387904/\∀y∈a,zji y):zfq a k=some (k+((a.map zd6).sum:Nat),mkL zum zd6 k a):=by
 unfold zfq;rw[zb2 zum zd6 a k c d h.1 ?hb ?hd]
 case hb=>
  intro q i l x hi e s f hl g
  have t:=h.1
  have b:(zd6 x:Int)=6+(((x.Q.map zej).sum:Nat):Int):=by show (((6+(x.Q.map zej).sum:Nat)):Int)=_;omega
  rw[b]at f
  have A:J7 ((i:Int)+1)=(i:Int)+1:=za
  have w0:J7 (q+1)=q+1:=za
  have j:J7 (q+1+1)=q+1+1:=za
  have m:J7 (q+1+1+1)=q+1+1+1:=za
  have n:J7 (q+1+1+1+1)=q+1+1+1+1:=za
  have o:J7 (q+1+1+1+1+1)=q+1+1+1+1+1:=za
  have p:J7 (q+1+1+1+1+1+1)=q+1+1+1+1+1+1:=za
  simp only[hi,Og,A,w0,j,m,n,o,p,zP (q+1) (by omega),zP (q+1+1+1+1) (by omega),zP (q+1+1+1+1+1) (by omega),zwY x.Q (q+1+1+1+1+1+1) (by omega) (by omega) ((h.2 x e))]
  rw[iP (by simpa[hl] using g),Ok,b]
  first | done | rfl | (congr 3<;>omega)
 case hd=>intro q l hl;simp
 rfl
def eq_ReplyS (a b:List At) (h:a.length<=4611686018427387904/\∀y∈a,zgu y):zep a b=some (Dc (a=b)):=
 zeS a b ze0 (λx y c _=>eq_Reply x y (h.2 x c)) h.1
def zbs (x:At):Nat:=3+(x.j.map zbQ).sum
def zjD (q:Int) (x:At):At:=(⟨q,q+1,markT (q+1+1),mkL mk_KV zbQ (q+1+1+1) x.j⟩:At)
def ztM (a:List At) (k:Int) (c:1<=k) (d:k+((a.map zbs).sum:Nat)<=4611686018427387904) (h:a.length<=4611686018427387904/\∀y∈a,zgu y):zeN a k=some (k+((a.map zbs).sum:Nat),mkL zjD zbs k a):=by
 unfold zeN;rw[zb2 zjD zbs a k c d h.1 ?hb ?hd]
 case hb=>
  intro q i l x hi e o f hl g
  have p:=h.1
  have b:(zbs x:Int)=3+(((x.j.map zbQ).sum:Nat):Int):=by show (((3+(x.j.map zbQ).sum:Nat)):Int)=_;omega
  rw[b]at f
  have A:J7 ((i:Int)+1)=(i:Int)+1:=za
  have w0:J7 (q+1)=q+1:=za
  have m:J7 (q+1+1)=q+1+1:=za
  have n:J7 (q+1+1+1)=q+1+1+1:=za
  simp only[hi,Og,A,w0,m,n,zP (q+1+1) (by omega),zwX x.j (q+1+1+1) (by omega) (by omega) ((h.2 x e))]
  rw[iP (by simpa[hl] using g),Ok,b]
  first | done | rfl | (congr 3<;>omega)
 case hd=>intro q l hl;simp
 rfl
def ztA (a:List At) (k:Int) (c:1<=k) (d:k+((a.map zbs).sum:Nat)<=4611686018427387904) (h:a.length<=4611686018427387904/\∀y∈a,zgu y):zeL (mkL zjD zbs k a) k=some (k+((a.map zbs).sum:Nat)):=by
 unfold zeL;rw[zbo,zcx zjD zbs a k (Ctl.go (k+((a.map zbs).sum:Nat))) c d ?hb ?hd]
 case hb=>
  intro q i x hi e n f g
  have o:=h.1
  have b:(zbs x:Int)=3+(((x.j.map zbQ).sum:Nat):Int):=by show (((3+(x.j.map zbQ).sum:Nat)):Int)=_;omega
  rw[b]at f
  have A:J7 ((i:Int)+1)=(i:Int)+1:=za
  have w0:J7 (q+1)=q+1:=za
  have l:J7 (q+1+1)=q+1+1:=za
  have m:J7 (q+1+1+1)=q+1+1+1:=za
  simp only[hi,Og,A,w0,l,m,zjD,zP (q+1+1) (by omega),zwV x.j (q+1+1+1) (by omega) (by omega) ((h.2 x e))]
  rw[iP (by simpa using g),b]
  simp only[decide_true,Om,Oh,iF]
  rw[iN (by simp;omega)]
  try simp only[decide_true,Om,Oh,iF]
  first | done | rfl | (congr 3<;>omega)
 case hd=>simp
 rfl
theorem zii: ∀a b:J2,(sLt b a||decide (b=a))= !sLt a b
 | [],[]=>rfl
 | [],b::y=>by rfl
 | a::x,[]=>by rfl
 | a::x,b::y=>by have ih:=zii x y;simp only[sLt]at ih;simp only[sLt,Op.bytesLess];grind
theorem zli (pass:Nat->Bool) (n:Nat) (h: ∀k,k<n->body (k:Int)=some (if pass k=true then .go ((k:Int)+1) else .done (.done false))) (a:body (n:Int)=some (.done (.go ()))):
 loopO body 0=some (if (Qf n).all pass=true then .go () else .done false):=by
 have key: ∀d k,k+d=n->loopO body (k:Int)=some (if ((Qf n).drop k).all pass=true then .go () else .done false):=by
  intro d;induction d with
  | zero=>
    intro k b;obtain rfl:k=n:=by omega
    rw[zG,a,Ox (by simp)];rfl
  | succ d ih=>
    intro k b;have c:(Qf n).drop k=k::(Qf n).drop (k+1):=by rw[Oi (by grind)];simp
    rw[zG,h k (by omega),c,Si];grind
 have:=key n 0 (by omega);trivial
theorem zxt (x y:Int):zdB x y=some (if x<y then -1 else if x>y then 1 else 0):=by unfold zdB zeF;grind
theorem zxu (x y:J2):zdC x y=some (if sLt x y=true then -1 else if !(sLt x y||decide (x=y)) then 1 else 0):=by unfold zdC zeG;grind
theorem zcD: ∀{a b c:J2},sLt a b=true->sLt b c=true->sLt a c=true
 | [],[],_,h,_=>by trivial
 | [],_::_,[],_,h=>by trivial
 | [],_::_,_::_,_,_=>rfl
 | _::_,[],_,h,_=>by trivial
 | _::_,_::_,[],_,h=>by trivial
 | x::a,y::b,z::c,d,e=>by
   simp only[sLt,Op.bytesLess,Rc,decide_eq_true_eq,Oq,beq_iff_eq]at d e |-
   rcases d with d | ⟨rfl,d⟩
   ·grind
   ·rcases e with e | ⟨rfl,e⟩
    ·simp_all
    ·exact .inr ⟨rfl,zcD d e⟩
def zbO (a:J2):sLt a a=false:=by have:=zii a a;simp_all
def entV (e:Ac):Bool:=Dc (1<=(e.g.length:Int)/\(e.g.length:Int)<=10)&&(Dc (0<=e.c/\e.c<=1000000)&&(Dc ((e.J.length:Int)<=16)&&(!e.M||decide (e.J= []))))
def entLt (a b:Ac):Bool:=sLt a.g b.g||(Dc (a.g=b.g)&&Dc (a.c>b.c))
def entP (l:List Ac) (k:Nat):Bool:=match l[k]? with
 | some e=>entV e&&(match k with | 0=>true | j+1=>match l[j]? with | some d=>entLt d e | none=>true)
 | none=>true
theorem zgw (l:List Ac) (k:Nat) (h:k<l.length):entP l k=(entV l[k]&&(if a:0<k then entLt (l[k - 1]'(by omega)) l[k] else true)):=by unfold entP;grind
def entsV (l:List Ac):Bool:=(Qf l.length).all (entP l)
theorem zsj (e:Ac):zja e=some (entV e):=by unfold zja ze9 entV;simp only[zbe,Og];grind
theorem zdp (a b:Ac):zcX a b=some (entLt a b):=by unfold zcX entLt;grind
def zwE (x y:Int):zgO [x,y]=some (if x≠0 then x else y):=by
 unfold zgO;by_cases a:x=0
 ·by_cases b:y=0
  ·rw[zh (λk=>(k:Int)) 2 (r:=Ctl.go ()) ?h0]
   case h0=>rfl
   ·simp_all
   ·intro k c;have:k=0\/k=1:=by omega
    rcases this with rfl | rfl
    ·simp[idx,a];rfl
    ·simp[idx,b];rfl
   ·rfl
  ·rw[zG];simp only[idx,a];simp;rw[zG];have:J7 1=1:=by decide
   simp_all
 ·rw[zG];simp[idx,a]
def zvt (pass:Nat->Bool) (n:Nat) (h: ∀k,k<n->body (k:Int)=some (if pass k=true then .go ((k:Int)+1) else .done (.done false))) (a:body (n:Int)=some (.done (.go ()))):
    bindC (loopO body 0) (λ(_:Unit)=>some true)=some ((Qf n).all pass):=by rw[zli pass n h a];cases (Qf n).all pass<;>rfl
theorem zfI (l:List Ac) (h:l.length<=1048576):zdx l=some (entsV l):=by
 refine zvt (entP l) l.length ?_ (by simp);intro k a;simp only[zb l k a,Og,zsj];rw[iP,za (n:=(k:Int)+1),zgw l k a];cases c:entV l[k] with
 | false=>simp
 | true=>
   by_cases d:0<k
   ·have b:J7 ((k:Int) - 1)=((k - 1:Nat):Int):=by rw[za];omega
    simp only[b,zb l (k - 1) (by omega),Og,zdp];grind
   ·simp_all
theorem zgx (a:entsV l=true): ∀(j:Nat) (d:j<l.length) (i:Nat) (hi:i<j),sLt (l[i]'(by omega)).g l[j].g=true\/((l[i]'(by omega)).g=l[j].g/\(l[i]'(by omega)).c>l[j].c):=by
 intro j;induction j with
 | zero=>intro _ i hi;omega
 | succ j ih=>
   intro d i hi;have b:entLt (l[j]'(by omega)) l[j+1]=true:=by unfold entsV at a;rw[Pa]at a;have:=a (j+1) (by simp_all);rw[zgw l (j+1) d,dif_pos (by omega),Oq]at this;simp_all
   unfold entLt at b;simp only[Rc,Oq,decide_eq_true_eq]at b;by_cases e:i=j
   ·simp_all
   ·rcases ih (by omega) i (by omega) with f | ⟨f,k⟩
    ·rcases b with h | ⟨h,_⟩
     ·exact .inl (zcD f h)
     ·simp_all
    ·grind
def visE (l:List Ac) (seq:Int) (k:Nat):Bool:=match l[k]? with
 | some e=>decide (e.c<=seq)&&(l.take k).all λd=>!(Dc (d.g=e.g)&&Dc (d.c<=seq))
 | none=>false
def zfL (l:List Ac) (seq:Int) (k:Nat) (h:k<l.length):visE l seq k=(Dc (l[k].c<=seq)&&(l.take k).all λd=>!(Dc (d.g=l[k].g)&&Dc (d.c<=seq))):=by unfold visE;rw[Pb h]
def visL (l:List Ac) (seq:Int):Nat->List KV
 | 0=>[]
 | k+1=>visL l seq k++(match l[k]? with | some e=>if visE l seq k=true/\e.M=false then [⟨e.g,e.J⟩] else [] | none=>[])
def zks (l:List Ac) (seq:Int) (k:Nat) (h:k<l.length):visL l seq (k+1)=visL l seq k++if visE l seq k=true/\l[k].M=false then [⟨l[k].g,l[k].J⟩] else []:=by show visL l seq k++(match l[k]? with | some e=>_ | none=>_)=_;simp_all
theorem zo1 (l:List Ac) (seq:Int): ∀k,k<=l.length->(visL l seq k).length<=k:=by
 intro k;induction k with
 | zero=>intro _;simp[visL]
 | succ k ih=>intro h;rw[zks l seq k (by omega),Ol];grind
theorem ziz (l:List Ac) (key:J2) (seq:Int) (h:l.length<=1048576):
 zdq l key seq=some (match l.find? (λd=>decide (d.g=key)&&Dc (d.c<=seq)) with | some d=>(d,true) | none=>(⟨[],0,false,[]⟩,false)):=by
 unfold zdq;rw[zci (λk s=>s=(k:Int)/\l.find? (λd=>decide (d.g=key)&&Dc (d.c<=seq))=(l.drop k).find? (λd=>decide (d.g=key)&&Dc (d.c<=seq))) l.length
  (match l.find? (λd=>decide (d.g=key)&&Dc (d.c<=seq)) with | some d=>Ctl.done (d,true) | none=>Ctl.go ()) ?h0 ?h1 ?h2]
 ·cases l.find? (λd=>decide (d.g=key)&&Dc (d.c<=seq))<;>rfl
 case h0=>exact ⟨rfl,rfl⟩
 ·rintro k s a ⟨rfl,b⟩;rw[b,Oi a];simp only[zb l k a,Og];rw[iP,za (n:=(k:Int)+1)];grind
 ·grind
theorem zrL (a:k<l.length) (b:visE l seq k=true):l.find? (λd=>decide (d.g=l[k].g)&&Dc (d.c<=seq))=some l[k]:=by
 rw[zfL l seq k a,Oq,Pa]at b;have hs:l=l.take k++l[k]::l.drop (k+1):=by simp
 grind
theorem ztq (m:entsV l=true) (h:k<l.length) (n:visE l seq k=false):
 ∀d,l.find? (λd=>decide (d.g=l[k].g)&&Dc (d.c<=seq))=some d->¬d.c=l[k].c:=by
 intro d o p;have a:=List.find?_some o;simp only[Oq,decide_eq_true_eq]at a;rw[zfL l seq k h,dT,Pv]at n;have u: ∃e∈l.take k,e.g=l[k].g/\e.c<=seq:=by simp_all
 have q: ∃f,(l.take k).find? (λd=>decide (d.g=l[k].g)&&Dc (d.c<=seq))=some f:=by
  cases j:(l.take k).find? (λd=>decide (d.g=l[k].g)&&Dc (d.c<=seq)) with
  | some f=>exact ⟨f,rfl⟩
  | none=>grind
 obtain ⟨f,j⟩:=q;have s:f=d:=by have hs:l=l.take k++l.drop k:=(Oz k l).symm;grind
 subst s;obtain ⟨i,hi,rfl⟩:=On (List.mem_of_find?_eq_some j);have t:i<k:=by grind
 simp only[Qm]at p a;rcases zgx m k h i t with b | ⟨_,b⟩
 ·rw[a.1,zbO]at b;cases b
 ·omega
theorem zsk (l:List Ac) (seq:Int) (e:entsV l=true) (h:l.length<=1048576):zjb l seq=some (visL l seq l.length):=by
 unfold zjb;rw[zh (λk=>((k:Int),visL l seq k)) l.length (r:=Ctl.go (visL l seq l.length)) ?h0]
 case h0=>rfl
 ·rfl
 ·intro k a;have f:=zo1 l seq k (by omega);simp only[zb l k a,Og,ziz _ _ _ h,zks l seq k a];rw[iP,za (n:=(k:Int)+1)];cases b:visE l seq k with
  | true=>
    rw[zrL a b];cases i:l[k].M with
    | true=>simp
    | false=>simp only[Ph,iT,Og,decide_true,and_self];rw[zf (by grind) (by grind)];rfl
  | false=>
    have j:=ztq e a b;cases m:l.find? (λd=>decide (d.g=l[k].g)&&Dc (d.c<=seq)) with
    | none=>simp
    | some d=>simp_all
 ·simp
def lastS (l:List Ac) (seq:Int):Nat->J2 × Bool
 | 0=>([],false)
 | k+1=>match l[k]? with | some e=>if visE l seq k=true then (e.g,true) else lastS l seq k | none=>lastS l seq k
def zlw (l:List Ac) (seq:Int) (k:Nat) (h:k<l.length):lastS l seq (k+1)=if visE l seq k=true then (l[k].g,true) else lastS l seq k:=by show (match l[k]? with | some e=>_ | none=>_)=_;simp_all
theorem zuY (l:List Ac) (seq:Int): ∀k,k<=l.length->(lastS l seq k).2=true/\(∃i,∃h:i<l.length,i<k/\visE l seq i=true/\l[i].g=(lastS l seq k).1/\∀j,i<j->j<k->visE l seq j=false)\/(lastS l seq k).2=false/\∀j,j<k->visE l seq j=false:=by
 intro k;induction k with
 | zero=>intro _;exact .inr ⟨rfl,λj a=>by omega⟩
 | succ k ih=>intro b;rw[zlw l seq k (by omega)];grind
theorem zp3 (l:List Ac) (seq:Int): ∀(n j:Nat) (d:j<=n) (a:j<l.length),l[j].c<=seq->∃i,∃h:i<l.length,i<=j/\visE l seq i=true/\l[i].g=l[j].g:=by
 intro n;induction n with
 | zero=>
   intro j d a hs;obtain rfl:j=0:=by omega
   exact ⟨0,a,Ov _,by rw[zfL l seq 0 a];simp_all,rfl⟩
 | succ n ih=>
   intro j d a hs;cases b:visE l seq j with
   | true=>exact ⟨j,a,Ov _,b,rfl⟩
   | false=>rw[zfL l seq j a,dT hs,Pv,<-Td,Pa]at b;simp only[Classical.not_forall]at b;obtain ⟨e,f,k⟩:=b;obtain ⟨i,hi,rfl⟩:=On f;grind
theorem ztb (m:entsV l=true) (n:k<l.length) (hs:l[k].c<=seq):visE l seq k= !((lastS l seq k).2&&Dc (l[k].g=(lastS l seq k).1)):=by
 rw[zfL l seq k n,dT hs,Pv];rcases zuY l seq k (by omega) with ⟨b,i,hi,o,u,D,E⟩ | ⟨b,o⟩
 ·rw[b,Pv];by_cases f:l[k].g=(lastS l seq k).1
  ·rw[dT f];show _=false;rw[<-Td,Pa];intro v;have w:l[i]∈l.take k:=by
    have:(l.take k)[i]'(by grind)=l[i]:=by simp
    grind
   have:=v _ w;rw[zfL l seq i hi,Oq]at u;simp_all
  ·rw[dF f,Ph,Pa];intro d h;obtain ⟨j,x,rfl⟩:=On h;have y:j<k:=by grind
   simp only[Qm];cases a:(Dc ((l[j]'(by omega)).g=l[k].g)&&Dc ((l[j]'(by omega)).c<=seq)) with
   | false=>rfl
   | true=>
     exfalso;simp only[Oq,decide_eq_true_eq]at a;obtain ⟨q,z,A,B,p⟩:=zp3 l seq j j (Ov _) (by omega) a.2;have F:q<=i:=by grind
     have C:l[q].g=l[k].g:=p.trans a.1;refine f ?_;by_cases e:q=i
     ·simp_all
     ·rcases zgx m i hi q (by omega) with s | ⟨s,_⟩
      ·rcases zgx m k n i o with t | ⟨t,_⟩
       ·have:=zcD s t;rw[C,zbO]at this;cases this
       ·simp_all
      ·simp_all
 ·rw[b,Sd,Ph,Pa];intro d h;obtain ⟨j,x,rfl⟩:=On h;have y:j<k:=by grind
  simp only[Qm];cases a:(Dc ((l[j]'(by omega)).g=l[k].g)&&Dc ((l[j]'(by omega)).c<=seq)) with
  | false=>rfl
  | true=>exfalso;simp only[Oq,decide_eq_true_eq]at a;obtain ⟨q,z,A,B,p⟩:=zp3 l seq j j (Ov _) (by omega) a.2;grind
theorem zpm (l:List Ac) (seq:Int) (e:entsV l=true) (h:l.length<=1048576):zg7 l seq=some (visL l seq l.length):=by
 unfold zg7;rw[zh (λk=>((lastS l seq k).1,(lastS l seq k).2,(k:Int),visL l seq k)) l.length (r:=Ctl.go (visL l seq l.length)) ?h0]
 case h0=>rfl
 ·rfl
 ·intro k a;have i:=zo1 l seq k (by omega);simp only[zb l k a,Og,zks l seq k a,zlw l seq k a];rw[iP,za (n:=(k:Int)+1)];by_cases hs:l[k].c<=seq
  ·have b:=ztb e a hs;generalize lastS l seq k=ls at b |-
   obtain ⟨last,A⟩:=ls;rw[dF];cases A with
   | false=>
     rw[b];cases f:l[k].M with
     | true=>simp
     | false=>rw[zf (by grind) (by grind)];rfl
   | true=>
     by_cases d:l[k].g=last
     ·simp_all
     ·rw[dF d]at b;rw[b,dF d];cases f:l[k].M with
      | true=>simp
      | false=>rw[zf (by grind) (by grind)];rfl
  ·have j:visE l seq k=false:=by rw[zfL l seq k a,dF hs,Sd]
   simp_all
 ·simp
def rangeV (l:List Ac):Int × Int:=l.foldl (λs e=>(goMin s.1 e.c,goMax s.2 e.c)) (1000001,-1)
def ztQ (l:List Ac) (k:Nat) (h:k<l.length):rangeV (l.take (k+1))=(goMin (rangeV (l.take k)).1 l[k].c,goMax (rangeV (l.take k)).2 l[k].c):=by unfold rangeV;rw[show l.take (k+1)=l.take k++ [l[k]] by simp,List.foldl_append];rfl
def ziK (l:List Ac) (h:l.length<=1048576):zcL l=some (rangeV l):=by
 unfold zcL;rw[zh (λk=>((rangeV (l.take k)).1,(rangeV (l.take k)).2,(k:Int))) l.length (r:=Ctl.go (rangeV l)) ?h0]
 case h0=>rfl
 ·rfl
 ·intro k a;simp only[zb l k a,Og,ztQ l k a];rw[iP,za (n:=(k:Int)+1)];unfold goMin goMax;by_cases b:l[k].c<(rangeV (l.take k)).1<;>by_cases d:l[k].c>(rangeV (l.take k)).2<;>simp[b,d]
 ·simp
def memV (l:List Ac):Bool:=Dc (l.length<=60)&&entsV l
theorem zsc (l:List Ac) (h:l.length<=1048576):zi8 l=some (memV l):=by unfold zi8 memV;simp only[zfI l h,Og];grind
def tabsV (seq:Int):Int->List (List Ac)->Bool
 | _,[]=>true
 | low,t::r=>(Dc (t≠[])&&(entsV t&&(Dc ((rangeV t).2<low)&&Dc ((rangeV t).2<=seq))))&&tabsV seq (rangeV t).1 r
def snapP (seq:Int) (l:List Int) (k:Nat):Bool:=match l[k]? with
 | some s=>decide (0<=s/\s<=seq)&&(match k with | 0=>true | j+1=>match l[j]? with | some d=>decide (d<s) | none=>true)
 | none=>true
theorem zlP (seq:Int) (l:List Int) (k:Nat) (h:k<l.length):snapP seq l k=(Dc (0<=l[k]/\l[k]<=seq)&&(if a:0<k then Dc (l[k - 1]'(by omega)<l[k]) else true)):=by unfold snapP;grind
def snapsV (seq:Int) (l:List Int):Bool:=(Qf l.length).all (snapP seq l)
def totalV (l:List (List Ac)):Nat:=(l.map Qd).sum
def engV (e:Aa):Bool:=(Dc (0<=e.c/\e.c<=1000000)&&(Dc (e.A.length<=4)&&(Dc (e.s.length<=6)&&(Dc (totalV e.s+e.x.length<=400)&&(memV e.x&&(Dc ((rangeV e.x).2<=e.c)&&tabsV e.c (rangeV e.x).1 e.s))))))&&snapsV e.c e.A
def zjd (l:List (List Ac)) (k:Nat) (h:k<l.length):totalV (l.take (k+1))=totalV (l.take k)+l[k].length:=by unfold totalV;rw[show l.take (k+1)=l.take k++ [l[k]] by simp,List.map_append,List.sum_append];rfl
theorem zlU (l:List (List Ac)) (k:Nat):totalV (l.take k)<=totalV l:=by
 unfold totalV;conv=>rhs;rw[<-Oz k l]
 grind
def zkc (l:List (List Ac)) (h:l.length<=1048576) (c:totalV l<=1048576):zeZ l=some (totalV l:Int):=by
 unfold zeZ;rw[zh (λk=>((totalV (l.take k):Int),(k:Int))) l.length (r:=Ctl.go (totalV l:Int)) ?h0]
 case h0=>rfl
 ·rfl
 ·intro k a;have b:=zjd l k a;have d:=zlU l (k+1);simp only[zb l k a,Og,b];rw[iP,za (n:=(k:Int)+1),za];rfl
 ·simp
theorem zb9 (e:Aa) (h:e.x.length<=1048576) (D:e.s.length<=1048576) (m:totalV e.s<=1048576) (E:e.A.length<=1048576):zb4 e=some (engV e):=by
 have o: ∀t∈e.s,t.length<=1048576:=λt p=>Pr (zgK Qd p) m;unfold zb4 engV;simp only[zsc _ h,zbe,ziK _ h,Og];cases F:memV e.x with
 | false=>simp
 | true=>
   by_cases q:e.s.length<=6
   ·rw[dT q,dF];by_cases u:0<=e.c/\e.c<=1000000
    ·rw[dT u];by_cases v:e.A.length<=4
     ·rw[dT v,dF];by_cases w:(rangeV e.x).2<=e.c
      ·rw[dT w,dF];simp only[Om,Oh,iF,Og,Pv];have Z:=zci (ρ:=Ctl Int Bool) (s0:=((rangeV e.x).1,(e.x.length:Int),(0:Int))) (body:=λ(I:Int × Int × Int)=>if Dc (I.2.2<(e.s.length:Int))then Bb (idx e.s I.2.2) λJ=>Bb (zcL J) λM=>Bb (if Dc ((J.length:Int)=0)then some true else Bb (zdx J) λO=>if !O then some true else if Dc (M.2>=I.1)then some true else some (Dc (M.2>e.c))) (λ(T:Bool)=>if T=true then some (.done (.done false))else some (.go (M.1,J7 (I.2.1+(J.length:Int)),J7 (I.2.2+1))))else some (.done (.go I.2.1)))
        (λk s=>s.2.2=(k:Int)/\s.2.1=(totalV (e.s.take k):Int)+e.x.length/\tabsV e.c (rangeV e.x).1 e.s=tabsV e.c s.1 (e.s.drop k)) e.s.length
        (bif tabsV e.c (rangeV e.x).1 e.s then Ctl.go ((totalV e.s:Int)+e.x.length) else Ctl.done false) ⟨rfl,by simp[totalV],rfl⟩ (by
          rintro k ⟨V,W,i⟩ a ⟨b,d,f⟩;subst b d;have y:e.s.drop k=e.s[k]::e.s.drop (k+1):=Oi a;have j:=o _ (Pq a);have G:=zjd e.s k a;have t2:=zlU e.s (k+1);rw[f,y];simp only[tabsV,zb e.s k a,Og,ziK _ j,zfI _ j];rw[iP (by grind),za (n:=(k:Int)+1),za (n:=(totalV (e.s.take k):Int)+e.x.length+(e.s[k].length:Int))];by_cases g:e.s[k]= []
          ·simp_all
          ·have H: ¬(e.s[k].length:Int)=0:=by simp;omega
           grind) (by
          rintro ⟨V,W,i⟩ ⟨b,d,f⟩;subst b d;rw[f,Ru];simp[tabsV])
       rw[Z];cases tabsV e.c (rangeV e.x).1 e.s with
       | false=>simp
       | true=>
         rw[zli (snapP e.c e.A) e.A.length ?hp ?hq]
         case hq=>simp
         case hp=>
          intro k a
          simp only[zb e.A k a,Og]
          rw[iP,za (n:=(k:Int)+1),zlP e.c e.A k a]
          by_cases g:0<=e.A[k]/\e.A[k]<=e.c
          ·rw[dT g];by_cases z:0<k
           ·have B:J7 ((k:Int) - 1)=((k - 1:Nat):Int):=by rw[za];omega
            rw[dif_pos z,iN (by simp),iP];simp only[B,zb e.A (k - 1) (by omega),Og];by_cases l:e.A[k - 1]'(by omega)<e.A[k]
            ·simp[l,show ¬e.A[k]<=e.A[k - 1]'(by omega) by omega]
            ·simp[l,show e.A[k]<=e.A[k - 1]'(by omega) by omega]
           ·obtain rfl:k=0:=by omega
            simp
          ·rw[dF g];simp
         have U:(Qf e.A.length).all (snapP e.c e.A)=snapsV e.c e.A:=rfl;rw[U];have C:Dc ((totalV e.s:Int)+(e.x.length:Int)<=400)=Dc (totalV e.s+e.x.length<=400):=decide_eq_decide.2 (by omega);cases snapsV e.c e.A with
         | false=>simp
         | true=>simp only[iT,cT,ze,C,Pv,Sm]
      ·grind
     ·grind
    ·grind
   ·grind
theorem zmq (s:List Ac) (h:s.length<=1048576):zcn s=some s:=by unfold zcn;rw[zf (by grind) (by grind)];rfl
theorem zss (s:List Int) (h:s.length<=1048576):zdn s=some s:=by unfold zdn;rw[zf (by grind) (by grind)];rfl
theorem zj7 (e:Aa) (b:e.x.length<=1048576) (g:e.s.length<=1048576) (c: ∀t∈e.s,t.length<=1048576) (d:e.A.length<=1048576):zeV e=some e:=by
 unfold zeV;simp only[zmq _ b,zss _ d,Og];rw[zh (λk=>((k:Int),e.s.take k)) e.s.length (r:=Ctl.go e.s) ?h0]
 case h0=>rfl
 ·rfl
 ·intro k a;have f:e.s.take (k+1)=e.s.take k++ [e.s[k]]:=by simp
  simp only[zb e.s k a,Og,zmq _ (c _ (Pq a))];rw[iP,za (n:=(k:Int)+1),zf (by grind) (by simp;omega),f];rfl
 ·simp
theorem zb5 (e:Aa) (d:e.x.length<=1048576) (g:e.s.length<=1048576) (f: ∀t∈e.s,t.length<=1048576) (h:e.A.length<=1048576):zbL e=some e:=by
 have a: ∀t:List Ac,t.length<=1048576->app 48 ([]:List Ac) t=some t:=λt b=>by rw[zf (by grind) (by grind)];rfl
 unfold zbL;rw[a _ d,zf (l:=([]:List Int)) (k:=e.A) (by grind) (by grind)];rw[zh (λk=>((k:Int),e.s.take k)) e.s.length (r:=Ctl.go e.s) ?h0]
 case h0=>rfl
 ·rfl
 ·intro k c;have b:e.s.take (k+1)=e.s.take k++ [e.s[k]]:=by simp
  simp only[zb e.s k c,Og,a _ (f _ (Pq c))];rw[iP,za (n:=(k:Int)+1),zf (by grind) (by simp;omega),b];rfl
 ·simp
theorem ztv (s:List Int) (v:Int) (h:s.length<=1048576):zcp s v=some (Dc (v∈s)):=by
 unfold zcp zbv;have key: ∃c,loopO (ρ:=Ctl Unit Int) (λ(S1:Int)=>if Dc (S1<(s.length:Int))then Bb (idx s S1) λA=>if Dc (v=A)then some (.done (.done S1))else some (.go (J7 (S1+1)))else some (.done (.go ()))) 0=some c/\
  ((∃j:Int,c= .done j/\0<=j/\v∈s)\/(c= .go ()/\v∉s)):=by
  refine zbi (λi t=>t=(i:Int)/\∀q (h:q<s.length),q<i->s[q]≠v) s.length _ ⟨rfl,λq h a=>by omega⟩ ?_ ?_
  ·rintro i t hi ⟨rfl,a⟩;simp only[zb s i hi,Og];rw[iP,za];grind
  ·rintro t ⟨rfl,a⟩;refine ⟨.go (),by simp,.inr ⟨rfl,λb=>?_⟩⟩;obtain ⟨q,e,rfl⟩:=On b;grind
 obtain ⟨c,f,a⟩:=key;rcases a with ⟨j,rfl,g,d⟩ | ⟨rfl,d⟩
 ·simp_all
 ·simp_all
theorem ze6 {l:List Int} (a:snapsV seq l=true) (k:Nat) (b:k<l.length):(0<=l[k]/\l[k]<=seq)/\(0<k->l[k - 1]'(by omega)<l[k]):=by unfold snapsV at a;rw[Pa]at a;have:=a k (by simp_all);rw[zlP seq l k b,Oq]at this;grind
theorem zpK {l:List Int} (a:snapsV seq l=true) (c:0<l.length):(seq∈l)↔l[l.length - 1]'(by omega)=seq:=by
 constructor
 ·intro b;obtain ⟨i,hi,d⟩:=On b;by_cases e:i=l.length - 1
  ·simp_all
  ·have f:=(ze6 a (i+1) (by omega)).2 (by omega);have g:=(ze6 a (i+1) (by omega)).1;grind
 ·grind
def snapR (e:Aa):Aa × Int × Bool:=
 if engV e=true then (if e.c∈e.A then (e,e.c,true) else if e.A.length=4 then (e,0,false) else ({e with A:=e.A++ [e.c]},e.c,true))
 else (⟨[],[],0,[]⟩,0,false)
def ziN (h:engV e=true):e.A.length<=4/\snapsV e.c e.A=true:=by unfold engV at h;simp_all
theorem zpO (e:Aa) (a:e.x.length<=1048576) (b:e.s.length<=1048576) (d:totalV e.s<=1048576) (f:e.A.length<=1048576):zhs e=some (snapR e):=by
 have g: ∀t∈e.s,t.length<=1048576:=λt h=>Pr (zgK Qd h) d;unfold zhs snapR;rw[zb9 e a b d f];cases i:engV e with
 | false=>rfl
 | true=>
   obtain ⟨p,j⟩:=ziN i;simp only[Og,Om,Oh,iF,iT,zb5 e a b g f];have k:((if Dc ((e.A.length:Int)>0) then ((idx e.A (J7 ((e.A.length:Int) - 1))).bind λB=>some (Dc (B=e.c))) else (some false)))=some (Dc (e.c∈e.A)):=by
    by_cases l:0<e.A.length
    ·have m:J7 ((e.A.length:Int) - 1)=((e.A.length - 1:Nat):Int):=by rw[za];omega
     rw[iP,m,zb _ _ (by omega)];simp only[Og];rw[decide_eq_decide.2 (zpK j l)]
    ·simp_all
   rw[k];by_cases n:e.c∈e.A
   ·simp_all
   ·by_cases o:e.A.length=4
    ·simp_all
    ·have: ¬(e.A.length:Int)>=4:=by omega
     simp only[n,o,this,decide_false,Oh,iF];rw[zf (by grind) (by grind)];rfl
def zR (l:List α) (a b:Nat) (lo hi:Int) (c:lo=(a:Int)) (d:hi=(b:Int)) (e:a<=b) (f:b<=l.length):piece l lo hi=some ((l.drop a).take (b - a)):=by unfold piece;simp_all
theorem ziP (l:List α) (p:α->Bool) (j:Nat) (b:j<l.length) (c:p l[j]=false) (d: ∀i (h:i<l.length),i≠j->p l[i]=true):l.filter p=l.take j++l.drop (j+1):=by
 have hs:l=l.take j++l[j]::l.drop (j+1):=by simp
 have e:(l.take j).filter p=l.take j:=by rw[Qu];intro x a;obtain ⟨i,hi,rfl⟩:=On a;grind
 have f:(l.drop (j+1)).filter p=l.drop (j+1):=by rw[Qu];intro x a;obtain ⟨i,hi,rfl⟩:=On a;grind
 grind
theorem zkt (p:α->Bool) (l:List α) (k:Nat) (h:k<l.length):(l.take (k+1)).filter p=(l.take k).filter p++if p l[k]=true then [l[k]] else []:=by rw[show l.take (k+1)=l.take k++ [l[k]] by simp,Ro];grind
theorem zuJ (l:List Int) (j:Nat) (b:j<l.length) (h:l.length<=1048576):zc2 l (j:Int) (J7 ((j:Int)+1))=some (l.take j++l.drop (j+1)):=by
 unfold zc2;have a:J7 ((j:Int)+1)=((j+1:Nat):Int):=by rw[za];omega
 rw[a,zR l j (j+1) _ _ rfl rfl (by omega) (by omega),zR l 0 j 0 (j:Int) rfl rfl (by omega) (by omega),zR l (j+1) l.length _ _ rfl rfl (by omega) (by omega)];rw[iN (by grind)];simp;exact Oo (by simp)
theorem ztF (s:List Int) (v:Int) (h:s.length<=1048576):(∃j,∃b:j<s.length,zbv s v=some (j:Int)/\s[j]=v)\/(zbv s v=some (-1)/\∀x∈s,¬x=v):=by
 unfold zbv;have key: ∃c,loopO (ρ:=Ctl Unit Int) (λ(S1:Int)=>if Dc (S1<(s.length:Int))then Bb (idx s S1) λA=>if Dc (v=A)then some (.done (.done S1))else some (.go (J7 (S1+1)))else some (.done (.go ()))) 0=some c/\
  ((∃j,∃b:j<s.length,c= .done (j:Int)/\s[j]=v)\/(c= .go ()/\∀x∈s,¬x=v)):=by
  refine zbi (λi t=>t=(i:Int)/\∀q (h:q<s.length),q<i->¬s[q]=v) s.length _ ⟨rfl,λq h a=>by omega⟩ ?_ ?_
  ·rintro i t hi ⟨rfl,a⟩;simp only[zb s i hi,Og];rw[iP,za];grind
  ·rintro t ⟨rfl,a⟩;refine ⟨.go (),by simp,.inr ⟨rfl,λx e=>?_⟩⟩;obtain ⟨q,g,rfl⟩:=On e;simp_all
 obtain ⟨c,f,a⟩:=key;rw[f];rcases a with ⟨j,b,rfl,d⟩ | ⟨rfl,d⟩
 ·exact .inl ⟨j,b,rfl,d⟩
 ·simp_all
theorem zoM {l:List Int} (b:snapsV seq l=true): ∀(j:Nat) (a:j<l.length) (i:Nat) (hi:i<j),l[i]'(by omega)<l[j]:=by
 intro j;induction j with
 | zero=>intro _ i hi;omega
 | succ j ih=>intro a i hi;have c:=(ze6 b (j+1) a).2 (by omega);grind
def dropS (l:List Int) (x:Int):List Int:=l.filter λs=>!Dc (s=x)
def zoe {l:List Int} (a:snapsV seq l=true) (j:Nat) (b:j<l.length):dropS l l[j]=l.take j++l.drop (j+1):=by
 refine ziP l _ j b (by simp) λi hi c=>?_;have: ¬l[i]=l[j]:=by
  rcases Pk i j with h | h
  ·have:=zoM a j b i h;omega
  ·have:=zoM a i hi j (by omega);omega
 simp_all
def engDropR (e:Aa) (x:Int):Aa × Bool:=if engV e=true then (if x∈e.A then ({e with A:=dropS e.A x},true) else (e,false)) else (⟨[],[],0,[]⟩,false)
theorem zpL (e:Aa) (x:Int) (a:e.x.length<=1048576) (b:e.s.length<=1048576) (d:totalV e.s<=1048576) (f:e.A.length<=1048576):zhr e x=some (engDropR e x):=by
 have h: ∀t∈e.s,t.length<=1048576:=λt i=>Pr (zgK Qd i) d;unfold zhr engDropR;rw[zb9 e a b d f];cases l:engV e with
 | false=>rfl
 | true=>
   simp only[Og,Om,Oh,iF,iT,zb5 e a b h f];rw[zh (λk=>((k:Int),(e.A.take k).filter λs=>!Dc (s=x))) e.A.length (r:=Ctl.go (dropS e.A x)) ?h0]
   case h0=>rfl
   ·simp only[ze];by_cases m:x∈e.A
    ·obtain ⟨j,o,rfl⟩:=On m;have p:=zoe (ziN l).2 j o;grind
    ·have p:dropS e.A x=e.A:=by unfold dropS;rw[Qu];grind
     simp_all
   ·intro k g;simp only[zb e.A k g,Og,zkt _ e.A k g];rw[iP,za (n:=(k:Int)+1)];by_cases c:e.A[k]=x
    ·simp[c]
    ·simp only[c,decide_false,Ph,iT];rw[zf (by grind) (by grind)];rfl
   ·simp[dropS]
def shareP (l:List A5) (k:Nat):Bool:=match l[k]? with
 | some x=>decide (1<=x.q/\x.q<=99)&&(Dc (0<=x.S/\x.S<=1000)&&(match k with | 0=>true | j+1=>match l[j]? with | some d=>decide (d.q<x.q) | none=>true))
 | none=>true
theorem zkj (l:List A5) (k:Nat) (h:k<l.length):shareP l k=(Dc (1<=l[k].q/\l[k].q<=99)&&(Dc (0<=l[k].S/\l[k].S<=1000)&&(if a:0<k then Dc ((l[k - 1]'(by omega)).q<l[k].q) else true))):=by unfold shareP;grind
def allNeed (s:Ad):Int:=(s.j.map λx=>needV x.S).sum+if s.j.length>0 then 4 else 0
def sharesV (s:Ad):Bool:=Dc (0<=s.G/\s.G<=1000)&&(Dc (s.j.length<=4)&&((Qf s.j.length).all (shareP s.j)&&Dc (allNeed s<=s.G)))
theorem zbd (s:Ad) (h:s.j.length<=1048576):zbP s=some (sharesV s):=by
 unfold zbP sharesV;simp only[zbe,Og,zk7 s h];by_cases e:0<=s.G/\s.G<=1000
 ·by_cases f:s.j.length<=4
  ·rw[dT e,dT f,dF];rw[zli (shareP s.j) s.j.length ?hp ?hq]
   case hq=>simp
   case hp=>
    intro k b
    simp only[zb s.j k b,Og]
    rw[iP,za (n:=(k:Int)+1),zkj s.j k b]
    by_cases a:1<=s.j[k].q/\s.j[k].q<=99
    ·by_cases c:0<=s.j[k].S/\s.j[k].S<=1000
     ·rw[dT a,dT c];by_cases g:0<k
      ·have i:J7 ((k:Int) - 1)=((k - 1:Nat):Int):=by rw[za];omega
       rw[dif_pos g,iN (by simp),iN (by simp),iP];simp only[i,zb s.j (k - 1) (by omega),Og];by_cases d:(s.j[k - 1]'(by omega)).q<s.j[k].q
       ·simp[d,show ¬s.j[k].q<=(s.j[k - 1]'(by omega)).q by omega]
       ·simp[d,show s.j[k].q<=(s.j[k - 1]'(by omega)).q by omega]
      ·obtain rfl:k=0:=by omega
       simp
     ·rw[dT a,dF c];simp
    ·rw[dF a];simp
   cases (Qf s.j.length).all (shareP s.j) with
   | false=>rfl
   | true=>rfl
  ·grind
 ·grind
theorem zrz {s:Ad} (a:sharesV s=true): ∀(j:Nat) (b:j<s.j.length) (i:Nat) (hi:i<j),(s.j[i]'(by omega)).q<s.j[j].q:=by
 intro j;induction j with
 | zero=>intro _ i hi;omega
 | succ j ih=>
   intro b i hi;have c:(s.j[j]'(by omega)).q<s.j[j+1].q:=by unfold sharesV at a;simp only[Oq,Pa]at a;have:=a.2.2.1 (j+1) (by simp_all);rw[zkj s.j (j+1) b,dif_pos (by omega)]at this;simp_all
   grind
theorem zqe (s:List A5) (h:s.length<=1048576):zdm s=some s:=by unfold zdm;rw[zf (by grind) (by grind)];rfl
def zil (s:Ad) (h:s.j.length<=1048576):zdi s=some s:=by unfold zdi;rw[zqe _ h];rfl
theorem zeQ (s:Ad) (h:s.j.length<=1048576):zdZ s=some s:=by unfold zdZ;rw[zf (by grind) (by grind)];rfl
theorem ziu (s:Ad) (t:Int) (f:sharesV s=true) (h:s.j.length<=1048576):
 ∃j,j<=s.j.length/\(∀i (hi:i<s.j.length),i<j->s.j[i].q<t)/\(∀i (hi:i<s.j.length),j<i->t<s.j[i].q)/\
  ((∃a:j<s.j.length,zdP s t=some ((j:Int),true)/\s.j[j].q=t)\/(zdP s t=some ((j:Int),false)/\∀i (hi:i<s.j.length),j<=i->t<s.j[i].q)):=by
 unfold zdP;have key: ∃c,loopO (ρ:=Ctl Int (Int × Bool)) (λ(A:Int)=>Bb (if Dc (A<(s.j.length:Int))then Bb (idx s.j A) λB=>some (Dc (B.q<t))else some false) (λ(D:Bool)=>if D=true then some (.go (J7 (A+1)))else some (.done (.go A)))) 0=some c/\
  ∃j,c= .go ((j:Nat):Int)/\j<=s.j.length/\(∀i (hi:i<s.j.length),i<j->s.j[i].q<t)/\∀a:j<s.j.length,t<=s.j[j].q:=by
  refine zbi (λi q=>q=(i:Int)/\∀q (h:q<s.j.length),q<i->s.j[q].q<t) s.j.length _ ⟨rfl,λq h b=>by omega⟩ ?_ ?_
  ·rintro i q hi ⟨rfl,b⟩;simp only[zb s.j i hi,Og];rw[iP,za];grind
  ·grind
 obtain ⟨c,g,j,rfl,k,b,l⟩:=key;rw[g];have m: ∀i (hi:i<s.j.length),j<i->t<s.j[i].q:=λi hi d=>by have:=l (by omega);have:=zrz f i hi j d;omega
 refine ⟨j,k,b,m,?_⟩;by_cases a:j<s.j.length
 ·by_cases e:s.j[j].q=t
  ·refine .inl ⟨a,?_,e⟩;simp[zb s.j j a,a,e]
  ·refine .inr ⟨?_,λi hi d=>?_⟩
   ·simp[zb s.j j a,a,e]
   ·grind
 ·refine .inr ⟨?_,λi hi d=>by omega⟩;simp[a]
theorem zsw (l:List A5) (j:Nat) (b:j<l.length) (h:l.length<=1048576):zc1 l (j:Int) (J7 ((j:Int)+1))=some (l.take j++l.drop (j+1)):=by
 unfold zc1;have a:J7 ((j:Int)+1)=((j+1:Nat):Int):=by rw[za];omega
 rw[a,zR l j (j+1) _ _ rfl rfl (by omega) (by omega),zR l 0 j 0 (j:Int) rfl rfl (by omega) (by omega),zR l (j+1) l.length _ _ rfl rfl (by omega) (by omega)];rw[iN (by grind)];simp;exact Oo (by simp)
def dropT (l:List A5) (t:Int):List A5:=l.filter λx=>!Dc (x.q=t)
def shareDropR (s:Ad) (t:Int):Ad × Bool:=if sharesV s=true then (if (dropT s.j t).length=s.j.length then (s,false) else ({s with j:=dropT s.j t},true)) else (⟨0,[]⟩,false)
theorem znS (s:Ad) (t:Int) (h:s.j.length<=1048576):zfz s t=some (shareDropR s t):=by
 unfold zfz shareDropR;rw[zbd s h];cases b:sharesV s with
 | false=>rfl
 | true=>
   rw[zh (λk=>((k:Int),(s.j.take k).filter λx=>!Dc (x.q=t))) s.j.length (r:=Ctl.go (dropT s.j t)) ?h0]
   case h0=>rfl
   ·simp only[ze,zeQ s h,Og];grind
   ·intro k a;simp only[zb s.j k a,Og,zkt _ s.j k a];rw[iP,za (n:=(k:Int)+1)];by_cases c:s.j[k].q=t
    ·simp[c]
    ·simp only[c,decide_false,Ph,iT];rw[zf (by grind) (by grind)];rfl
   ·simp[dropT]
theorem znA (s:Ad) (t:Int) (h:s.j.length<=1048576):zfj s t=some (shareDropR s t):=by
 unfold zfj shareDropR;rw[zbS s h,zbd s h];cases c:sharesV s with
 | false=>rfl
 | true=>
   simp only[Og,Om,Oh,iF,iT,zil s h];obtain ⟨j,k,l,m,d⟩:=ziu s t c h;rcases d with ⟨b,a,e⟩ | ⟨a,e⟩
   ·rw[a];simp only[Og,Om,Oh,iF,zsw s.j j b h];have f:dropT s.j t=s.j.take j++s.j.drop (j+1):=by refine ziP s.j _ j b (by simp_all) λi hi n=>?_;grind
    grind
   ·rw[a];have f:dropT s.j t=s.j:=by unfold dropT;rw[Qu];intro x g;obtain ⟨i,hi,rfl⟩:=On g;grind
    simp_all
def setF (l:List A5) (t q:Int) (j D k:Nat):Bool × Int × List A5:=bif So k j then (false,(k:Int),l.take k) else (true,(k:Int),l.take j++(⟨t,q⟩::(l.drop D).take (k - D)))
def zno (l:List A5) (t q:Int) (j D k:Nat) (h:k<=j):setF l t q j D k=(false,(k:Int),l.take k):=by unfold setF;rw[Rx h];rfl
def znn (l:List A5) (t q:Int) (j D k:Nat) (h:j<k):setF l t q j D k=(true,(k:Int),l.take j++(⟨t,q⟩::(l.drop D).take (k - D))):=by
 unfold setF;have:So k j=false:=by
  cases a:So k j
  ·rfl
  ·simp_all;omega
 simp_all
theorem zeg (s:Ad) (t q:Int) (j D:Nat) (g:sharesV s=true) (w:s.j.length<=4) (x:j<=s.j.length) (A:D=j\/D=j+1) (E:D<=s.j.length) (e: ∀i (hi:i<s.j.length),i<j->s.j[i].q<t) (f: ∀i (hi:i<s.j.length),D<=i->t<s.j[i].q) (h:D=j+1->∀hi:j<s.j.length,s.j[j].q=t):
 zby s t q=some (if sharesV ⟨s.G,s.j.take j++(⟨t,q⟩::s.j.drop D)⟩=true then (⟨s.G,s.j.take j++(⟨t,q⟩::s.j.drop D)⟩,true) else (s,false)):=by
 unfold zby;rw[zbd s (by omega),g];simp only[Og,Om,Oh,iF];have l:(s.j.take j++(⟨t,q⟩::s.j.drop D):List A5).length<=1048576:=by grind
 have m:zbP ⟨s.G,s.j.take j++(⟨t,q⟩::s.j.drop D)⟩=some (sharesV ⟨s.G,s.j.take j++(⟨t,q⟩::s.j.drop D)⟩):=zbd _ l;by_cases y:j=s.j.length
 ·have B:D=j:=by omega
  rw[zh (λk=>(false,(k:Int),s.j.take k)) s.j.length (r:=Ctl.go (false,s.j)) ?h0]
  case h0=>rfl
  ·simp only[ze,Ph,iT];rw[zf (by grind) (by grind)];simp only[Og,ze];have hl:s.j++ [⟨t,q⟩]=s.j.take j++(⟨t,q⟩::s.j.drop D):=by simp_all
   simp only[Og,zeQ s (by omega)];grind
  ·intro k a;have o:=e k a (by omega);have b:s.j.take (k+1)=s.j.take k++ [s.j[k]]:=by simp
   simp only[zb s.j k a,Og,Ph,iT];rw[iP (by simpa using a),za (n:=(k:Int)+1),dF,dF];simp only[Oh,iF,ze,Ph,iT];rw[zf (by grind) (by grind),b];rfl
  ·simp
 ·have z:j<s.j.length:=by omega
  rw[zh (setF s.j t q j D) s.j.length (r:=Ctl.go (true,s.j.take j++(⟨t,q⟩::s.j.drop D))) ?h0]
  case h0=>rw[zno _ _ _ _ _ _ (Ra _)];simp
  ·simp only[ze,Om,Oh,iF,m,Og,zeQ s (by omega)];grind
  ·intro k a;have d:=za (n:=(k:Int)+1);rcases Qp k j with c | c | c
   ·have o:=e k a c;have b:s.j.take (k+1)=s.j.take k++ [s.j[k]]:=by simp
    rw[zno _ _ _ _ _ _ (by omega),zno _ _ _ _ _ _ (by omega)];simp only[zb s.j k a,Og,Ph,iT,d];rw[iP (by simpa using a),dF,dF];simp only[Oh,iF,ze,Ph,iT];rw[zf (by grind) (by grind),b];rfl
   ·subst c;rw[zno _ _ _ _ _ _ (Ov _),znn _ _ _ _ _ _ (by omega)];simp only[zb s.j k a,Og,Ph,iT,d];rw[iP];rcases A with rfl | rfl
    ·have p:=f D a (Ov _);rw[dT,dF];rw[zf (by grind) (by grind)];simp only[Og,ze,Ph,iT];rw[zf (by grind) (by grind)];have:(s.j.drop D).take (D+1 - D)= [s.j[D]]:=by rw[Oi a,show D+1 - D=1 by omega];rfl
     simp_all
    ·have u:=h rfl a;rw[dT,dT u];rw[zf (by grind) (by grind)];simp
   ·have p:=f k a (by omega);rw[znn _ _ _ _ _ _ (by omega),znn _ _ _ _ _ _ (by omega)];simp only[zb s.j k a,Og,Om,Oh,iF,d];rw[iP,dF];simp only[ze,Ph,iT];rw[zf (by grind) (by grind)];have v:k - D<(s.j.drop D).length:=by grind
    have b:(s.j.drop D).take (k+1 - D)=(s.j.drop D).take (k - D)++ [s.j[k]]:=by rw[show k+1 - D=(k - D)+1 by omega,Qi,Pb v,Rs];grind
    simp_all
  ·rw[znn _ _ _ _ _ _ (by omega)];grind
theorem zsI (l:List A5) (x:A5) (j:Nat) (a:j<=l.length) (h:l.length<=1048576):zc3 l (j:Int) [x]=some (l.take j++(x::l.drop j)):=by unfold zc3 ins;grind
theorem zlW (s:Ad) (t q:Int) (h:s.j.length<=1048576): ∃r,zby s t q=some r/\zb7 s t q=some r/\r.1.j.length<=1048576:=by
 by_cases a:sharesV s=true
 ·have k:s.j.length<=4:=by unfold sharesV at a;simp_all
  obtain ⟨j,d,l,o,p⟩:=ziu s t a h;have w: ∀D,(D=j\/D=j+1)->D<=s.j.length->∀b:Bool,((if b=true then (⟨s.G,s.j.take j++(⟨t,q⟩::s.j.drop D)⟩,true) else (s,false):Ad × Bool)).1.j.length<=1048576:=by grind
  rcases p with ⟨m,f,g⟩ | ⟨f,g⟩
  ·have u:=zeg s t q j (j+1) a k d (.inr rfl) (by omega) l (λi hi x=>o i hi (by omega)) (λ_ _=>g);unfold zb7;rw[zbS s h,zbd s h,a];simp only[Og,Om,Oh,iF,iT,zil s h,f,zb s.j j m,Ok,ze];have v:s.j.set j ⟨t,q⟩=s.j.take j++(⟨t,q⟩::s.j.drop (j+1)):=by rw[List.set_eq_take_append_cons_drop,iP m]
   have c:(s.j.take j++(⟨t,q⟩::s.j.drop (j+1)):List A5).length<=1048576:=by grind
   rw[v,zbS _ c,zbd _ c];grind
  ·have u:=zeg s t q j j a k d (.inl rfl) d l g (λe=>by omega);unfold zb7;rw[zbS s h,zbd s h,a];simp only[Og,Om,Oh,iF,zil s h,f,zsI s.j _ j d h,ze];have c:(s.j.take j++(⟨t,q⟩::s.j.drop j):List A5).length<=1048576:=by simp_all
   rw[zbS _ c,zbd _ c];grind
 ·have n:sharesV s=false:=by simp_all
  refine ⟨(⟨0,[]⟩,false),?_,?_,by simp⟩
  ·unfold zby;rw[zbd s h,n];rfl
  ·unfold zb7;rw[zbS s h,zbd s h,n];rfl
def zrw {a b:J2} (h:sLt a b=true):sLt b a=false:=by have:=zii a b;simp_all
def zs7 {a b:J2} (c:sLt a b=false) (d:sLt b a=false):a=b:=by have:=zii a b;simp_all
theorem zwB (l:List α) (p:α->Bool) (h: ∀k (a:k<l.length),body (k:Int)=some (if p l[k]=true then .done (.done true) else .go ((k:Int)+1))) (c:body (l.length:Int)=some (.done (.go ()))):
 bindC (loopO body 0) (λ(_:Unit)=>some false)=some (l.any p):=by
 rw[zci (λk s=>s=(k:Int)/\l.any p=(l.drop k).any p) l.length (if l.any p=true then Ctl.done true else Ctl.go ()) ?h0 ?h1 ?h2]
 ·cases l.any p<;>rfl
 case h0=>exact ⟨rfl,rfl⟩
 ·rintro k s a ⟨rfl,b⟩;rw[h k a,b,Oi a,Rt];grind
 ·simp_all
def stayV (snaps:List Int) (l:List Ac):Nat->Bool
 | 0=>true
 | j+1=>match l[j]?,l[j+1]? with
   | some d,some e=>!Dc (d.g=e.g)||snaps.any (λs=>decide (e.c<=s)&&Dc (s<d.c))
   | _,_=>false
def zjc (snaps:List Int) (l:List Ac) (j:Nat) (h:j+1<l.length):stayV snaps l (j+1)=(!Dc ((l[j]'(by omega)).g=l[j+1].g)||snaps.any (λs=>decide (l[j+1].c<=s)&&Dc (s<(l[j]'(by omega)).c))):=by show (match l[j]?,l[j+1]? with | some d,some e=>_ | _,_=>false)=_;rw[Pb h,Pb (by omega)]
theorem zvW (l:List Ac) (snaps:List Int) (k:Nat) (a:k<l.length) (h:l.length<=1048576) (hs:snaps.length<=1048576):zhW l (k:Int) snaps=some (stayV snaps l k):=by
 unfold zhW;cases k with
 | zero=>rfl
 | succ j=>
   have b:J7 (((j+1:Nat):Int) - 1)=(j:Int):=by rw[za];omega
   rw[iN (by grind),b,zb l j (by omega),zb l (j+1) a,zjc snaps l j a];simp only[Og];by_cases c:(l[j]'(by omega)).g=l[j+1].g
   ·rw[dT c];refine zwB snaps _ ?_ (by simp);intro m d;simp only[zb snaps m d,Og];rw[iP,za (n:=(m:Int)+1)];grind
   ·simp_all
def keepT (snaps:List Int) (l:List Ac) (a:Nat):Nat->List Ac
 | 0=>[]
 | n+1=>keepT snaps l a n++(if stayV snaps l (a+n)=true then l[a+n]?.toList else [])
def zlv (snaps:List Int) (l:List Ac) (a n:Nat) (h:a+n<l.length):keepT snaps l a (n+1)=keepT snaps l a n++(if stayV snaps l (a+n)=true then [l[a+n]] else []):=by show keepT snaps l a n++(if stayV snaps l (a+n)=true then l[a+n]?.toList else [])=_;simp_all
theorem zgB (snaps:List Int) (l:List Ac) (a:Nat): ∀n,(keepT snaps l a n).length<=n:=by
 intro n;induction n with
 | zero=>simp[keepT]
 | succ n ih=>show (keepT snaps l a n++(if stayV snaps l (a+n)=true then l[a+n]?.toList else [])).length<=n+1;grind
theorem zri (snaps:List Int) (l:List Ac) (a n:Nat): ∀m,keepT snaps l a (n+m)=keepT snaps l a n++keepT snaps l (a+n) m:=by
 intro m;induction m with
 | zero=>simp[keepT]
 | succ m ih=>show keepT snaps l a (n+m)++(if stayV snaps l (a+(n+m))=true then l[a+(n+m)]?.toList else [])=keepT snaps l a n++(keepT snaps l (a+n) m++(if stayV snaps l (a+n+m)=true then l[a+n+m]?.toList else []));grind
theorem zke (snaps:List Int) (l:List Ac) (a:Nat): ∀n,∀x∈keepT snaps l a n,∃i,i<n/\∃h:a+i<l.length,x=l[a+i]:=by
 intro n;induction n with
 | zero=>intro x b;simp[keepT]at b
 | succ n ih=>intro x b;have c:x∈keepT snaps l a n++(if stayV snaps l (a+n)=true then l[a+n]?.toList else []):=b;grind
def sameK (e:Ac):List Ac->Bool
 | y::_=>decide (e.g=y.g)
 | []=>false
def tid:List Ac->Bool × List Ac
 | []=>(false,[])
 | e::t=>bif (((tid t).1&&sameK e t)|| !e.M) then (true,e::(tid t).2) else (false,(tid t).2)
def zgt (e:Ac) (t:List Ac):tid (e::t)=bif (((tid t).1&&sameK e t)|| !e.M) then (true,e::(tid t).2) else (false,(tid t).2):=rfl
theorem zq0: ∀l:List Ac,(tid l).2.length<=l.length:=by
 intro l;induction l with
 | nil=>simp[tid]
 | cons e t ih=>rw[zgt];grind
theorem zvn: ∀(A B:List Ac),(∀x∈A,∀y∈B,x.g≠y.g)->(tid (A++B)).2=(tid A).2++(tid B).2/\(A≠[]->(tid (A++B)).1=(tid A).1):=by
 intro A;induction A with
 | nil=>intro B _;exact ⟨by rfl,λh=>absurd rfl h⟩
 | cons e t ih=>
   intro B a;obtain ⟨b,c⟩:=ih B λx d y f=>a x (.tail _ d) y f;have i:((tid (t++B)).1&&sameK e (t++B))=((tid t).1&&sameK e t):=by
    cases t with
    | nil=>
      cases B with
      | nil=>rfl
      | cons y B=>have:sameK e ([]++y::B)=false:=dF (a e (.head _) y (.head _));rw[this,Tl,show sameK e []=false from rfl,Tl]
    | cons z t=>rw[c (by simp)];rfl
   show (tid (e::(t++B))).2=(tid (e::t)).2++(tid B).2/\(_->(tid (e::(t++B))).1=(tid (e::t)).1);rw[zgt,zgt,i,b];grind
def zx6 (e:Ac) (b:e.M=true): ∀A:List Ac,(∀x∈A,x.g=e.g)->tid (A++ [e])=tid A:=by
 intro A;induction A with
 | nil=>intro _;simp[tid,sameK,b]
 | cons x t ih=>
   intro c;have a:=ih λy d=>c y (.tail _ d);show tid (x::(t++ [e]))=tid (x::t);have f:((tid (t++ [e])).1&&sameK x (t++ [e]))=((tid t).1&&sameK x t):=by
    rw[a];cases t with
    | nil=>rfl
    | cons z t=>rfl
   rw[zgt,f,a];rfl
def zxl (e:Ac) (b:e.M=false): ∀A:List Ac,(∀x∈A,x.g=e.g)->tid (A++ [e])=(true,A++ [e]):=by
 intro A;induction A with
 | nil=>intro _;simp[tid,sameK,b]
 | cons x t ih=>
   intro a;have c:=ih λy d=>a y (.tail _ d);show tid (x::(t++ [e]))=_;have f:sameK x (t++ [e])=true:=by
    cases t with
    | nil=>exact dT (a x (.head _))
    | cons z t=>exact dT ((a x (.head _)).trans (a z (.tail _ (.head _))).symm)
   rw[zgt,f,c];rfl
def finE (h:Bool) (A:List Ac):List Ac:=bif h then (tid A).2 else A
def zsz (b:Bool) (A:List Ac):(finE b A).length<=A.length:=by
 cases b
 ·exact Ov _
 ·exact zq0 A
def zty (b:Bool) (A B:List Ac) (h: ∀x∈A,∀y∈B,x.g≠y.g):finE b (A++B)=finE b A++finE b B:=by
 cases b
 ·rfl
 ·exact (zvn A B h).1
theorem zwv (D:Bool): ∀(n:Nat) (A:List Ac),A.length=n->n<=1048576->(∀x∈A,∀y∈A,x.g=y.g)->
 loopO (ρ:=Ctl (List Ac) (List Ac)) (λ(E:List Ac)=>Bb (if D=true then if Dc ((E.length:Int)>0)then Bb (idx E (J7 ((E.length:Int) - 1))) λG=>some G.M else some false else some false) (λ(O:Bool)=>if O=true then Bb (piece E 0 (J7 ((E.length:Int) - 1))) λI=>Bb (app 48 ([]:List Ac) I) λJ=>some (.go J)else some (.done (.go E)))) A=some (.go (finE D A)):=by
 intro n;induction n with
 | zero=>intro A T _ _;obtain rfl:A= []:=Pd T;rw[zG];cases D<;>rfl
 | succ n ih=>
   intro A T k b;obtain ⟨B,e,rfl⟩: ∃B e,A=B++ [e]:=⟨A.dropLast,A.getLast (by grind),(Rl _).symm⟩;have U:B.length=n:=by simp_all
   rw[zG];have f:J7 ((((B++ [e]).length:Nat):Int) - 1)=(B.length:Int):=by rw[za];simp
   have c: ∀x∈B,x.g=e.g:=λx a=>b x (Qk.2 (.inl a)) e (by simp);cases D with
   | false=>rfl
   | true=>
     rw[f,zb (B++ [e]) B.length (by simp)];have h:Dc ((((B++ [e]).length:Nat):Int)>0)=true:=dT (by simp);simp only[iT,h,Og,List.getElem_concat_length];cases d:e.M with
     | false=>show some (Ctl.go (B++ [e]))=some (Ctl.go (tid (B++ [e])).2);rw[zxl e d B c]
     | true=>
       simp only[iT];rw[zR _ 0 B.length 0 _ rfl rfl (by omega) (by simp)];have i:((B++ [e]).drop 0).take (B.length - 0)=B:=by simp
       rw[i];simp only[Og];rw[zf (by grind) (by grind)];simp only[Og,Pp];have F:=ih B U (by omega) λx a y j=>b x (Qk.2 (.inl a)) y (Qk.2 (.inl j));simp only[iT]at F;rw[F];show some (Ctl.go (tid B).2)=some (Ctl.go (tid (B++ [e])).2);rw[zx6 e d B c]
theorem zvd (l:List Ac) (h:l.length<=1048576):zcB l=some l.reverse:=by
 unfold zcB;rw[zci (λm s=>s.1=(m:Int)/\s.2.1=(l.length:Int) - 1 - m/\∃hl:s.2.2.length=l.length,∀k (d:k<l.length),s.2.2[k]'(by omega)=if k<m\/l.length<=k+m then l[l.length - 1 - k]'(by omega) else l[k]) (l.length / 2) (Ctl.go l.reverse) ?h0 ?h1 ?h2]
 ·rfl
 case h0=>
  refine ⟨rfl,?_,rfl,λk d=>?_⟩
  ·show J7 ((l.length:Int) - 1)=(l.length:Int) - 1 - ((0:Nat):Int);rw[za];omega
  ·rw[iN (by omega)]
 ·rintro m ⟨i,j,s⟩ f ⟨h1,h2,hl,a⟩;simp only at h1 h2 hl a;subst h1;have e:j=((l.length - 1 - m:Nat):Int):=by omega
  subst e;left;have b:m<s.length:=by omega
  have c:l.length - 1 - m<s.length:=by omega
  refine ⟨((m:Int)+1,((l.length - 1 - m:Nat):Int) - 1,(s.set m (s[l.length - 1 - m]'c)).set (l.length - 1 - m) (s[m]'b)),?_,by simp,?_,by simp_all,?_⟩
  ·simp only[zb s _ c,zb s _ b,Og,Ok];rw[iP (by grind),zb _ _ (by grind)];simp only[Og,ze];rw[za,za]
  ·grind
  ·grind
 ·rintro ⟨i,j,s⟩ ⟨h1,h2,hl,a⟩;rw[iN (by grind)];congr 3;refine Te (by simp_all) λk g n=>?_;grind
theorem znF (l:List Ac) (snaps:List Int) (A:Bool) (h:l.length<=1048576) (hs:snaps.length<=1048576):zbU l snaps A=some (finE A (keepT snaps l 0 l.length)):=by
 unfold zbU;rw[zh (λk=>((k:Int),keepT snaps l 0 k)) l.length (r:=Ctl.go (keepT snaps l 0 l.length)) ?h0]
 case h0=>rfl
 ·simp only[ze];cases A with
  | false=>rfl
  | true=>
    have B:(keepT snaps l 0 l.length).length<=1048576:=Pr (zgB snaps l 0 _) h;generalize keepT snaps l 0 l.length=K at B;rw[zh (λm=>((tid (K.drop (K.length - m))).1,(K.length:Int) - 1 - m,(tid (K.drop (K.length - m))).2.reverse)) K.length (r:=Ctl.go (tid K).2.reverse) ?g0]
    case g0=>
     rw[Nat.sub_zero,Ru,za]
     simp[tid]
    ·simp only[ze];rw[zvd _ (by rw[List.length_reverse];exact Pr (zq0 K) B),List.reverse_reverse];rfl
    ·intro m p;have hi:(K.length:Int) - 1 - m=((K.length - 1 - m:Nat):Int):=by omega
     have d:(K.length:Int) - 1 - ((m+1:Nat):Int)=((K.length - 1 - m:Nat):Int) - 1:=by omega
     have a:K.length - 1 - m<K.length:=by omega
     have e:K.drop (K.length - (m+1))=K[K.length - 1 - m]::K.drop (K.length - m):=by rw[show K.length - (m+1)=K.length - 1 - m by omega,Oi a,show K.length - 1 - m+1=K.length - m by omega]
     have b:=zq0 (K.drop (K.length - m));rw[e,zgt,hi,d];have f:(if Dc (((K.length - 1 - m:Nat):Int)=J7 ((K.length:Int) - 1))=true then (some true)
 else ((idx K ((K.length - 1 - m:Nat):Int)).bind λD=>
 (idx K (J7 (((K.length - 1 - m:Nat):Int)+1))).bind λE=>
 some (!(Dc (D.g=E.g)))))=some (!sameK K[K.length - 1 - m] (K.drop (K.length - m))):=by
      by_cases h0:m=0
      ·subst h0
       rw[iP (by rw[za];simp_all),show K.drop (K.length - 0)= [] by simp]
       rfl
      ·rw[iN (by rw[za];grind),zb K _ a,za]
       rw[show ((K.length - 1 - m:Nat):Int)+1=((K.length - m:Nat):Int) by omega,zb K (K.length - m) (by omega),Oi (by omega:K.length - m<K.length)]
       rfl
     simp only[f]
     rw[iP (by simp),za (n:=((K.length - 1 - m:Nat):Int) - 1)]
     simp only[zb K _ a,Og]
     generalize sameK K[K.length - 1 - m] (K.drop (K.length - m))=q
     generalize tid (K.drop (K.length - m))=tt at b |-
     obtain ⟨F,o⟩:=tt
     have i:app 48 o.reverse [K[K.length - 1 - m]]=some (o.reverse++ [K[K.length - 1 - m]]):=zf (by grind) (by grind)
     cases q<;>cases F<;>cases j:K[K.length - 1 - m].M<;>simp[i,j]
    ·simp
     omega
 ·intro k c;have b:=zgB snaps l 0 k;simp only[zb l k c,Og,zvW l snaps k c h hs,zlv snaps l 0 k (by omega),Sy];rw[iP,za (n:=(k:Int)+1)];cases stayV snaps l k with
  | true=>rw[zf (by grind) (by grind)];rfl
  | false=>simp
 ·simp
def zt9 (a:entsV l=true) (k:Nat) (b:k<l.length):entP l k=true:=by unfold entsV at a;simp_all
theorem zvL (c:entsV l=true) (a n:Nat):entsV ((l.drop a).take n)=true:=by
 unfold entsV;rw[Pa];intro k f;have d:k<((l.drop a).take n).length:=by simp_all
 have b:a+k<l.length:=by grind
 have e:=zt9 c (a+k) b;rw[zgw l (a+k) b,Oq]at e;rw[zgw _ k d];grind
def cutV (l:List Ac) (a:Nat):Prop:=∀i (hi:i<l.length) j (b:j<l.length),i<a->a<=j->l[i].g≠l[j].g
theorem zvZ (l:List Ac) (snaps:List Int) (T:Bool) (a n:Nat) (q:entsV l=true) (h:l.length<=1048576) (hs:snaps.length<=1048576) (t:a+n<=l.length) (B:cutV l a) (u: ∀i (hi:i<l.length) j (C:j<l.length),a<=i->i<a+n->a<=j->j<a+n->l[i].g=l[j].g):zh4 ((l.drop a).take n) snaps T=some (finE T (keepT snaps l a n)):=by
 have D:((l.drop a).take n).length=n:=by grind
 have v:=zvL q a n;have E: ∀i,i<n->((l.drop a).take n)[i]? =l[a+i]?:=λi hi=>by simp_all
 generalize (l.drop a).take n=g at D v E;have w: ∀i (hi:i<n),g[i]'(by omega)=l[a+i]'(by omega):=λi hi=>by grind
 unfold zh4;rw[zh (λk=>((k:Int),keepT snaps l a k)) g.length (r:=Ctl.go (keepT snaps l a n)) ?h0]
 case h0=>rfl
 ·simp only[ze];rw[zwv T (keepT snaps l a n).length _ rfl (Pr (zgB snaps l a n) (by omega)) ?_]
  ·rfl
  ·intro x F y G;obtain ⟨i,hi,o,rfl⟩:=zke snaps l a n x F;obtain ⟨j,C,M,rfl⟩:=zke snaps l a n y G;grind
 ·intro k f;have z:k<n:=by omega
  have N:=zgB snaps l a k;have H:loopO (ρ:=Ctl Bool (Ctl (Int × List Ac) (Ctl (List Ac) (List Ac)))) (λ(W:Bool × Int)=>if Dc (W.2<(snaps.length:Int))then Bb (idx g (k:Int)) λU=>Bb (idx snaps W.2) λZ=>Bb (zdq g U.g Z) λV=>Bb (if W.1=true then some true else if V.2=true then some (Dc (V.1.c=U.c))else some false) (λ(T25:Bool)=>some (.go (T25,J7 (W.2+1))))else some (.done (.go W.1))) (Dc ((k:Int)=0),(0:Int))=some (.go (stayV snaps l (a+k))):=by
   rw[zh (λm=>(Dc (k=0)||(snaps.take m).any (λs=>visE g s k),(m:Int))) snaps.length (r:=Ctl.go (Dc (k=0)||snaps.any (λs=>visE g s k))) ?i0]
   case i0=>
    simp
   ·congr 2;cases k with
    | zero=>
      cases a with
      | zero=>rfl
      | succ b=>have:=B b (by omega) (b+1) (by omega) (by omega) (Ov _);rw[zjc snaps l b (by omega),dF this];rfl
    | succ j=>
      rw[show a+(j+1)=(a+j)+1 by omega,zjc snaps l (a+j) (by omega)];have I:(l[a+j]'(by omega)).g=(l[a+j+1]'(by omega)).g:=u _ _ _ _ (by omega) (by omega) (by omega) (by omega);rw[dT I];simp only[Nat.add_one_ne_zero,decide_false,Tn,Om];congr 1;funext s;rw[zfL g s (j+1) f];have J:=w (j+1) z;rw[J,show l[a+(j+1)]'(by omega)=l[a+j+1]'(by omega) from rfl];congr 1;rw[Bool.eq_iff_iff,Pa,decide_eq_true_eq];constructor
      ·intro O;have p:g[j]'(by omega)∈g.take (j+1):=by
        have:(g.take (j+1))[j]'(by grind)=g[j]'(by omega):=by simp
        grind
       grind
      ·intro P d K;obtain ⟨i,hi,rfl⟩:=On K;have Q:i<j+1:=by grind
       simp only[Qm];have R:(l[a+j]'(by omega)).c<=(l[a+i]'(by omega)).c:=by
        by_cases e:i=j
        ·simp_all
        ·rcases zgx q (a+j) (by omega) (a+i) (by omega) with o | ⟨_,o⟩
         ·rw[u (a+i) (by omega) (a+j) (by omega) (by omega) (by omega) (by omega) (by omega),zbO]at o;trivial
         ·omega
       grind
   ·intro m p;simp only[zb g k f,zb snaps m p,Og,ziz g _ _ (by omega)];rw[iP,za (n:=(m:Int)+1),Qi,Pb p,Tg,<-Bool.or_assoc];simp only[Option.toList_some,Rt,Tt,To];generalize (Dc (k=0)||(snaps.take m).any (λs=>visE g s k))=st;cases A:visE g snaps[m] k with
    | true=>rw[zrL f A];cases st<;>simp
    | false=>
      have t:=ztq v f A;cases L:g.find? (λd=>decide (d.g=g[k].g)&&Dc (d.c<=snaps[m])) with
      | none=>cases st<;>simp
      | some d=>have:=t d L;cases st<;>simp[this]
   ·simp
  rw[iP];simp only[H,ze,zlv snaps l a k (by omega)];rw[za (n:=(k:Int)+1)];cases stayV snaps l (a+k) with
  | true=>simp only[iT,zb g k f,Og,w k z];rw[zf (by grind) (by grind)];rfl
  | false=>simp
 ·simp_all
def zuW (l:List Ac) (a:Nat) (d:a<l.length) (h:l.length<=1048576): ∃e:Nat,zhz l (a:Int)=some (e:Int)/\a<e/\e<=l.length/\(∀i (hi:i<l.length),a<=i->i<e->l[i].g=l[a].g)/\(∀hi:e<l.length,l[e].g≠l[a].g):=by
 unfold zhz;have key: ∃c,loopO (ρ:=Ctl Int Int) (λ(S1:Int)=>Bb (if Dc (S1<(l.length:Int))then Bb (idx l S1) λD=>Bb (idx l (a:Int)) λB=>some (Dc (D.g=B.g))else some false) (λ(E:Bool)=>if E=true then some (.go (J7 (S1+1)))else some (.done (.go S1)))) (a:Int)=some c/\∃e:Nat,c= .go (e:Int)/\a<e/\e<=l.length/\(∀i (hi:i<l.length),a<=i->i<e->l[i].g=l[a].g)/\(∀hi:e<l.length,l[e].g≠l[a].g):=by
  refine zbi (λk s=>s=((a+k:Nat):Int)/\∀i (hi:i<l.length),a<=i->i<a+k->l[i].g=l[a].g) (l.length - a) _ ⟨rfl,λi hi b f=>by omega⟩ ?_ ?_
  ·rintro k s o ⟨rfl,A⟩;have j:a+k<l.length:=by omega
   simp only[zb l (a+k) j,zb l a d,Og];rw[iP (by simp;omega),za];by_cases c:l[a+k].g=l[a].g
   ·left;refine ⟨((a+k:Nat):Int)+1,by simp[c],by omega,λi hi b f=>?_⟩;by_cases e:i=a+k
    ·subst e;exact c
    ·exact A i hi b (by omega)
   ·right;refine ⟨.go ((a+k:Nat):Int),by simp[c],a+k,rfl,?_,by omega,A,λ_=>c⟩;have:k≠0:=by rintro rfl;exact c rfl
    omega
  ·rintro s ⟨rfl,A⟩;have m:a+(l.length - a)=l.length:=by omega
   rw[m]at A |-
   exact ⟨.go (l.length:Int),by simp,l.length,rfl,d,Ov _,A,λhi=>absurd hi (by omega)⟩
 obtain ⟨c,n,e,rfl,b⟩:=key;exact ⟨e,by rw[n];rfl,b⟩
def zvE (c:entsV l=true) {e:Nat} (f:cutV l a) (k:a<e) (s:a<l.length) (m: ∀i (hi:i<l.length),a<=i->i<e->l[i].g=l[a].g) (t: ∀hi:e<l.length,l[e].g≠l[a].g):cutV l e:=by
 intro i hi j d n u b;by_cases o:i<a
 ·exact f i hi j d o (by omega) b
 ·rw[m i hi (by omega) n]at b;have p:e<l.length:=by omega
  have q:sLt l[a].g l[e].g=true:=by
   rcases zgx c e p a k with h | ⟨h,_⟩
   ·exact h
   ·simp_all
  by_cases v:j=e
  ·simp_all
  ·rcases zgx c j d e (by omega) with h | ⟨h,_⟩
   ·have:=zcD q h;rw[<-b,zbO]at this;trivial
   ·simp_all
def compactR (l:List Ac) (snaps:List Int) (h:Bool):List Ac:=if l.length<=400/\entsV l=true then finE h (keepT snaps l 0 l.length) else []
theorem zmm (l:List Ac) (snaps:List Int) (F:Bool) (h:l.length<=1048576) (hs:snaps.length<=1048576):zee l snaps F=some (compactR l snaps F):=by
 unfold zee compactR;rw[zfI l h];by_cases hl:l.length<=400
 ·rw[iN (by grind)];cases f:entsV l with
  | false=>simp
  | true=>
    simp only[Og,Om,Oh,iF];rw[iP ⟨hl,trivial⟩];rw[zci (λk s=>∃a:Nat,s=((a:Int),finE F (keepT snaps l 0 a))/\a<=l.length/\k<=a/\cutV l a) l.length (Ctl.go (finE F (keepT snaps l 0 l.length))) ?h0 ?h1 ?h2]
    ·rfl
    case h0=>
     refine ⟨0,?_,Ra _,Ov _,λi hi j b h1 h2=>by omega⟩
     cases F<;>rfl
    ·rintro k s z ⟨a,rfl,A,B,c⟩;by_cases g:a<l.length
     ·left;obtain ⟨e,n,h1,h2,d,o⟩:=zuW l a g h;have p:keepT snaps l 0 e=keepT snaps l 0 a++keepT snaps l a (e - a):=by have:=zri snaps l 0 a (e - a);grind
      have q:finE F (keepT snaps l 0 e)=finE F (keepT snaps l 0 a)++finE F (keepT snaps l a (e - a)):=by rw[p];refine zty F _ _ λx t y u=>?_;obtain ⟨i,hi,m,rfl⟩:=zke snaps l 0 a x t;obtain ⟨j,b,v,rfl⟩:=zke snaps l a (e - a) y u;exact c _ _ _ _ (by omega) (by omega)
      refine ⟨((e:Int),finE F (keepT snaps l 0 e)),?_,e,rfl,h2,by omega,zvE f c h1 g d o⟩;have C:=Pr (zsz F (keepT snaps l 0 a)) (zgB snaps l 0 a);have D:=Pr (zsz F (keepT snaps l a (e - a))) (zgB snaps l a (e - a));simp only[n,Og];rw[iP,zR l a e _ _ rfl rfl (by omega) h2];simp only[Og];rw[zvZ l snaps F a (e - a) f h hs (by omega) c (λi hi j b m v w E=>(d i hi m (by omega)).trans (d j b w (by omega)).symm)];simp only[Og];rw[zf (by omega) (by omega),q];rfl
     ·grind
    ·grind
 ·grind
def flushS (e:Aa):Bool × Aa:=bif Dc (e.x.length=0\/6<=e.s.length) then (false,e) else (true,⟨[],e.x::e.s,e.c,e.A⟩)
def zd8 (h:e.x.length=0\/6<=e.s.length):flushS e=(false,e):=by unfold flushS;rw[dT h];rfl
def zgP (h: ¬(e.x.length=0\/6<=e.s.length)):flushS e=(true,⟨[],e.x::e.s,e.c,e.A⟩):=by unfold flushS;rw[dF h];rfl
def flushR (e:Aa):Aa × Bool:=bif engV e then ((flushS e).2,(flushS e).1) else (⟨[],[],0,[]⟩,false)
theorem zl0 (e:Aa) (f:e.s.length<=1048576):zfe e=some (flushS e):=by
 unfold zfe zbn ins;by_cases c:e.x.length=0
 ·have b:(e.x.length:Int)=0:=by omega
  rw[zd8 (Or.inl c),iP (dT b)];rfl
 ·have b: ¬(e.x.length:Int)=0:=by omega
  rw[iN];by_cases d:6<=e.s.length
  ·have a:(e.s.length:Int)>=6:=by omega
   rw[zd8 (Or.inr d),dT a];rfl
  ·have a: ¬(e.s.length:Int)>=6:=by omega
   rw[zgP (by omega),dF a];grind
theorem zoN (e:Aa) (b:e.x.length<=1048576) (c:e.s.length<=1048576) (d:totalV e.s<=1048576) (f:e.A.length<=1048576):zga e=some (flushR e):=by
 have h: ∀t∈e.s,t.length<=1048576:=λt i=>Pr (zgK Qd i) d;unfold zga flushR;rw[zb9 e b c d f];cases l:engV e with
 | false=>rfl
 | true=>
   simp only[Og,Om,Oh,iF,iT,zb5 e b c h f,cT];by_cases j:e.x.length=0
   ·have g:(e.x.length:Int)=0:=by omega
    rw[iP (dT g),zd8 (Or.inl j)];rfl
   ·have g: ¬(e.x.length:Int)=0:=by omega
    rw[iN];by_cases k:6<=e.s.length
    ·have a:(e.s.length:Int)>=6:=by omega
     rw[zd8 (Or.inr k),dT a];rfl
    ·have a: ¬(e.s.length:Int)>=6:=by omega
     rw[zgP (by omega),dF a];rw[zf (by grind) (by grind)];rfl
theorem zud {a:Int} (c:0<=a) (d:a<=4611686018427387904):J7 (ishr .u64 (IntKind.u64.wrap (J7 a)) 1)=a / 2:=by
 have b:IntKind.u64.wrap a=a:=by simp[IntKind.wrap,IntKind.bits,IntKind.signed];omega
 have hs:ishr .u64 a 1=a / 2:=by show a.fdiv (2 ^ 1)=a / 2;grind
 rw[za (n:=a),b,hs,za]
theorem bisect (x:List α) (F:α->Option Int) (c:α->Int) (n: ∀e∈x,F e=some (c e)) (v:x.length<=1048576):
 ∃j,j<=x.length/\loopO (ρ:=Ctl Int ρ) (λ(A:Int × Int)=>if Dc (A.1<A.2)then Bb (idx x (J7 (ishr .u64 (IntKind.u64.wrap (J7 (A.1+A.2))) 1))) λD=>Bb (F D) λE=>bindC (if Dc (E<0)then some (.go (J7 (J7 (ishr .u64 (IntKind.u64.wrap (J7 (A.1+A.2))) 1)+1),A.2))else some (.go (A.1,J7 (ishr .u64 (IntKind.u64.wrap (J7 (A.1+A.2))) 1)))) (λ(B:Int × Int)=>some (.go (B.1,B.2)))else some (.done (.go A.1))) ((0:Int),(x.length:Int))=some (.go (j:Int))/\(∀i (hi:i<x.length),i+1=j->c x[i]<0)/\(∀l:j<x.length,0<=c x[j]):=by
 obtain ⟨r,o,j,rfl,d,f,p⟩:=zbi (ρ:=Ctl Int ρ) (s0:=((0:Int),(x.length:Int))) (body:=λ(A:Int × Int)=>if Dc (A.1<A.2)then Bb (idx x (J7 (ishr .u64 (IntKind.u64.wrap (J7 (A.1+A.2))) 1))) λD=>Bb (F D) λE=>bindC (if Dc (E<0)then some (.go (J7 (J7 (ishr .u64 (IntKind.u64.wrap (J7 (A.1+A.2))) 1)+1),A.2))else some (.go (A.1,J7 (ishr .u64 (IntKind.u64.wrap (J7 (A.1+A.2))) 1)))) (λ(B:Int × Int)=>some (.go (B.1,B.2)))else some (.done (.go A.1)))
  (λk s=>∃a b:Nat,s=((a:Int),(b:Int))/\a<=b/\b<=x.length/\b - a+k<=x.length/\(∀i (hi:i<x.length),i+1=a->c x[i]<0)/\(∀l:b<x.length,0<=c x[b])) x.length
  (λr=>∃j:Nat,r= .go (j:Int)/\j<=x.length/\(∀i (hi:i<x.length),i+1=j->c x[i]<0)/\(∀l:j<x.length,0<=c x[j]))
  ⟨0,x.length,rfl,Ra _,Ov _,by omega,λi hi h=>by omega,λh=>by omega⟩ (by
    rintro k s w ⟨a,b,rfl,y,q,z,d,f⟩;by_cases t:a<b
    ·left;have u:((a:Int)+(b:Int)) / 2=(((a+b) / 2:Nat):Int):=by omega
     have m:(a+b) / 2<x.length:=by omega
     simp only[zud (a:=(a:Int)+(b:Int)) (by omega) (by omega),u,zb x _ m,Og,n _ (Pq m)];rw[iP (by simpa using t)];by_cases g:c x[(a+b) / 2]<0
     ·rw[iP (by simpa using g),za];refine ⟨_,rfl,(a+b) / 2+1,b,rfl,by omega,q,by omega,λi hi h=>?_,f⟩;obtain rfl:i=(a+b) / 2:=by omega
      exact g
     ·rw[iN (by simpa using g)];exact ⟨_,rfl,a,(a+b) / 2,rfl,by omega,by omega,by omega,d,λ_=>by omega⟩
    ·grind) (by
    grind)
 exact ⟨j,d,o,f,p⟩
theorem zhU {a b c:Ac} (d:entLt a b=true) (e:entLt b c=true):entLt a c=true:=by
 unfold entLt at d e |-
 simp only[Rc,Oq,decide_eq_true_eq]at d e |-
 rcases d with d | ⟨d,f⟩
 ·rcases e with e | ⟨e,_⟩
  ·exact .inl (zcD d e)
  ·simp_all
 ·grind
theorem znY {a b:Ac} (h: ¬(a.g=b.g/\a.c=b.c)) (d:entLt a b=false):entLt b a=true:=by
 unfold entLt at d |-
 have e:=zii a.g b.g;grind
theorem zd7 (a b:Ac): ∃r,zw a b=some r/\Dc (r<0)=entLt a b/\(r=0↔(a.g=b.g/\a.c=b.c)):=by
 unfold zw entLt;rw[zxu,zxt];simp only[Og,zwE];by_cases c:sLt a.g b.g=true
 ·have d: ¬a.g=b.g:=λe=>by rw[e,zbO]at c;cases c
  simp_all
 ·grind
def insE (l:List Ac) (e:Ac) (j:Nat):List Ac:=l.take j++(e::l.drop j)
theorem zsH {e x:Ac} {j:Nat} :x∈insE l e j↔x=e\/x∈l:=by
 unfold insE;conv=>rhs;rw[<-Oz j l,Qk]
 grind
def zsG (l:List Ac) (e:Ac) (j:Nat) (h:j<=l.length):(insE l e j).length=l.length+1:=by unfold insE;simp;omega
def ordE (l:List Ac):Prop:=l.Pairwise λa b=>entLt a b=true
theorem zw2 {e:Ac} {j:Nat} (hl:ordE l) (c: ∀i (hi:i<l.length),i<j->entLt l[i] e=true) (d: ∀i (hi:i<l.length),j<=i->entLt e l[i]=true):ordE (insE l e j):=by
 unfold ordE insE at*;have b:=hl;rw[<-Oz j l,Qa]at b;have f: ∀x∈l.take j,entLt x e=true:=by intro x a;obtain ⟨i,hi,rfl⟩:=On a;grind
 have g: ∀x∈l.drop j,entLt e x=true:=by intro x a;obtain ⟨i,hi,rfl⟩:=On a;simp_all
 rw[Qa,Pl];simp_all
theorem zbf (l:List Ac):entsV l=true↔(∀x∈l,entV x=true)/\ordE l:=by
 constructor
 ·intro h;refine ⟨λx d=>?_,?_⟩
  ·obtain ⟨k,a,rfl⟩:=On d;unfold entsV at h;rw[Pa]at h;have:=h k (by simp_all);rw[zgw l k a,Oq]at this;simp_all
  ·unfold ordE;rw[Pe];intro i j hi e f;unfold entLt;simp only[Rc,Oq,decide_eq_true_eq];exact zgx h j e i f
 ·rintro ⟨g,b⟩;unfold ordE at b;rw[Pe]at b;unfold entsV;rw[Pa];intro k a;have c:k<l.length:=by simp_all
  rw[zgw l k c,g _ (Pq c)];grind
def putF (l:List Ac) (f:Ac) (j k:Nat):Bool × Int × List Ac:=bif So k j then (false,(k:Int),l.take k) else (true,(k:Int),l.take j++(f::(l.drop j).take (k - j)))
def zkV (l:List Ac) (f:Ac) (j k:Nat) (h:k<=j):putF l f j k=(false,(k:Int),l.take k):=by unfold putF;rw[Rx h];rfl
def znl (l:List Ac) (f:Ac) (j k:Nat) (h:j<k):putF l f j k=(true,(k:Int),l.take j++(f::(l.drop j).take (k - j))):=by
 unfold putF;have:So k j=false:=by
  cases a:So k j
  ·rfl
  ·simp_all;omega
 simp_all
theorem zsl (l:List Ac) (f:Ac) (j:Nat) (hl:l.length<=1048576) (o:j<=l.length) (e: ∀i (hi:i<l.length),i<j->entLt f l[i]=false) (g: ∀hi:j<l.length,entLt f l[j]=true):
 zdr l f=some (insE l f j):=by
 unfold zdr;rw[zh (putF l f j) l.length (r:=Ctl.go ((putF l f j l.length).1,(putF l f j l.length).2.2)) ?h0]
 case h0=>rw[zkV _ _ _ _ (Ra _)];rfl
 ·by_cases h:j=l.length
  ·subst h;rw[zkV _ _ _ _ (Ov _)];simp only[ze,Ph,iT];rw[zf (by grind) (by grind)];simp[insE]
  ·rw[znl _ _ _ _ (by omega)];simp only[ze,Om,Oh,iF];unfold insE;rw[Oo (l:=l.drop j) (by simp)]
 ·intro k a;have c:=za (n:=(k:Int)+1);rcases Qp k j with b | b | b
  ·have d:l.take (k+1)=l.take k++ [l[k]]:=by simp
   rw[zkV _ _ _ _ (by omega),zkV _ _ _ _ (by omega)];simp only[zb l k a,Og,Ph,iT,c,zdp,e k a b,Oh,iF,ze];rw[iP,zf (by grind) (by simp;omega),d];rfl
  ·subst b;rw[zkV _ _ _ _ (Ov _),znl _ _ _ _ (by omega)];simp only[zb l k a,Og,Ph,iT,c,zdp,g a];rw[iP,zf (by grind) (by simp;omega)];simp only[Og,ze];rw[zf (by grind) (by grind)];have:(l.drop k).take (k+1 - k)= [l[k]]:=by rw[Oi a,show k+1 - k=1 by omega];rfl
   simp_all
  ·rw[znl _ _ _ _ (by omega),znl _ _ _ _ (by omega)];simp only[zb l k a,Og,Om,Oh,iF,c,ze];rw[iP,zf (by grind) (by simp;omega)];have m:k - j<(l.drop j).length:=by grind
   have d:(l.drop j).take (k+1 - j)=(l.drop j).take (k - j)++ [l[k]]:=by rw[show k+1 - j=(k - j)+1 by omega,Qi,Pb m,Rs];grind
   simp_all
 ·have hi:(putF l f j l.length).2.1=(l.length:Int):=by unfold putF;grind
  simp_all
theorem zuT (l:List Ac) (x:Ac) (j:Nat) (a:j<=l.length) (h:l.length<=1048576):zc5 l (j:Int) [x]=some (insE l x j):=by unfold zc5 ins insE;grind
theorem zoJ (l:List Ac) (e:Ac) (hl:ordE l) (h:l.length<=1048576) (s: ∀x∈l,¬(x.g=e.g/\x.c=e.c)):
 ∃j,j<=l.length/\zhI l e=some (insE l e j,true)/\zdr l e=some (insE l e j)/\ordE (insE l e j):=by
 have t: ∀x∈l,zw x e=some ((zw x e).getD 0):=by intro x _;obtain ⟨r,u,_⟩:=zd7 x e;simp_all
 have v: ∀x:Ac,(((zw x e).getD 0<0)↔entLt x e=true)/\((zw x e).getD 0=0↔(x.g=e.g/\x.c=e.c)):=by intro x;obtain ⟨r,u,m,w⟩:=zd7 x e;grind
 obtain ⟨j,f,n,m,w⟩:=bisect (ρ:=Int × Bool) l (λx=>zw x e) (λx=>(zw x e).getD 0) t h;have o: ∀a b (E:a<l.length) (n:b<l.length),a<b->entLt l[a] l[b]=true:=by unfold ordE at hl;rw[Pe]at hl;trivial
 have p: ∀i (hi:i<l.length),i<j->entLt l[i] e=true:=by
  intro i hi k;have y:=((v _).1.1 (m (j - 1) (by omega) (by omega)));by_cases z:i=j - 1
  ·grind
  ·exact zhU (o i (j - 1) hi (by omega) (by omega)) y
 have q: ∀i (hi:i<l.length),j<=i->entLt e l[i]=true:=by
  intro i hi k;have d:j<l.length:=by omega
  have A:entLt e l[j]=true:=by refine znY (s _ (Pq d)) ?_;grind
  by_cases z:j=i
  ·grind
  ·exact zhU A (o j i d hi (by omega))
 have asym: ∀a b:Ac,entLt a b=true->entLt b a=false:=by
  intro a b B;cases C:entLt b a with
  | false=>rfl
  | true=>have:=zhU B C;unfold entLt at this;rw[zbO]at this;grind
 refine ⟨j,f,?_,zsl l e j h f (λi hi k=>asym _ _ (p i hi k)) (λhi=>q j hi (Ov _)),zw2 hl p q⟩;unfold zhI zY;rw[n];simp only[ze];have D:(if Dc ((j:Int)<(l.length:Int)) then ((idx l (j:Int)).bind λF=>(zw F e).bind λG=>some (Dc (G=0))) else (some false))=some false:=by
  by_cases d:j<l.length
  ·rw[iP (by grind),zb l j d];grind
  ·grind
 rw[D];simp only[Og,Oh,iF,zuT l e j f h]
def opV (o:Op):Bool:=Dc (1<=(o.g.length:Int)/\(o.g.length:Int)<=10)&&(Dc ((o.J.length:Int)<=16)&&(!o.M||decide (o.J= [])))
theorem zm3 (o:Op):ze9 o=some (opV o):=by unfold ze9 opV;simp only[zbe,Og];grind
theorem zsF (o:Op):((ziY o.g).bind λh=>if !h then (some true) else ((ziZ o.M o.J).bind λA=>some (!A)))=some (!opV o):=by unfold ziY ziZ opV;simp only[z6,Og];grind
def batchV (l:List Op):Bool:=Dc (1<=l.length/\l.length<=6)&&l.all opV
def batchI (l:List Op):Dc (1<=(l.length:Int)/\(l.length:Int)<=6)=Dc (1<=l.length/\l.length<=6):=decide_eq_decide.2 (by omega)
theorem zdo (l:List Op) (h:l.length<=1048576):zcW l=some (batchV l):=by
 unfold zcW batchV;simp only[zbe,Og,batchI];by_cases a:1<=l.length/\l.length<=6
 ·rw[dT a];rw[zci (λk s=>s=(k:Int)/\l.all opV=(l.drop k).all opV) l.length (if l.all opV=true then Ctl.go () else Ctl.done false) ?h0 ?h1 ?h2]
  ·cases l.all opV<;>rfl
  case h0=>exact ⟨rfl,rfl⟩
  ·rintro k s b ⟨rfl,c⟩;simp only[zb l k b,Og,zm3];rw[iP,za (n:=(k:Int)+1),c,Oi b,Si];grind
  ·simp
 ·rw[dF a];rfl
theorem zeH (l:List Op) (h:l.length<=1048576):zcM l=some (batchV l):=by
 unfold zcM batchV;rw[zci (λk s=>s=(k:Int)/\l.all opV=(l.drop k).all opV) l.length (if l.all opV=true then Ctl.go () else Ctl.done false) ?h0 ?h1 ?h2]
 ·cases l.all opV with
  | false=>simp
  | true=>simp only[iT,ze,z6,Og,batchI,Sm]
 case h0=>exact ⟨rfl,rfl⟩
 ·rintro k s a ⟨rfl,b⟩;simp only[zb l k a,Og,zsF];rw[iP,za (n:=(k:Int)+1),b,Oi a,Si];grind
 ·simp
def laterV (l:List Op) (k:Nat) (key:J2):Bool:=(l.drop (k+1)).any λx=>decide (x.g=key)
theorem zlY (s:List Op) (c:Op) (h:s.length<=1048576):zC s c=some (s.any λx=>decide (x.g=c.g)):=by
 unfold zC;have key: ∃r:Int,zS s c=some r/\Dc (r>=0)=s.any λx=>decide (x.g=c.g):=by
  unfold zS zfO;obtain ⟨r,f,b⟩:=zbi (ρ:=Ctl Unit Int) (s0:=(0:Int)) (body:=λ(S1:Int)=>if Dc (S1<(s.length:Int))then Bb (idx s S1) λA=>Bb (some (Dc (A.g=c.g))) λB=>if B=true then some (.done (.done S1))else some (.go (J7 (S1+1)))else some (.done (.go ())))
   (λk t=>t=(k:Int)/\(s.any λx=>decide (x.g=c.g))=(s.drop k).any λx=>decide (x.g=c.g)) s.length
   (λr=>(∃i:Nat,r= .done (i:Int)/\(s.any λx=>decide (x.g=c.g))=true)\/(r= .go ()/\(s.any λx=>decide (x.g=c.g))=false))
   ⟨rfl,rfl⟩ (by
     rintro k t a ⟨rfl,d⟩;rw[Oi a,Rt]at d;simp only[zb s k a,Og];rw[iP,za (n:=(k:Int)+1)];cases j:Dc (s[k].g=c.g) with
     | true=>grind
     | false=>simp_all) (by
     simp)
  rcases b with ⟨i,rfl,e⟩ | ⟨rfl,e⟩
  ·simp_all
  ·simp_all
 grind
theorem zv1 (l:List Op) (k:Nat) (a:k<l.length) (h:l.length<=1048576):
 loopO (ρ:=Ctl Bool ρ) (λ(A:Bool × Int)=>if Dc (A.2<(l.length:Int))then Bb (if A.1=true then Bb (idx l A.2) λB=>Bb (idx l (k:Int)) λD=>some (!(Dc (B.g=D.g)))else some false) (λ(E:Bool)=>some (.go (E,J7 (A.2+1))))else some (.done (.go A.1)))
 (true,J7 ((k:Int)+1))=some (.go (!laterV l k l[k].g)):=by
 rw[zh (λd=>(!(((l.drop (k+1)).take d).any λx=>decide (x.g=l[k].g)),((k+1+d:Nat):Int))) (l.length - (k+1)) (r:=Ctl.go (!laterV l k l[k].g)) ?h0]
 case h0=>rw[za];simp
 ·intro d f;have b:k+1+d<l.length:=by omega
  have c:d<(l.drop (k+1)).length:=by simp_all
  have e:(l.drop (k+1)).take (d+1)=(l.drop (k+1)).take d++ [l[k+1+d]]:=by rw[Qi,Pb c,Rs];rfl
  simp only[zb l _ b,zb l k a,Og,e,Tg,Rt,Tt,To];rw[iP (by grind),za];grind
 ·rw[show k+1+(l.length - (k+1))=l.length by omega,Oo (by simp)];simp[laterV]
def entO (o:Op) (seq:Int):Ac:=⟨o.g,seq,o.M,o.J⟩
def memB (l:List Op) (seq:Int) (m:List Ac):Nat->List Ac
 | 0=>m
 | k+1=>match l[k]? with
   | some o=>bif laterV l k o.g then memB l seq m k else (zdr (memB l seq m k) (entO o seq)).getD []
   | none=>memB l seq m k
def zhm (l:List Op) (seq:Int) (m:List Ac) (k:Nat) (a:k<l.length) (h:laterV l k l[k].g=true):memB l seq m (k+1)=memB l seq m k:=by show (match l[k]? with | some o=>_ | none=>_)=_;simp_all
def zoD (l:List Op) (seq:Int) (m:List Ac) (k:Nat) (a:k<l.length) (h:laterV l k l[k].g=false):memB l seq m (k+1)=(zdr (memB l seq m k) (entO l[k] seq)).getD []:=by show (match l[k]? with | some o=>_ | none=>_)=_;simp_all
def invB (l:List Op) (seq:Int) (m:List Ac) (k:Nat) (x:Ac):Prop:=x∈m\/∃i,∃hi:i<l.length,i<k/\laterV l i l[i].g=false/\x=entO l[i] seq
theorem zoC (l:List Op) (seq:Int) (m M:List Ac) (k:Nat) (n:k<l.length) (hs: ∀x∈m,x.c<seq) (A: ∀x∈M,invB l seq m k x): ∀x∈M,¬(x.g=(entO l[k] seq).g/\x.c=(entO l[k] seq).c):=by
 rintro x b ⟨d,e⟩;rcases A x b with h | ⟨i,hi,o,a,rfl⟩
 ·have:=hs x h;have f:x.c=seq:=e;omega
 ·unfold laterV at a;rw[List.any_eq_false]at a;have j:l[k]∈l.drop (i+1):=by
   have:(l.drop (i+1))[k - (i+1)]'(by grind)=l[k]:=by grind
   grind
  refine a _ j ?_;have f:l[i].g=l[k].g:=d;simp_all
def zgD (l:List Op) (seq:Int) (m:List Ac) (o:ordE m) (hs: ∀x∈m,x.c<seq) (hl:m.length+l.length<=1048576): ∀k,k<=l.length->ordE (memB l seq m k)/\(memB l seq m k).length<=m.length+k/\(∀x∈memB l seq m k,invB l seq m k x)/\(∀x∈m,x∈memB l seq m k):=by
 intro k;induction k with
 | zero=>intro _;exact ⟨o,Ov _,λx a=>.inl a,λx a=>a⟩
 | succ k ih=>
   intro u;obtain ⟨f,v,d,n⟩:=ih (by omega);have b:k<l.length:=by omega
   cases e:laterV l k l[k].g with
   | true=>
     rw[zhm l seq m k b e];refine ⟨f,by omega,λx a=>?_,n⟩;rcases d x a with h | ⟨i,hi,p,h⟩
     ·exact .inl h
     ·exact .inr ⟨i,hi,by omega,h⟩
   | false=>
     obtain ⟨j,q,_,s,t⟩:=zoJ (memB l seq m k) (entO l[k] seq) f (by omega) (zoC l seq m _ k b hs d);rw[zoD l seq m k b e,s];refine ⟨t,?_,λx a=>?_,λx a=>?_⟩
     ·rw[Option.getD_some,zsG _ _ _ q];omega
     ·rcases zsH.1 a with rfl | a
      ·exact .inr ⟨k,b,by omega,e,rfl⟩
      ·rcases d x a with h | ⟨i,hi,p,h⟩
       ·exact .inl h
       ·exact .inr ⟨i,hi,by omega,h⟩
     ·exact zsH.2 (.inr (n x a))
def zmQ (l:List Op) (seq:Int) (m:List Ac) (b:ordE m) (hs: ∀x∈m,x.c<seq) (hl:m.length+l.length<=1048576) (k:Nat) (a:k<l.length) (d:laterV l k l[k].g=false):
    zhI (memB l seq m k) (entO l[k] seq)=some (memB l seq m (k+1),true)/\zdr (memB l seq m k) (entO l[k] seq)=some (memB l seq m (k+1)):=by obtain ⟨e,n,f,_⟩:=zgD l seq m b hs hl k (by omega);obtain ⟨j,o,h,i,_⟩:=zoJ (memB l seq m k) (entO l[k] seq) e (by omega) (zoC l seq m _ k a hs f);rw[zoD l seq m k a d,h,i];trivial
theorem zit (m:Int): ∀(l:List Ac) (s:Int × Int),(m<=(l.foldl (λs e=>(goMin s.1 e.c,goMax s.2 e.c)) s).1↔m<=s.1/\∀x∈l,m<=x.c)/\((l.foldl (λs e=>(goMin s.1 e.c,goMax s.2 e.c)) s).2<=m↔s.2<=m/\∀x∈l,x.c<=m)
 | [],s=>by simp
 | e::l,s=>by
   obtain ⟨a,b⟩:=zit m l (goMin s.1 e.c,goMax s.2 e.c);simp only[List.foldl_cons];rw[a,b];have d:m<=goMin s.1 e.c↔m<=s.1/\m<=e.c:=by unfold goMin;omega
   have f:goMax s.2 e.c<=m↔s.2<=m/\e.c<=m:=by unfold goMax;omega
   grind
def ze3 (l:List Ac) (m:Int):m<=(rangeV l).1↔m<=1000001/\∀x∈l,m<=x.c:=(zit m l _).1
def zif (l:List Ac) (m:Int):(rangeV l).2<=m↔-1<=m/\∀x∈l,x.c<=m:=(zit m l _).2
theorem zxj {D A B:Int} (a:A<=B\/seq<B) (b:seq<=D): ∀t:List (List Ac),tabsV seq A t=true->tabsV D B t=true:=by
 have go: ∀(t:List (List Ac)) (A:Int),tabsV seq A t=true->tabsV D A t=true:=by
  intro t;induction t with
  | nil=>intro _ _;rfl
  | cons x t ih=>
    intro A h;simp only[tabsV,Oq,decide_eq_true_eq]at h |-
    grind
 intro t h;cases t with
 | nil=>rfl
 | cons x t=>
   simp only[tabsV,Oq,decide_eq_true_eq]at h |-
   grind
theorem zwl {A:Int} {l:List Int} (d:seq<=A) (h:snapsV seq l=true):snapsV A l=true:=by
 unfold snapsV;rw[Pa];intro k e;have c:k<l.length:=by simp_all
 obtain ⟨a,b⟩:=ze6 h k c;rw[zlP A l k c,Oq];grind
def engB (e:Aa) (l:List Op):Aa:=⟨memB l (e.c+1) e.x l.length,e.s,e.c+1,e.A⟩
def okB (e:Aa) (l:List Op):Bool:=Dc (e.c+1<=1000000)&&(Dc ((memB l (e.c+1) e.x l.length).length<=60)&&Dc (totalV e.s+(memB l (e.c+1) e.x l.length).length<=400))
def z8 (h:engV e=true):(0<=e.c/\e.c<=1000000)/\e.A.length<=4/\e.s.length<=6/\totalV e.s+e.x.length<=400/\(e.x.length<=60/\entsV e.x=true)/\(rangeV e.x).2<=e.c/\tabsV e.c (rangeV e.x).1 e.s=true/\snapsV e.c e.A=true:=by unfold engV memV at h;simp_all
def zhG {l:List Op} (h:engV e=true) (a:batchV l=true):ordE e.x/\(∀x∈e.x,x.c<e.c+1)/\e.x.length+l.length<=66:=by obtain ⟨g,i,j,k,b,d,m,n⟩:=z8 h;unfold batchV at a;rw[Oq,decide_eq_true_eq]at a;refine ⟨((zbf _).1 b.2).2,λx f=>?_,by omega⟩;have:=((zif _ _).1 d).2 x f;omega
theorem znf {l:List Op} (h:engV e=true) (b:batchV l=true):engV (engB e l)=okB e l:=by
 obtain ⟨u,f,g,v,j,w,k,m⟩:=z8 h;obtain ⟨n,o,y⟩:=zhG h b;obtain ⟨p,z,d,A⟩:=zgD l (e.c+1) e.x n o (by omega) l.length (Ov _);unfold batchV at b;rw[Oq,decide_eq_true_eq,Pa]at b;unfold okB engB engV memV;simp only;rw[dT f,dT g,zwl (by omega) m];by_cases B:e.c+1<=1000000
 ·have C:0<=e.c+1/\e.c+1<=1000000:=by omega
  have q:entsV (memB l (e.c+1) e.x l.length)=true:=by
   rw[zbf];refine ⟨λx a=>?_,p⟩;rcases d x a with a | ⟨i,hi,_,_,rfl⟩
   ·exact ((zbf _).1 j.2).1 x a
   ·have:=b.2 _ (Pq hi);unfold opV at this;unfold entV entO;simp_all
  have s:(rangeV (memB l (e.c+1) e.x l.length)).2<=e.c+1:=by
   rw[zif];refine ⟨by omega,λx a=>?_⟩;rcases d x a with a | ⟨i,hi,_,_,rfl⟩
   ·grind
   ·exact Ry _
  have t:(rangeV e.x).1<=(rangeV (memB l (e.c+1) e.x l.length)).1\/e.c<(rangeV (memB l (e.c+1) e.x l.length)).1:=by
   by_cases c:(rangeV e.x).1<=e.c+1
   ·left;rw[ze3];have:=(ze3 e.x (rangeV e.x).1).1 (Ry _);refine ⟨this.1,λx a=>?_⟩;rcases d x a with a | ⟨i,hi,_,_,rfl⟩
    ·simp_all
    ·exact c
   ·right;have:e.c+1<=(rangeV (memB l (e.c+1) e.x l.length)).1:=by
     rw[ze3];have D:=(ze3 e.x (rangeV e.x).1).1 (Ry _);refine ⟨by omega,λx a=>?_⟩;rcases d x a with a | ⟨i,hi,_,_,rfl⟩
     ·grind
     ·exact Ry _
    omega
  rw[q,dT s,zxj t (by omega) _ k];grind
 ·grind
def putR (e:Aa) (l:List Op):Aa × Bool:=bif engV e then (bif batchV l then (bif okB e l then (engB e l,true) else (e,false)) else (e,false)) else (⟨[],[],0,[]⟩,false)
theorem zhP (e:Aa) (l:List Op) (i:e.x.length<=1048576) (b:e.s.length<=1048576) (d:totalV e.s<=1048576) (f:e.A.length<=1048576) (j:l.length<=1048576):zcE e l=some (putR e l):=by
 have v: ∀t∈e.s,t.length<=1048576:=λt w=>Pr (zgK Qd w) d;unfold zcE putR;rw[zb9 e i b d f];cases h:engV e with
 | false=>rfl
 | true=>
   simp only[Og,Om,Oh,iF,zb5 e i b v f,cT,zdo l j];cases m:batchV l with
   | false=>rfl
   | true=>
     have z:=(z8 h).1;obtain ⟨o,p,B⟩:=zhG h m;have C:J7 (e.c+1)=e.c+1:=za;obtain ⟨D,E,F,G⟩:=zgD l (e.c+1) e.x o p (by omega) l.length (Ov _);rw[zh (λk=>((k:Int),memB l (e.c+1) e.x k)) l.length (r:=Ctl.go (memB l (e.c+1) e.x l.length)) ?h0]
     case h0=>rfl
     ·simp only[ze];have q:=zb9 (engB e l) (by show (memB l (e.c+1) e.x l.length).length<=_;omega) b d f;rw[znf h m]at q;unfold engB at q |-
      grind
     ·intro k a;rw[iP,zv1 l k a j];simp only[ze,zb l k a,Og];rw[za (n:=(k:Int)+1)];cases u:laterV l k l[k].g with
      | true=>rw[zhm l _ _ k a u];rfl
      | false=>have y:=(zmQ l (e.c+1) e.x o p (by omega) k a u).2;unfold entO at y;simp_all
     ·simp
theorem zqs (e:Aa) (l:List Op) (b:engV e=true) (i:batchV l=true):zde e l=some (okB e l,engB e l):=by
 obtain ⟨q,t,u,v,w,_⟩:=z8 b;obtain ⟨d,f,y⟩:=zhG b i;have j:J7 (e.c+1)=e.c+1:=za;obtain ⟨z,A,B,C⟩:=zgD l (e.c+1) e.x d f (by omega) l.length (Ov _);unfold zde;simp only[j];rw[zh (λk=>(true,(k:Int),memB l (e.c+1) e.x k)) l.length (r:=Ctl.go (true,memB l (e.c+1) e.x l.length)) ?h0]
 case h0=>rfl
 ·simp only[ze,iT,zkc e.s (by omega) (by omega),Og];rw[za];unfold okB engB;have D:Dc ((totalV e.s:Int)+(((memB l (e.c+1) e.x l.length).length:Nat):Int)<=400)=Dc (totalV e.s+(memB l (e.c+1) e.x l.length).length<=400):=decide_eq_decide.2 (by omega);grind
 ·intro k a;have m:piece l (J7 ((k:Int)+1)) (l.length:Int)=some (l.drop (k+1)):=by rw[za,zR l (k+1) l.length _ _ (by omega) rfl (by omega) (Ov _),Oo (by simp)]
  simp only[zb l k a,Og,m,zlY _ l[k] (by simp;omega:(l.drop (k+1)).length<=1048576)];rw[iP (by simpa using a),za (n:=(k:Int)+1)];have o:((l.drop (k+1)).any λx=>decide (x.g=l[k].g))=laterV l k l[k].g:=rfl;rw[o];cases h:laterV l k l[k].g with
  | true=>rw[zhm l _ _ k a h];rfl
  | false=>have p:=(zmQ l (e.c+1) e.x d f (by omega) k a h).1;unfold entO at p;simp_all
 ·simp
theorem iand64 (c:a<2 ^ 63) (d:b<2 ^ 63):iand .i64 (a:Int) (b:Int)=((a &&& b:Nat):Int):=by
 unfold iand;have f:a &&& b<=a:=Th;have e:(Ot I6.bits (a:Int) &&& Ot I6.bits (b:Int)).toNat=a &&& b:=by show (Ot 64 (a:Int) &&& Ot 64 (b:Int)).toNat=a &&& b;grind
 rw[e];exact za
theorem ior64 (c:a<2 ^ 63) (d:b<2 ^ 63):ior .i64 (a:Int) (b:Int)=((a ||| b:Nat):Int):=by
 unfold ior;have f:a ||| b<2 ^ 63:=Qq c d;have e:(Ot I6.bits (a:Int) ||| Ot I6.bits (b:Int)).toNat=a ||| b:=by show (Ot 64 (a:Int) ||| Ot 64 (b:Int)).toNat=a ||| b;grind
 rw[e];exact za
theorem ixor64 (c:a<2 ^ 63) (d:b<2 ^ 63):ixor .i64 (a:Int) (b:Int)=(a ^^^ b:Int):=by
 unfold ixor;have f:a ^^^ b<2 ^ 63:=Rp c d;have e:(Ot I6.bits (a:Int) ^^^ Ot I6.bits (b:Int)).toNat=a ^^^ b:=by show (Ot 64 (a:Int) ^^^ Ot 64 (b:Int)).toNat=a ^^^ b;grind
 rw[e];exact za
def wrap32 (n:Int):IntKind.u32.wrap n=n % 4294967296:=by simp[IntKind.wrap,IntKind.bits,IntKind.signed]
def wrap64u (n:Int):IntKind.u64.wrap n=n % 18446744073709551616:=by simp[IntKind.wrap,IntKind.bits,IntKind.signed]
theorem ior32 (c:a<2 ^ 32) (d:b<2 ^ 32):ior .u32 (a:Int) (b:Int)=((a ||| b:Nat):Int):=by
 unfold ior;have f:a ||| b<2 ^ 32:=Qq c d;have e:(Ot IntKind.u32.bits (a:Int) ||| Ot IntKind.u32.bits (b:Int)).toNat=a ||| b:=by show (Ot 32 (a:Int) ||| Ot 32 (b:Int)).toNat=a ||| b;grind
 rw[e,wrap32];omega
theorem ixor32 (c:a<2 ^ 32) (d:b<2 ^ 32):ixor .u32 (a:Int) (b:Int)=(a ^^^ b:Int):=by
 unfold ixor;have f:a ^^^ b<2 ^ 32:=Rp c d;have e:(Ot IntKind.u32.bits (a:Int) ^^^ Ot IntKind.u32.bits (b:Int)).toNat=a ^^^ b:=by show (Ot 32 (a:Int) ^^^ Ot 32 (b:Int)).toNat=a ^^^ b;grind
 rw[e,wrap32];omega
theorem iand8 (c:a<2 ^ 8) (d:b<2 ^ 8):iand .u8 (a:Int) (b:Int)=((a &&& b:Nat):Int):=by
 unfold iand;have f:a &&& b<=a:=Th;have e:(Ot IntKind.u8.bits (a:Int) &&& Ot IntKind.u8.bits (b:Int)).toNat=a &&& b:=by show (Ot 8 (a:Int) &&& Ot 8 (b:Int)).toNat=a &&& b;grind
 rw[e];simp[IntKind.wrap,IntKind.bits,IntKind.signed];omega
theorem zcP {k:IntKind} (b:n<=k.bits):ishr k (a:Int) (n:Int)=((a / 2 ^ n:Nat):Int):=by unfold ishr;grind
def ishl64 (b:n<=64) (h:a*2 ^ n<2 ^ 63):ishl .i64 (a:Int) (n:Int)=((a*2 ^ n:Nat):Int):=by
 unfold ishl;have c:I6.bits=64:=rfl;rw[Ok,c,Qg b];have e:(a:Int)*2 ^ n=((a*2 ^ n:Nat):Int):=by rfl
 exact za
def ishl32 (b:n<=32):ishl .u32 (a:Int) (n:Int)=((a*2 ^ n % 4294967296:Nat):Int):=by
 unfold ishl;have c:IntKind.u32.bits=32:=rfl;have e:(a:Int)*2 ^ n=((a*2 ^ n:Nat):Int):=by rfl
 rw[Ok,c,Qg b,wrap32,e];rfl
def zmK (h:x<2 ^ 63):zbM (x:Int)=some ((x % 4294967296:Nat):Int):=by unfold zbM;rw[show (4294967295:Int)=((4294967295:Nat):Int) from rfl,iand64 h (by decide),show x &&& 4294967295=x % 4294967296 from Pi x 32]
def rotN (x n:Nat):Nat:=x*2 ^ n % 4294967296 ||| x / 2 ^ (32 - n)
def zxX (h:x<4294967296):rotN x n<4294967296:=by refine Qq (n:=32) (Qv _ (by decide)) ?_;exact Rr (Rh _ _) h
def zv0 (h:x<4294967296) (b:n<=16):zcF (x:Int) (n:Int)=some (rotN x n:Int):=by
 unfold zcF nn;have a:x*2 ^ n<2 ^ 63:=by
  have:2 ^ n<=2 ^ 16:=Pu (by decide) b
  calc x*2 ^ n<=x*2 ^ 16:=Qw _ this
   _<2 ^ 63:=by omega
 have c:x / 2 ^ (32 - n)<2 ^ 32:=Rr (Rh _ _) h;have d:IntKind.u64.wrap ((32:Int) - (n:Int))=((32 - n:Nat):Int):=by rw[wrap64u];omega
 rw[iN (by omega),d,ishl64 (by omega) a,zcP (by show 32 - n<=64;omega),ior64 a (by omega)];rw[zmK (Qq a (by omega))];simp only[Og];unfold rotN;rw[show (4294967296:Nat)=2 ^ 32 from rfl,Nat.or_mod_two_pow,Ps c]
def zxa (h:x<4294967296) (d:n<=16):zW (x:Int) (n:Int)=some (rotN x n:Int):=by
 unfold zW nn;have a:iand .u64 (IntKind.u64.wrap (n:Int)) 31=(n:Int):=by
  have e:IntKind.u64.wrap (n:Int)=(n:Int):=by rw[wrap64u];omega
  unfold iand;have f:(Ot IntKind.u64.bits (n:Int) &&& Ot IntKind.u64.bits 31).toNat=n:=by show (Ot 64 (n:Int) &&& Ot 64 ((31:Nat):Int)).toNat=n;rw[Sg,Sg,BitVec.toNat_and,Ss,Ss,Ps (by omega),Ps (by omega)];rw[show n &&& 31=n % 32 from Pi n 5];omega
  simp_all
 have b:x / 2 ^ (32 - n)<2 ^ 32:=Rr (Rh _ _) h;have c:IntKind.u64.wrap ((32:Int) - (n:Int))=((32 - n:Nat):Int):=by rw[wrap64u];omega
 rw[a,iN (by omega),c,ishl32 (by omega),zcP (by show 32 - n<=32;omega),ior32 (Qv _ (by decide)) b];rfl
def zot {p q:Int} (e:0<=p/\p<4294967296) (f:0<=q/\q<4294967296):ior .u32 p q=ior .i64 p q/\0<=ior .i64 p q/\ior .i64 p q<4294967296:=by
 have c:p=(p.toNat:Int):=by omega
 have d:q=(q.toNat:Int):=by omega
 have a:p.toNat<2 ^ 32:=by omega
 have b:q.toNat<2 ^ 32:=by omega
 have g:=Qq a b;rw[c,d,ior32 a b,ior64 (by omega) (by omega)];omega
def zvX (x:UInt8) (n:Nat) (a:n<=24):ishl .u32 (IntKind.u32.wrap (x.toNat:Int)) (n:Int)=ishl .i64 (J7 (x.toNat:Int)) (n:Int)/\0<=ishl .i64 (J7 (x.toNat:Int)) (n:Int)/\ishl .i64 (J7 (x.toNat:Int)) (n:Int)<4294967296:=by
 have e:=x.toNat_lt;have b:IntKind.u32.wrap (x.toNat:Int)=(x.toNat:Int):=by rw[wrap32];omega
 have c:J7 (x.toNat:Int)=(x.toNat:Int):=za;have d:2 ^ n<=2 ^ 24:=Pu (by decide) a;have f:x.toNat*2 ^ n<=x.toNat*2 ^ 24:=Qw _ d;rw[b,c,ishl32 (by omega),ishl64 (by omega) (by omega)];omega
def zlt (x:UInt8) (n:Int) (a:0<=n/\n<=24):ishl .u32 (IntKind.u32.wrap (x.toNat:Int)) n=ishl .i64 (J7 (x.toNat:Int)) n/\0<=ishl .i64 (J7 (x.toNat:Int)) n/\ishl .i64 (J7 (x.toNat:Int)) n<4294967296:=by
 have e:n=(n.toNat:Int):=by omega
 exact zvX x n.toNat (by omega)
def zjY {x:Option α} {g:α->Option β} (h: ∀a,f a=g a):x.bind f=x.bind g:=by
 cases x with
 | none=>rfl
 | some a=>exact h a
def zpv (a b c d:UInt8):ior .u32 (ior .u32 (ior .u32 (IntKind.u32.wrap (a.toNat:Int)) (ishl .u32 (IntKind.u32.wrap (b.toNat:Int)) 8)) (ishl .u32 (IntKind.u32.wrap (c.toNat:Int)) 16)) (ishl .u32 (IntKind.u32.wrap (d.toNat:Int)) 24)=
     ior .i64 (ior .i64 (ior .i64 (J7 (a.toNat:Int)) (ishl .i64 (J7 (b.toNat:Int)) 8)) (ishl .i64 (J7 (c.toNat:Int)) 16)) (ishl .i64 (J7 (d.toNat:Int)) 24)/\
     0<=ior .i64 (ior .i64 (ior .i64 (J7 (a.toNat:Int)) (ishl .i64 (J7 (b.toNat:Int)) 8)) (ishl .i64 (J7 (c.toNat:Int)) 16)) (ishl .i64 (J7 (d.toNat:Int)) 24)/\
     ior .i64 (ior .i64 (ior .i64 (J7 (a.toNat:Int)) (ishl .i64 (J7 (b.toNat:Int)) 8)) (ishl .i64 (J7 (c.toNat:Int)) 16)) (ishl .i64 (J7 (d.toNat:Int)) 24)<4294967296:=by
 have k:=a.toNat_lt;have l:IntKind.u32.wrap (a.toNat:Int)=J7 (a.toNat:Int):=by rw[wrap32,za];omega
 have e:0<=J7 (a.toNat:Int)/\J7 (a.toNat:Int)<4294967296:=by rw[za];omega
 obtain ⟨m,f⟩:=zlt b 8 (by omega);obtain ⟨n,g⟩:=zlt c 16 (by omega);obtain ⟨o,h⟩:=zlt d 24 (by omega);obtain ⟨p,i⟩:=zot e f;obtain ⟨q,j⟩:=zot i g;obtain ⟨s,t⟩:=zot j h;simp_all
def zv2 (s:J2) (at_:Int):zeu s at_=zT s at_:=by exact zjY λa=>zjY λb=>zjY λc=>zjY λd=>congrArg some (zpv a b c d).1
def zsR (s:J2) (at_ r:Int) (h:zT s at_=some r):0<=r/\r<4294967296:=by obtain ⟨a,_,h⟩:=Qj.1 h;obtain ⟨b,_,h⟩:=Qj.1 h;obtain ⟨c,_,h⟩:=Qj.1 h;obtain ⟨d,_,h⟩:=Qj.1 h;rw[<-Option.some.inj h];exact (zpv a b c d).2
def zcS (s:J2) (i:Nat) (h:i<s.length):sidx s (i:Int)=some s[i]:=by unfold sidx;simp
theorem ztL (s:J2) (i:Nat) (h:i+3<s.length) (hs:s.length<=1048576): ∃n:Nat,zT s (i:Int)=some (n:Int)/\zeu s (i:Int)=some (n:Int)/\n<4294967296:=by
 have g:=zv2 s (i:Int);have a:=zsR s (i:Int);have hs': ∃r,zT s (i:Int)=some r:=by
  unfold zT;have w: ∀d:Nat,d<=3->J7 ((i:Int)+(d:Int))=((i+d:Nat):Int):=λd j=>by rw[za];omega
  have b:J7 ((i:Int)+1)=((i+1:Nat):Int):=w 1 (by omega);have c:J7 ((i:Int)+2)=((i+2:Nat):Int):=w 2 (by omega);have e:J7 ((i:Int)+3)=((i+3:Nat):Int):=w 3 (by omega);rw[b,c,e,zcS s i (by omega),zcS s (i+1) (by omega),zcS s (i+2) (by omega),zcS s (i+3) (by omega)];simp
 obtain ⟨r,f⟩:=hs';obtain ⟨p,q⟩:=a r f;refine ⟨r.toNat,?_,?_,by omega⟩
 ·grind
 ·grind
def okW (l:List Wrd):Prop:=∀x∈l,0<=x.v/\x.v<4294967296
def zuq {l:List Wrd} {i:Nat} {x:Wrd} (h:okW l) (c:0<=x.v/\x.v<4294967296):okW (l.set i x):=by
 intro y b;rcases List.mem_or_eq_of_mem_set b with a | a
 ·exact h y a
 ·simp_all
def qi (l:List Wrd) (x y z r:Int):Option (List Wrd):=
 (idx l x).bind λh=>(idx l y).bind λA=>(idx (l.set x.toNat (Wrd.mk (IntKind.u32.wrap (h.v+A.v)))) z).bind λD=>(idx (l.set x.toNat (Wrd.mk (IntKind.u32.wrap (h.v+A.v)))) x).bind λE=>
 (zW (ixor .u32 D.v E.v) r).bind λB=>some ((l.set x.toNat (Wrd.mk (IntKind.u32.wrap (h.v+A.v)))).set z.toNat (Wrd.mk B))
def qs (l:List Int) (x y z r:Int):Option (List Int):=
 (idx l x).bind λE=>(idx l y).bind λF=>(zbM (J7 (E+F))).bind λD=>(idx (l.set x.toNat D) z).bind λh=>(idx (l.set x.toNat D) x).bind λA=>
 (zcF (ixor .i64 h A) r).bind λB=>some ((l.set x.toNat D).set z.toNat B)
theorem zug {l:List α} {i:Int} {v w:α} (h:idx l i=some v):idx (l.set i.toNat w) i=some w:=by
 unfold idx at h |-
 grind
def zt1 {x:Option α} {g:α->Option β} (h: ∀a,x=some a->f a=g a):x.bind f=x.bind g:=by
 cases x
 ·rfl
 ·exact h _ rfl
def zmE (l:List Wrd) (a b c d:Int):zbK l a b c d=(qi l a b d 16).bind λe=>(qi e c d b 12).bind λf=>(qi f a b d 8).bind λg=>qi g c d b 7:=by unfold zbK qi;simp only[Ta,Og];repeat (refine zt1 λ_ h=>?_;try simp only[zug h,Og])
def zm5 (l:List Int) (a b c d:Int):zk l a b c d=(qs l a b d 16).bind λe=>(qs e c d b 12).bind λf=>(qs f a b d 8).bind λg=>qs g c d b 7:=by unfold zk qs;simp only[Ta,Og];repeat first | refine zt1 λ_ _=>?_ | rw[zug (by assumption),Og]
def zgE {l:List Wrd} (h:okW l) (k:Nat) (a:k<l.length): ∃n:Nat,l[k].v=(n:Int)/\n<4294967296:=by obtain ⟨b,c⟩:=h _ (Pq a);exact ⟨l[k].v.toNat,by omega,by omega⟩
def znp (l:List Wrd) (x y z r:Nat) (hl:l.length=16) (a:okW l) (q:x<16) (s:y<16) (t:z<16) (d:r<=16):
    ∃l',qi l (x:Int) (y:Int) (z:Int) (r:Int)=some l'/\qs (l.map Wrd.v) (x:Int) (y:Int) (z:Int) (r:Int)=some (l'.map Wrd.v)/\l'.length=16/\okW l':=by
 obtain ⟨B,G,u⟩:=zgE a x (by omega);obtain ⟨D,I,w⟩:=zgE a y (by omega);have g:IntKind.u32.wrap ((B:Int)+(D:Int))=(((B+D) % 4294967296:Nat):Int):=by rw[wrap32];omega
 have h:(l.set x (Wrd.mk (((B+D) % 4294967296:Nat):Int))).length=16:=by rw[Tk];exact hl
 have b:okW (l.set x (Wrd.mk (((B+D) % 4294967296:Nat):Int))):=zuq a ⟨by show (0:Int)<=(((B+D) % 4294967296:Nat):Int);omega,by show (((B+D) % 4294967296:Nat):Int)<_;omega⟩;obtain ⟨nz,J,e⟩:=zgE b z (by omega);obtain ⟨E,F,f⟩:=zgE b x (by omega);have c:=Rp (n:=32) e f;have A:=zxX (n:=r) (show nz ^^^ E<4294967296 from c);refine ⟨(l.set x (Wrd.mk (((B+D) % 4294967296:Nat):Int))).set z (Wrd.mk (rotN (nz ^^^ E) r:Int)),?_,?_,by rw[Tk];exact h,zuq b ⟨by show (0:Int)<=(rotN (nz ^^^ E) r:Int);omega,by show (rotN (nz ^^^ E) r:Int)<_;omega⟩⟩
 ·unfold qi;simp only[zb l x (by omega),zb l y (by omega),Og,G,I,g,Ok,zb _ z (by omega:z<(l.set x (Wrd.mk (((B+D) % 4294967296:Nat):Int))).length),zb _ x (by omega:x<(l.set x (Wrd.mk (((B+D) % 4294967296:Nat):Int))).length),J,F,ixor32 e f,zxa c d]
 ·unfold qs;have i:idx (l.map Wrd.v) (x:Int)=some (B:Int):=by rw[zb _ x (by simp;omega)];simp[G]
  have j:idx (l.map Wrd.v) (y:Int)=some (D:Int):=by rw[zb _ y (by simp;omega)];simp[I]
  have k:J7 ((B:Int)+(D:Int))=((B+D:Nat):Int):=by rw[za];omega
  have m:(l.map Wrd.v).set x (((B+D) % 4294967296:Nat):Int)=(l.set x (Wrd.mk (((B+D) % 4294967296:Nat):Int))).map Wrd.v:=by rw[List.map_set]
  simp only[i,j,Og,k,zmK (show B+D<2 ^ 63 by omega),Ok,m];have o:idx ((l.set x (Wrd.mk (((B+D) % 4294967296:Nat):Int))).map Wrd.v) (z:Int)=some (nz:Int):=by rw[zb _ z (by simp;omega)];simp only[Rv,J]
  have p:idx ((l.set x (Wrd.mk (((B+D) % 4294967296:Nat):Int))).map Wrd.v) (x:Int)=some (E:Int):=by rw[zb _ x (by simp;omega)];simp only[Rv,F]
  simp only[o,p,Og,ixor64 (show nz<2 ^ 63 by omega) (show E<2 ^ 63 by omega),zv0 c d];simp
def zu8 (l:List Wrd) (a b c d:Nat) (hl:l.length=16) (i:okW l) (g:a<16) (e:b<16) (h:c<16) (f:d<16):
    ∃l',zbK l (a:Int) (b:Int) (c:Int) (d:Int)=some l'/\zk (l.map Wrd.v) (a:Int) (b:Int) (c:Int) (d:Int)=some (l'.map Wrd.v)/\l'.length=16/\okW l':=by
 obtain ⟨j,k,m,r1,n⟩:=znp l a b d 16 hl i g e f (by omega);obtain ⟨o,y,z,r2,p⟩:=znp j c d b 12 r1 n h f e (by omega);obtain ⟨q,A,B,s,t⟩:=znp o a b d 8 r2 p g e f (by omega);obtain ⟨u,C,D,w,x⟩:=znp q c d b 7 s t h f e (by omega);refine ⟨u,?_,?_,w,x⟩
 ·rw[zmE,show (16:Int)=((16:Nat):Int) from rfl,k];simp_all
 ·rw[zm5,show (16:Int)=((16:Nat):Int) from rfl,m];simp_all
def goodW (l:List Wrd):Prop:=l.length=16/\okW l
def qv (l:List Wrd) (a b c d:Nat):List Wrd:=(zbK l (a:Int) (b:Int) (c:Int) (d:Int)).getD []
def qv_ok {l:List Wrd} (h:goodW l) (a b c d:Nat) (e:a<16) (f:b<16) (g:c<16) (i:d<16):
    zbK l (a:Int) (b:Int) (c:Int) (d:Int)=some (qv l a b c d)/\zk (l.map Wrd.v) (a:Int) (b:Int) (c:Int) (d:Int)=some ((qv l a b c d).map Wrd.v)/\goodW (qv l a b c d):=by obtain ⟨l',j,k,m,n⟩:=zu8 l a b c d h.1 h.2 e f g i;unfold qv;rw[j,k];trivial
def colW (l:List Wrd):Nat->List Wrd
 | 0=>l
 | k+1=>qv (colW l k) k (4+k) (8+k) (12+k)
def diagW (l:List Wrd):Nat->List Wrd
 | 0=>l
 | k+1=>qv (diagW l k) k (4+(k+1) % 4) (8+(k+2) % 4) (12+(k+3) % 4)
def roundW (l:List Wrd):List Wrd:=diagW (colW l 4) 4
def roundsW (l:List Wrd):Nat->List Wrd
 | 0=>l
 | k+1=>roundW (roundsW l k)
def zd3 {l:List Wrd} (h:goodW l): ∀k,k<=4->goodW (colW l k)
 | 0,_=>h
 | k+1,a=>(qv_ok (zd3 h k (by omega)) k (4+k) (8+k) (12+k) (by omega) (by omega) (by omega) (by omega)).2.2
def zfc {l:List Wrd} (h:goodW l): ∀k,k<=4->goodW (diagW l k)
 | 0,_=>h
 | k+1,a=>(qv_ok (zfc h k (by omega)) k (4+(k+1) % 4) (8+(k+2) % 4) (12+(k+3) % 4) (by omega) (by omega) (by omega) (by omega)).2.2
def ztR {l:List Wrd} (h:goodW l):goodW (roundW l):=zfc (zd3 h 4 (by omega)) 4 (by omega)
def zdS {l:List Wrd} (h:goodW l): ∀k,goodW (roundsW l k)
 | 0=>h
 | k+1=>ztR (zdS h k)
theorem zwF {l:List Wrd} (h:goodW l):loopO (ρ:=Ctl (List Wrd) ρ) (λ(A:Int × List Wrd)=>if Dc (A.1<4)then Bb (zbK A.2 A.1 (J7 ((4:Int)+A.1)) (J7 ((8:Int)+A.1)) (J7 ((12:Int)+A.1))) λB=>some (.go (J7 (A.1+1),B))else some (.done (.go A.2)))
 ((0:Int),l)=some (.go (colW l 4)):=by
 rw[zh (λk=>((k:Int),colW l k)) 4 (r:=Ctl.go (colW l 4)) ?h0]
 case h0=>rfl
 ·intro k d;have a:J7 ((4:Int)+(k:Int))=((4+k:Nat):Int):=by rw[za];omega
  have b:J7 ((8:Int)+(k:Int))=((8+k:Nat):Int):=by rw[za];omega
  have c:J7 ((12:Int)+(k:Int))=((12+k:Nat):Int):=by rw[za];omega
  simp only[a,b,c,(qv_ok (zd3 h k (by omega)) k (4+k) (8+k) (12+k) (by omega) (by omega) (by omega) (by omega)).1,Og];rw[iP (by grind),za];rfl
 ·rfl
theorem zvG {l:List Wrd} (h:goodW l):loopO (ρ:=Ctl (List Wrd) ρ) (λ(A:Int × List Wrd)=>if Dc (A.1<4)then Bb (zbK A.2 A.1 (J7 ((4:Int)+(Pw (J7 (A.1+1)) 4))) (J7 ((8:Int)+(Pw (J7 (A.1+2)) 4))) (J7 ((12:Int)+(Pw (J7 (A.1+3)) 4)))) λB=>some (.go (J7 (A.1+1),B))else some (.done (.go A.2)))
 ((0:Int),l)=some (.go (diagW l 4)):=by
 rw[zh (λk=>((k:Int),diagW l k)) 4 (r:=Ctl.go (diagW l 4)) ?h0]
 case h0=>rfl
 ·intro k g;have e: ∀(a d:Nat),a<=12->d<=3->J7 ((a:Int)+(Pw (J7 ((k:Int)+(d:Int))) 4))=((a+(k+d) % 4:Nat):Int):=by intro a d i j;rw[za (n:=(k:Int)+(d:Int)),show (k:Int)+(d:Int)=((k+d:Nat):Int) by omega,show (4:Int)=((4:Nat):Int) from rfl,<-Int.ofNat_tmod,za];rfl
  have b:J7 ((4:Int)+(Pw (J7 ((k:Int)+1)) 4))=_:=e 4 1 (by omega) (by omega);have c:J7 ((8:Int)+(Pw (J7 ((k:Int)+2)) 4))=_:=e 8 2 (by omega) (by omega);have f:J7 ((12:Int)+(Pw (J7 ((k:Int)+3)) 4))=_:=e 12 3 (by omega) (by omega);simp only[b,c,f,(qv_ok (zfc h k (by omega)) k (4+(k+1) % 4) (8+(k+2) % 4) (12+(k+3) % 4) (by omega) (by omega) (by omega) (by omega)).1,Og];rw[iP (by grind),za];rfl
 ·rfl
def zvj {l:List Wrd} (h:goodW l) (f:List Int->Option β):((zk (l.map Wrd.v) (0:Int) (4:Int) (8:Int) (12:Int)).bind λA=>
 (zk A 1 5 (9:Int) (13:Int)).bind λB=>
 (zk B 2 6 (10:Int) (14:Int)).bind λD=>
 (zk D 3 7 (11:Int) (15:Int)).bind λE=>
 (zk E 0 5 (10:Int) (15:Int)).bind λF=>
 (zk F 1 6 (11:Int) (12:Int)).bind λG=>
 (zk G 2 7 (8:Int) (13:Int)).bind λI=>
 (zk I 3 4 (9:Int) (14:Int)).bind λJ=>f J)=f ((roundW l).map Wrd.v):=by have a:zk (l.map Wrd.v) (0:Int) (4:Int) (8:Int) (12:Int)=some ((colW l 1).map Wrd.v):=(qv_ok h 0 4 8 12 (by omega) (by omega) (by omega) (by omega)).2.1;have b:zk ((colW l 1).map Wrd.v) (1:Int) (5:Int) (9:Int) (13:Int)=some ((colW l 2).map Wrd.v):=(qv_ok (zd3 h 1 (by omega)) 1 5 9 13 (by omega) (by omega) (by omega) (by omega)).2.1;have c:zk ((colW l 2).map Wrd.v) (2:Int) (6:Int) (10:Int) (14:Int)=some ((colW l 3).map Wrd.v):=(qv_ok (zd3 h 2 (by omega)) 2 6 10 14 (by omega) (by omega) (by omega) (by omega)).2.1;have d:zk ((colW l 3).map Wrd.v) (3:Int) (7:Int) (11:Int) (15:Int)=some ((colW l 4).map Wrd.v):=(qv_ok (zd3 h 3 (by omega)) 3 7 11 15 (by omega) (by omega) (by omega) (by omega)).2.1;have g:=zd3 h 4 (by omega);have e:zk ((colW l 4).map Wrd.v) (0:Int) (5:Int) (10:Int) (15:Int)=some ((diagW (colW l 4) 1).map Wrd.v):=(qv_ok g 0 5 10 15 (by omega) (by omega) (by omega) (by omega)).2.1;have i:zk ((diagW (colW l 4) 1).map Wrd.v) (1:Int) (6:Int) (11:Int) (12:Int)=some ((diagW (colW l 4) 2).map Wrd.v):=(qv_ok (zfc g 1 (by omega)) 1 6 11 12 (by omega) (by omega) (by omega) (by omega)).2.1;have j:zk ((diagW (colW l 4) 2).map Wrd.v) (2:Int) (7:Int) (8:Int) (13:Int)=some ((diagW (colW l 4) 3).map Wrd.v):=(qv_ok (zfc g 2 (by omega)) 2 7 8 13 (by omega) (by omega) (by omega) (by omega)).2.1;have k:zk ((diagW (colW l 4) 3).map Wrd.v) (3:Int) (4:Int) (9:Int) (14:Int)=some ((diagW (colW l 4) 4).map Wrd.v):=(qv_ok (zfc g 3 (by omega)) 3 4 9 14 (by omega) (by omega) (by omega) (by omega)).2.1;simp only[a,b,c,d,e,i,j,k,Og];rfl
def kN (s:J2) (i:Nat):Nat:=((zT s ((4*i:Nat):Int)).getD 0).toNat
def kN_ok (s:J2) (i:Nat) (h:4*i+3<s.length) (hs:s.length<=1048576):zT s ((4*i:Nat):Int)=some (kN s i:Int)/\zeu s ((4*i:Nat):Int)=some (kN s i:Int)/\kN s i<4294967296:=by
 obtain ⟨n,a,b,c⟩:=ztL s (4*i) h hs;have e:kN s i=n:=by unfold kN;simp_all
 simp_all
def selW (k i n:Nat):Wrd:=bif Nat.blt i k then Wrd.mk (n:Int) else Wrd.mk 0
def firstK (key:J2) (k:Nat):List Wrd:=[Wrd.mk 1634760805,Wrd.mk 857760878,Wrd.mk 2036477234,Wrd.mk 1797285236,selW k 0 (kN key 0),selW k 1 (kN key 1),selW k 2 (kN key 2),selW k 3 (kN key 3),selW k 4 (kN key 4),selW k 5 (kN key 5),selW k 6 (kN key 6),selW k 7 (kN key 7),Wrd.mk 0,Wrd.mk 0,Wrd.mk 0,Wrd.mk 0]
def firstN (key:J2) (counter:Int) (nonce:J2) (k:Nat):List Wrd:=[Wrd.mk 1634760805,Wrd.mk 857760878,Wrd.mk 2036477234,Wrd.mk 1797285236,Wrd.mk (kN key 0:Int),Wrd.mk (kN key 1:Int),Wrd.mk (kN key 2:Int),Wrd.mk (kN key 3:Int),Wrd.mk (kN key 4:Int),Wrd.mk (kN key 5:Int),Wrd.mk (kN key 6:Int),Wrd.mk (kN key 7:Int),Wrd.mk counter,selW k 0 (kN nonce 0),selW k 1 (kN nonce 1),selW k 2 (kN nonce 2)]
def zrP (key:J2) (counter:Int) (nonce:J2) (f:key.length=32) (g:0<=counter/\counter<=4294967295) (i:nonce.length=12):zeJ key counter nonce=some (firstN key counter nonce 3):=by
 unfold zeJ;have c:IntKind.u32.wrap counter=counter:=by rw[wrap32];omega
 have hl: ∀l:List Wrd,l.length=16->lenIs 16 l=some ():=λl h=>by unfold lenIs;simp_all
 rw[hl _ rfl];rw[zh (λk=>((k:Int),firstK key k)) 8 (r:=Ctl.go (firstK key 8)) ?h0]
 case h0=>rfl
 ·simp only[ze];simp only[Og,Ok,c];rw[zh (λk=>((k:Int),firstN key counter nonce k)) 3 (r:=Ctl.go (firstN key counter nonce 3)) ?h1]
  case h1=>rfl
  ·rfl
  ·intro k j;have a:J7 ((4:Int)*(k:Int))=((4*k:Nat):Int):=by rw[za];omega
   have d:J7 ((13:Int)+(k:Int))=((13+k:Nat):Int):=by rw[za];omega
   simp only[a,d,(kN_ok nonce k (by omega) (by omega)).2.1,Og,zb (firstN key counter nonce k) (13+k) (by show 13+k<16;omega),Ok];have b:k=0\/k=1\/k=2:=by omega
   rcases b with rfl | rfl | rfl<;>rfl
  ·rfl
 ·intro k m;have a:J7 ((4:Int)*(k:Int))=((4*k:Nat):Int):=by rw[za];omega
  have e:J7 ((4:Int)+(k:Int))=((4+k:Nat):Int):=by rw[za];omega
  simp only[a,e,(kN_ok key k (by omega) (by omega)).2.1,Og,zb (firstK key k) (4+k) (by show 4+k<16;omega),Ok];have b:k=0\/k=1\/k=2\/k=3\/k=4\/k=5\/k=6\/k=7:=by omega
  rcases b with rfl | rfl | rfl | rfl | rfl | rfl | rfl | rfl<;>rfl
 ·rfl
def zku (key:J2) (counter:Int) (nonce:J2) (f:key.length=32) (g:0<=counter/\counter<=4294967295) (h:nonce.length=12):goodW (firstN key counter nonce 3):=by refine ⟨rfl,?_⟩;have a: ∀i,i<8->kN key i<4294967296:=λi hi=>(kN_ok key i (by omega) (by omega)).2.2;have b: ∀i,i<3->kN nonce i<4294967296:=λi hi=>(kN_ok nonce i (by omega) (by omega)).2.2;have j:=a 0 (by omega);have k:=a 1 (by omega);have l:=a 2 (by omega);have m:=a 3 (by omega);have n:=a 4 (by omega);have o:=a 5 (by omega);have p:=a 6 (by omega);have q:=a 7 (by omega);have s:=b 0 (by omega);have t:=b 1 (by omega);have u:=b 2 (by omega);have s0:selW 3 0 (kN nonce 0)=Wrd.mk (kN nonce 0:Int):=rfl;have d:selW 3 1 (kN nonce 1)=Wrd.mk (kN nonce 1:Int):=rfl;have e:selW 3 2 (kN nonce 2)=Wrd.mk (kN nonce 2:Int):=rfl;intro x c;unfold firstN at c;rw[s0,d,e]at c;simp only[Ql,List.not_mem_nil,or_false]at c;rcases c with rfl | rfl | rfl | rfl | rfl | rfl | rfl | rfl | rfl | rfl | rfl | rfl | rfl | rfl | rfl | rfl<;>simp only<;>omega
def bytes4 (n:Nat):J2:=[toU8 (n:Int),toU8 ((n / 256:Nat):Int),toU8 ((n / 65536:Nat):Int),toU8 ((n / 16777216:Nat):Int)]
def outW (w s:List Wrd):Nat->J2
 | 0=>[]
 | k+1=>outW w s k++(match w[k]?,s[k]? with | some x,some y=>bytes4 ((x.v+y.v).toNat % 4294967296) | _,_=>[])
def zmU (w s:List Wrd) (k:Nat) (a:k<w.length) (hs:k<s.length):outW w s (k+1)=outW w s k++bytes4 ((w[k].v+s[k].v).toNat % 4294967296):=by show outW w s k++(match w[k]?,s[k]? with | some x,some y=>_ | _,_=>_)=_;simp_all
def zlF (w s:List Wrd) (a:w.length=16) (hs:s.length=16): ∀k,k<=16->(outW w s k).length=4*k
 | 0,_=>rfl
 | k+1,b=>by rw[zmU w s k (by omega) (by omega),Ol,zlF w s a hs k (by omega)];rfl
def zlT (n:Nat):toU8 ((n % 256:Nat):Int)=toU8 (n:Int):=by unfold toU8;simp
def chaR (key:J2) (counter:Int) (nonce:J2):J2:=outW (roundsW (firstN key counter nonce 3) 10) (firstN key counter nonce 3) 16
def chaOk (key:J2) (counter:Int) (nonce:J2):Bool:=Dc (key.length=32)&&(Dc (nonce.length=12)&&Dc (0<=counter/\counter<=4294967295))
def chaV (key:J2) (counter:Int) (nonce:J2):J2:=bif chaOk key counter nonce then chaR key counter nonce else []
def zgv (h:chaOk key counter nonce=true):key.length=32/\nonce.length=12/\0<=counter/\counter<=4294967295:=by unfold chaOk at h;simp_all
def zjk (key:J2) (counter:Int) (nonce:J2) (h:chaOk key counter nonce=true):(chaV key counter nonce).length=64:=by obtain ⟨a,b,c⟩:=zgv h;have g:=zku key counter nonce a c b;unfold chaV chaR;rw[h];exact zlF _ _ (zdS g 10).1 g.1 16 (Ov _)
theorem zl1 (key:J2) (counter:Int) (nonce:J2):zg4 key counter nonce=some (chaOk key counter nonce):=by unfold zg4 chaOk;have a:Dc ((key.length:Int)=32)=Dc (key.length=32):=decide_eq_decide.2 (by omega);have b:Dc ((nonce.length:Int)=12)=Dc (nonce.length=12):=decide_eq_decide.2 (by omega);rw[a,b,z6];grind
theorem zjp (key:J2) (counter:Int) (nonce:J2):zek key counter nonce=some (chaV key counter nonce):=by
 unfold zek chaV;rw[zl1];cases c:chaOk key counter nonce with
 | false=>rfl
 | true=>
   obtain ⟨h1,a,b⟩:=zgv c;have g:=zku key counter nonce h1 b a;have hl: ∀l:List Wrd,l.length=16->lenIs 16 l=some ():=λl h=>by unfold lenIs;simp_all
   simp only[Og,Om,Oh,iF,cT,zrP key counter nonce h1 b a,hl _ g.1];unfold chaR;generalize firstN key counter nonce 3=s at g;rw[zh (λk=>((k:Int),roundsW s k)) 10 (r:=Ctl.go (roundsW s 10)) ?h0]
   case h0=>rfl
   ·have A:=zdS g 10;simp only[ze,show mkLen 1 64=some 64 from rfl,Og];rw[zh (λk=>((k:Int),outW (roundsW s 10) s k)) 16 (r:=Ctl.go (outW (roundsW s 10) s 16)) ?h1]
    case h1=>rfl
    ·rfl
    ·intro k d;obtain ⟨n,D,i⟩:=zgE A.2 k (by rw[A.1];trivial);obtain ⟨m,B,j⟩:=zgE g.2 k (by rw[g.1];omega);have e:=zlF (roundsW s 10) s A.1 g.1 k (by omega);simp only[hl _ A.1,zb (roundsW s 10) k (by rw[A.1];omega),zb s k (by rw[g.1];omega),Og,D,B];have f:IntKind.u32.wrap ((n:Int)+(m:Int))=(((n+m) % 4294967296:Nat):Int):=by rfl
     rw[f,show (8:Int)=((8:Nat):Int) from rfl,show (24:Int)=((24:Nat):Int) from rfl,zcP (by decide),zcP (by decide)];rw[show ishr .u32 (((n+m) % 4294967296:Nat):Int) (16:Int)=_ from zcP (n:=16) (by decide)];rw[iP (by simp;omega),za,zf (by simp;omega) (by rw[e];simp;omega)];rw[zmU _ _ k (by rw[A.1];omega) (by rw[g.1];omega),D,B];rfl
    ·rfl
   ·intro k d;have E:=zdS g k;simp only[zwF E,ze,zvG (zd3 E 4 (by omega))];rw[iP (by grind),za];rfl
   ·simp
def zqb {x:Option α} {a:α} {r:Option β} (h:x=some a) (b:f a=r):x.bind f=r:=by rw[h];exact b
theorem zgr (key:J2) (counter:Int) (nonce:J2):zct key counter nonce=some (chaV key counter nonce):=by
 unfold zct chaV;have A:Dc ((key.length:Int)=32)=Dc (key.length=32):=decide_eq_decide.2 (by omega);have B:Dc ((nonce.length:Int)=12)=Dc (nonce.length=12):=decide_eq_decide.2 (by omega);rw[A,B,zbe];cases o:chaOk key counter nonce with
 | false=>unfold chaOk at o;grind
 | true=>
   obtain ⟨h1,h2,p⟩:=zgv o;have g:=zku key counter nonce h1 p h2;rw[dT h1,dT h2,dT p];unfold zjO chaR;rw[zh (λk=>((k:Int),((firstN key counter nonce 3).map Wrd.v).take (4+k))) 8 (r:=Ctl.go (((firstN key counter nonce 3).map Wrd.v).take 12)) ?h0]
   case h0=>rfl
   ·have C:zT nonce 0=some (kN nonce 0:Int):=(kN_ok nonce 0 (by omega) (by omega)).1;have D:zT nonce 4=some (kN nonce 1:Int):=(kN_ok nonce 1 (by omega) (by omega)).1;have E:zT nonce 8=some (kN nonce 2:Int):=(kN_ok nonce 2 (by omega) (by omega)).1;have F:app 8 (((firstN key counter nonce 3).map Wrd.v).take 12) [counter,(kN nonce 0:Int),(kN nonce 1:Int),(kN nonce 2:Int)]=some ((firstN key counter nonce 3).map Wrd.v):=by rfl
    have t2:app 8 ([]:List Int) ((firstN key counter nonce 3).map Wrd.v)=some ((firstN key counter nonce 3).map Wrd.v):=by rfl
    simp only[ze,C,D,E,Og,F,t2];generalize firstN key counter nonce 3=s at g;rw[zh (λk=>((k:Int),(roundsW s k).map Wrd.v)) 10 (r:=Ctl.go ((roundsW s 10).map Wrd.v)) ?h1]
    case h1=>rfl
    ·have T:=zdS g 10;simp only[ze];generalize roundsW s 10=w at T;rw[zh (λk=>((k:Int),outW (w) s k)) 16 (r:=Ctl.go (outW (w) s 16)) ?h2]
     case h2=>rfl
     ·rfl
     ·intro k q;have t:k<(w).length:=by rw[T.1];trivial
      have u:k<s.length:=by rw[g.1];trivial
      obtain ⟨n,W,R⟩:=zgE T.2 k t;obtain ⟨m,V,S⟩:=zgE g.2 k u;have y:=zlF (w) s T.1 g.1 k (by omega);have G:idx ((w).map Wrd.v) (k:Int)=some (n:Int):=by rw[zb _ k (by simp_all)];simp_all
      have H:idx (s.map Wrd.v) (k:Int)=some (m:Int):=by rw[zb _ k (by simp_all)];simp only[Rv,V]
      have I:J7 ((n:Int)+(m:Int))=((n+m:Nat):Int):=by rw[za];omega
      have J:(n+m) % 4294967296<4294967296:=Qv _ (by decide);have z:zbM (J7 ((n:Int)+(m:Int)))=some (((n+m) % 4294967296:Nat):Int):=by rw[I];exact zmK (by omega)
      generalize K:(n+m) % 4294967296=x at J z;rw[iP (by simp only[decide_eq_true_eq];omega)];refine zqb G (zqb H (zqb z ?_));have L:toU8 (iand .i64 (x:Int) (255:Int))=toU8 (x:Int):=by rw[show (255:Int)=((255:Nat):Int) from rfl,iand64 (by omega) (by decide),show x &&& 255=x % 256 from Pi x 8,zlT]
      have M:toU8 (iand .i64 (ishr .i64 (x:Int) (8:Int)) 255)=toU8 ((x / 256:Nat):Int):=by rw[show ishr .i64 (x:Int) (8:Int)=((x / 256:Nat):Int) from zcP (n:=8) (by decide),show (255:Int)=((255:Nat):Int) from rfl,iand64 (by omega) (by decide),show x / 256 &&& 255=x / 256 % 256 from Pi _ 8,zlT]
      have N:toU8 (iand .i64 (ishr .i64 (x:Int) (16:Int)) 255)=toU8 ((x / 65536:Nat):Int):=by rw[show ishr .i64 (x:Int) (16:Int)=((x / 65536:Nat):Int) from zcP (n:=16) (by decide),show (255:Int)=((255:Nat):Int) from rfl,iand64 (by omega) (by decide),show x / 65536 &&& 255=x / 65536 % 256 from Pi _ 8,zlT]
      have O:ishr .i64 (x:Int) (24:Int)=((x / 16777216:Nat):Int):=zcP (n:=24) (by decide);rw[L,M,N,O,za,zf (by rw[y];simp;omega) (by rw[y];simp;omega)];simp only[Og];rw[zmU _ _ k t u,W,V,show ((n:Int)+(m:Int)).toNat=n+m by omega,K];rfl
     ·simp
    ·intro k q;simp only;rw[iP (by simp only[decide_eq_true_eq];omega),za (n:=(k:Int)+1)];exact zvj (zdS g k) (λU=>some (Ctl.go ((k:Int)+1,U)))
    ·simp
   ·intro k q;have P:J7 ((4:Int)*(k:Int))=((4*k:Nat):Int):=by rw[za];omega
    simp only[P,(kN_ok key k (by omega) (by omega)).1,Og];rw[iP (by simp only[decide_eq_true_eq];omega),za,zf (by rw[Po];simp;omega) (by rw[Po];simp;omega)];have Q:k=0\/k=1\/k=2\/k=3\/k=4\/k=5\/k=6\/k=7:=by omega
    unfold firstN;rcases Q with rfl | rfl | rfl | rfl | rfl | rfl | rfl | rfl
    ·generalize kN nonce 0=a;generalize kN nonce 1=b;generalize kN nonce 2=c;generalize kN key 0=d;generalize kN key 1=e;generalize kN key 2=y2;generalize kN key 3=f;generalize kN key 4=h;generalize kN key 5=i;generalize kN key 6=j;generalize kN key 7=l;rfl
    ·generalize kN nonce 0=a;generalize kN nonce 1=b;generalize kN nonce 2=c;generalize kN key 0=d;generalize kN key 1=e;generalize kN key 2=y2;generalize kN key 3=f;generalize kN key 4=h;generalize kN key 5=i;generalize kN key 6=j;generalize kN key 7=l;rfl
    ·generalize kN nonce 0=a;generalize kN nonce 1=b;generalize kN nonce 2=c;generalize kN key 0=d;generalize kN key 1=e;generalize kN key 2=y2;generalize kN key 3=f;generalize kN key 4=h;generalize kN key 5=i;generalize kN key 6=j;generalize kN key 7=l;rfl
    ·generalize kN nonce 0=a;generalize kN nonce 1=b;generalize kN nonce 2=c;generalize kN key 0=d;generalize kN key 1=e;generalize kN key 2=y2;generalize kN key 3=f;generalize kN key 4=h;generalize kN key 5=i;generalize kN key 6=j;generalize kN key 7=l;rfl
    ·generalize kN nonce 0=a;generalize kN nonce 1=b;generalize kN nonce 2=c;generalize kN key 0=d;generalize kN key 1=e;generalize kN key 2=y2;generalize kN key 3=f;generalize kN key 4=h;generalize kN key 5=i;generalize kN key 6=j;generalize kN key 7=l;rfl
    ·generalize kN nonce 0=a;generalize kN nonce 1=b;generalize kN nonce 2=c;generalize kN key 0=d;generalize kN key 1=e;generalize kN key 2=y2;generalize kN key 3=f;generalize kN key 4=h;generalize kN key 5=i;generalize kN key 6=j;generalize kN key 7=l;rfl
    ·generalize kN nonce 0=a;generalize kN nonce 1=b;generalize kN nonce 2=c;generalize kN key 0=d;generalize kN key 1=e;generalize kN key 2=y2;generalize kN key 3=f;generalize kN key 4=h;generalize kN key 5=i;generalize kN key 6=j;generalize kN key 7=l;rfl
    ·generalize kN nonce 0=a;generalize kN nonce 1=b;generalize kN nonce 2=c;generalize kN key 0=d;generalize kN key 1=e;generalize kN key 2=y2;generalize kN key 3=f;generalize kN key 4=h;generalize kN key 5=i;generalize kN key 6=j;generalize kN key 7=l;rfl
   ·simp
def fixV (n:Nat):Nat->J2
 | 0=>[]
 | j+1=>toU8 ((n / 256 ^ j:Nat):Int)::fixV n j
def zoh (n:Nat): ∀j,(fixV n j).length=j
 | 0=>rfl
 | j+1=>by rw[fixV,Qb,zoh n j]
def zmr (n b j:Nat):n / b ^ j / b=n / b ^ (j+1):=by rw[Nat.div_div_eq_div_mul,Rk]
def fixedV (n w:Int):J2:=bif Dc (1<=w/\w<=7)&&(Dc (0<=n)&&Dc (n.toNat / 256 ^ w.toNat=0)) then fixV n.toNat w.toNat else []
theorem zsa (n w:Int) (e:n<=4611686018427387904):zi6 n w=some (fixedV n w):=by
 unfold zi6 fixedV;rw[zbe];by_cases a:1<=w/\w<=7
 ·rw[dT a];by_cases b:0<=n
  ·obtain ⟨m,rfl⟩: ∃m:Nat,n=(m:Int):=⟨n.toNat,by omega⟩;obtain ⟨u,rfl⟩: ∃u:Nat,w=(u:Int):=⟨w.toNat,by omega⟩;rw[dT b,dF];simp only[Og,Om,Oh,iF,Ok];rw[zh (λj=>(((m / 256 ^ j:Nat):Int),fixV m j,(j:Int))) u (r:=Ctl.go (((m / 256 ^ u:Nat):Int),fixV m u)) ?h0]
   case h0=>simp[fixV]
   ·simp only[ze];grind
   ·intro j f;have c:Pw ((m / 256 ^ j:Nat):Int) (256:Int)=((m / 256 ^ j % 256:Nat):Int):=by rfl
    have d:Qy ((m / 256 ^ j:Nat):Int) (256:Int)=((m / 256 ^ (j+1):Nat):Int):=by rw[show (256:Int)=((256:Nat):Int) from rfl,<-Int.ofNat_tdiv,zmr]
    have g:((m / 256 ^ (j+1):Nat):Int)<=(m:Int):=Int.ofNat_le.2 (Rh _ _);have h:(0:Int)<=((m / 256 ^ (j+1):Nat):Int):=Int.natCast_nonneg _;have hl:=zoh m j;simp only[c,d,zlT];rw[iP,za (n:=(j:Int)+1),za];rw[zcg (by grind)];rfl
   ·simp
  ·grind
 ·grind
theorem zrR (n w:Int) (k:n<=4611686018427387904):ziV n w=some (fixedV n w):=by
 unfold ziV fixedV;rw[z6];by_cases a:1<=w/\w<=7
 ·rw[dT a];by_cases b:0<=n
  ·obtain ⟨m,rfl⟩: ∃m:Nat,n=(m:Int):=⟨n.toNat,by omega⟩;obtain ⟨u,rfl⟩: ∃u:Nat,w=(u:Int):=⟨w.toNat,by omega⟩;have c:IntKind.u64.wrap (J7 ((8:Int)*(u:Int)))=((8*u:Nat):Int):=by rw[za,wrap64u];omega
   have d:ishr .i64 (m:Int) ((8*u:Nat):Int)=((m / 256 ^ u:Nat):Int):=by rw[zcP (by show 8*u<=64;omega),Nat.pow_mul]
   have e:Dc (((m / 256 ^ u:Nat):Int)=0)=Dc (m / 256 ^ u=0):=decide_eq_decide.2 (by omega);rw[dT b,dF];simp only[Og,Om,Oh,iF,Ok,c,d,e];by_cases f:m / 256 ^ u=0
   ·rw[dT f];simp only[Om,Oh,iF,Pv,cT];rw[zoF (by omega) (by omega)];simp only[Og];rw[zh (λj=>(((m / 256 ^ j:Nat):Int),(u:Int) - 1 - (j:Int),Rm (u - j) (0:UInt8)++fixV m j)) u (r:=Ctl.go (fixV m u)) ?h0]
    case h0=>rw[za];simp[fixV]
    ·rfl
    ·intro j l;have g:ishr .i64 ((m / 256 ^ j:Nat):Int) (8:Int)=((m / 256 ^ (j+1):Nat):Int):=by rw[show ishr .i64 ((m / 256 ^ j:Nat):Int) (8:Int)=((m / 256 ^ j / 256:Nat):Int) from zcP (n:=8) (by decide),zmr]
     have hl:=zoh m j;have hi:(u:Int) - 1 - (j:Int)=((u - 1 - j:Nat):Int):=by omega
     have h:u - 1 - j<(Rm (u - j) (0:UInt8)++fixV m j).length:=by grind
     have i:(Rm (u - j) (0:UInt8)++fixV m j).set (u - 1 - j) (toU8 ((m / 256 ^ j:Nat):Int))=Rm (u - (j+1)) (0:UInt8)++fixV m (j+1):=by rw[show u - j=(u - (j+1))+1 by omega,List.replicate_succ',Oy,show u - 1 - j=u - (j+1) by omega,Qr _ _ (by simp)];simp[fixV]
     simp only[hi,g,zb _ _ h,Og,Ok,i];rw[iP (by rfl),za];grind
    ·grind
   ·grind
  ·grind
 ·grind
def varN:Nat->Nat->J2
 | 0,n=>[toU8 (n:Int)]
 | f+1,n=>bif Dc (n<128) then [toU8 (n:Int)] else toU8 ((128+n % 128:Nat):Int)::varN f (n / 128)
def zgL {f:Nat} (h:n<128):varN f n= [toU8 (n:Int)]:=by
 cases f with
 | zero=>rfl
 | succ f=>rw[varN,dT h];rfl
def zjh {f:Nat} (h:128<=n):varN (f+1) n=toU8 ((128+n % 128:Nat):Int)::varN f (n / 128):=by rw[varN,dF];rfl
theorem ztp {body:Int × J2->Option (Ctl (Int × J2) (Ctl (Int × J2) J2))} (b: ∀(n:Nat) (A:J2),128<=n->n<562949953421312->A.length<=100->body ((n:Int),A)=some (.go (((n / 128:Nat):Int),A++ [toU8 ((128+n % 128:Nat):Int)]))) (a: ∀(n:Nat) (A:J2),n<128->body ((n:Int),A)=some (.done (.go ((n:Int),A)))):
 ∀(f n:Nat) (A:J2),n<128 ^ (f+1)->n<562949953421312->A.length+f<=100->∃(m:Nat) (B:J2),loopO body ((n:Int),A)=some (.go ((m:Int),B))/\B++ [toU8 (m:Int)]=A++varN f n/\B.length<=100:=by
 intro f;induction f with
 | zero=>
   intro n A c _ d;have e:n<128:=by trivial
   exact ⟨n,A,by rw[zG,a n A e],by rfl,by omega⟩
 | succ f ih=>
   intro n A c g d;by_cases h:n<128
   ·exact ⟨n,A,by rw[zG,a n A h],by rw[zgL h],by omega⟩
   ·have i:n / 128<128 ^ (f+1):=by omega
    obtain ⟨m,B,l,j,k⟩:=ih (n / 128) (A++ [toU8 ((128+n % 128:Nat):Int)]) i (by omega) (by grind);refine ⟨m,B,?_,?_,k⟩
    ·rw[zG,b n A (by omega) g (by omega)];trivial
    ·rw[j,zjh (by omega),Oy];rfl
def varV (n:Int):J2:=bif Dc (0<=n/\n<=562949953421311) then varN 6 n.toNat else []
theorem zh3 (n:Int):zeh n=some (varV n):=by
 unfold zeh varV;rw[zbe];by_cases h:0<=n/\n<=562949953421311
 ·rw[dT h];obtain ⟨m,rfl⟩: ∃m:Nat,n=(m:Int):=⟨n.toNat,by omega⟩;simp only[Og,Om,Oh,iF,cT,Ok];obtain ⟨p,D,a,b,e⟩:=ztp (body:=λ(A:Int × J2)=>if Dc (A.1>=128)then Bb (app 1 A.2 ([toU8 (J7 ((128:Int)+(Pw A.1 128)))])) λB=>some (.go (J7 (Qy A.1 128),B))else some (.done (.go (A.1,A.2)))) (by
   intro n D f g i;have c:Pw (n:Int) (128:Int)=((n % 128:Nat):Int):=by rfl
   have t2:Qy (n:Int) (128:Int)=((n / 128:Nat):Int):=by rfl
   have d:J7 ((128:Int)+((n % 128:Nat):Int))=((128+n % 128:Nat):Int):=by rw[za];omega
   simp only[c,t2,d];rw[iP (by grind),zf (by grind) (by simp;omega),za];rfl) (by
   grind) 6 m [] (by omega) (by omega) (by simp)
  rw[a];simp only[ze];rw[zf (by grind) (by grind),b];rfl
 ·grind
def or128 (m:Nat) (h:m<128):128 ||| m=128+m:=by have:=Rn (i:=7) (b:=m) h 1;simp_all
theorem zkx (n:Int):zgo n=some (varV n):=by
 unfold zgo varV;rw[z6];by_cases h:0<=n/\n<=562949953421311
 ·rw[dT h];obtain ⟨m,rfl⟩: ∃m:Nat,n=(m:Int):=⟨n.toNat,by omega⟩;simp only[Og,Om,Oh,iF,cT,Ok];obtain ⟨p,D,a,b,f⟩:=ztp (body:=λ(A:Int × J2)=>if Dc (A.1>127)then Bb (app 1 A.2 ([toU8 (ior .i64 (128:Int) (iand .i64 A.1 127))])) λB=>some (.go (ishr .i64 A.1 7,B))else some (.done (.go (A.1,A.2)))) (by
   intro n D g i j;have c:iand .i64 (n:Int) (127:Int)=((n % 128:Nat):Int):=by rw[show (127:Int)=((127:Nat):Int) from rfl,iand64 (by omega) (by decide),show n &&& 127=n % 128 from Pi n 7]
   have t2:ishr .i64 (n:Int) (7:Int)=((n / 128:Nat):Int):=zcP (n:=7) (by decide);have d:n % 128<128:=Qv _ (by decide);have e:ior .i64 (128:Int) ((n % 128:Nat):Int)=((128+n % 128:Nat):Int):=by rw[show (128:Int)=((128:Nat):Int) from rfl,ior64 (by decide) (by omega),or128 _ d]
   simp only[c,t2,e];rw[iP (by grind),zf (by grind) (by simp;omega)];rfl) (by
   grind) 6 m [] (by omega) (by omega) (by simp)
  rw[a];simp only[ze];rw[zf (by grind) (by grind),b];rfl
 ·grind
def numV:J2->Nat
 | []=>0
 | x::l=>x.toNat % 128+128*numV l
def zjf: ∀(l:J2),numV l<128 ^ l.length
 | []=>by decide
 | x::l=>by have:=zjf l;have a:x.toNat % 128<128:=Qv _ (by decide);rw[numV,Qb,Rk];omega
def zrn: ∀(l:J2) (x:UInt8),numV (l++ [x])=numV l+128 ^ l.length*(x.toNat % 128)
 | [],x=>by simp[numV]
 | y::l,x=>by rw[Py,numV,numV,zrn l x,Qb,Rk,Nat.mul_add,Tu (128 ^ l.length) 128,Nat.mul_assoc];omega
def readN:Nat->J2->Option (Nat × Nat)
 | 0,_=>none
 | _+1,[]=>none
 | f+1,x::l=>bif Dc (x.toNat<128) then some (x.toNat,1) else match readN f l with
   | some (m,k)=>bif Dc (m=0) then none else some (x.toNat % 128+128*m,k+1)
   | none=>none
def zfK (n:Nat):(toU8 (n:Int)).toNat=n % 256:=by unfold toU8;simp;omega
def znt (x:UInt8):toU8 (x.toNat:Int)=x:=by have:=x.toNat_lt;apply UInt8.toNat_inj.1;rw[zfK];omega
def zns {l:List α} {j:Nat} (a:1<=j) (b:j<=l.length):l.take j≠[]:=by intro e;have:=congrArg Qd e;simp_all
def zoj (f:Nat) (x:UInt8):varN f (numV [x])= [x]↔x.toNat<128:=by
 have a:x.toNat % 128<128:=Qv _ (by decide);rw[show numV [x]=x.toNat % 128 by rfl,zgL a];constructor
 ·intro h;have b:toU8 ((x.toNat % 128:Nat):Int)=x:=by simp_all
  have c:=congrArg Ty b;rw[zfK]at c;omega
 ·intro h;rw[Ps h,znt]
theorem zj2 (f:Nat) (x:UInt8) (l:J2) (hl:l≠[]):varN (f+1) (numV (x::l))=x::l↔128<=x.toNat/\numV l≠0/\varN f (numV l)=l:=by
 have i:x.toNat % 128<128:=Qv _ (by decide);have j:=x.toNat_lt;have c:(x.toNat % 128+128*numV l) % 128=x.toNat % 128:=by omega
 have d:(x.toNat % 128+128*numV l) / 128=numV l:=by omega
 by_cases e:numV l=0
 ·rw[numV,e,zgL (by omega)];simp_all
 ·rw[numV,zjh (by omega),c,d];constructor
  ·intro h;obtain ⟨a,b⟩:=List.cons.inj h;have g:=congrArg Ty a;rw[zfK]at g;grind
  ·rintro ⟨a,_,b⟩;rw[b,show 128+x.toNat % 128=x.toNat by omega,znt]
theorem zdl: ∀(f:Nat) (s:J2) (n k:Nat),readN f s=some (n,k)->1<=k/\k<=f/\k<=s.length/\n=numV (s.take k)/\varN (f - 1) n=s.take k/\∀g j,1<=j->j<=g+1->j<=s.length->varN g (numV (s.take j))=s.take j->j=k
 | 0,s,n,k,h=>by cases h
 | f+1,[],n,k,h=>by cases h
 | f+1,x::l,n,k,h=>by
   rw[readN]at h;by_cases b:x.toNat<128
   ·rw[dT b]at h;simp only[cT,Tc,Tp]at h;obtain ⟨rfl,rfl⟩:=h;have c:x.toNat % 128=x.toNat:=Ps b;refine ⟨Ov _,by omega,by simp,by simp[numV,c],?_,λg j i o q a=>?_⟩
    ·have:=(zoj (f+1 - 1) x).2 b;rw[show numV [x]=x.toNat by trivial]at this;trivial
    ·cases j with
     | zero=>omega
     | succ j=>
       cases j with
       | zero=>rfl
       | succ j=>
         cases g with
         | zero=>omega
         | succ g=>rw[Px]at a;have:=(zj2 g x (l.take (j+1)) (zns (by omega) (by simp_all))).1 a;omega
   ·rw[dF b]at h;simp only[cF]at h;cases d:readN f l with
    | none=>rw[d]at h;cases h
    | some p=>
      obtain ⟨m,k'⟩:=p;rw[d]at h;simp only at h;by_cases c:m=0
      ·simp_all
      ·rw[dF c]at h;simp only[cF,Tc,Tp]at h;obtain ⟨rfl,rfl⟩:=h;obtain ⟨t,z,u,e,v,A⟩:=zdl f l m k' d;have w:l.take k'≠[]:=zns t u;refine ⟨by omega,by omega,by simp_all,by rw[Px,numV,<-e],?_,λg j i o q a=>?_⟩
       ·rw[Px,Sw];obtain ⟨B,rfl⟩: ∃B,f=B+1:=⟨f - 1,by omega⟩;rw[Sw]at v;have:=(zj2 B x (l.take k') w).2 ⟨by omega,by omega,by simp_all⟩;rw[numV,<-e]at this;trivial
       ·cases j with
        | zero=>omega
        | succ j=>
          cases j with
          | zero=>rw[Px,Sf]at a;exact absurd ((zoj g x).1 a) b
          | succ j=>
            cases g with
            | zero=>omega
            | succ g=>
              rw[Px]at a;have y:j+1<=l.length:=by simp_all
              have:=(zj2 g x (l.take (j+1)) (zns (by omega) y)).1 a;grind
theorem zpG: ∀(f:Nat) (s:J2),readN f s=none->∀g j,1<=j->j<=f->j<=g+1->j<=s.length->varN g (numV (s.take j))≠s.take j
 | 0,s,h=>λg j c d=>by omega
 | f+1,[],h=>λg j c d k n=>by simp_all
 | f+1,x::l,h=>by
   intro g j q t u v a;rw[readN]at h;by_cases e:x.toNat<128
   ·simp_all
   ·rw[dF e]at h;simp only[cF]at h;cases j with
    | zero=>omega
    | succ j=>
      cases j with
      | zero=>rw[Px,Sf]at a;exact e ((zoj g x).1 a)
      | succ j=>
        cases g with
        | zero=>omega
        | succ g=>
          rw[Px]at a;have i:j+1<=l.length:=by simp_all
          obtain ⟨w,y,o⟩:=(zj2 g x (l.take (j+1)) (zns (by omega) i)).1 a;cases b:readN f l with
          | none=>exact zpG f l b g (j+1) (by omega) (by omega) (by omega) i o
          | some p=>
            obtain ⟨m,k'⟩:=p;rw[b]at h;simp only at h;by_cases z:m=0
            ·obtain ⟨c,d,k,n,A,B⟩:=zdl f l m k' b;grind
            ·simp_all
def readR:Option (Nat × Nat)->Int × Int
 | some (n,k)=>((n:Int),(k:Int))
 | none=>(0,0)
def readI (n i:Nat):Option (Nat × Nat)->Int × Int
 | some (m,k)=>bif Dc (m=0/\0<i) then (0,0) else (((n+128 ^ i*m:Nat):Int),((i+k:Nat):Int))
 | none=>(0,0)
def zvb (p:Option (Nat × Nat)):readI 0 0 p=readR p:=by
 cases p with
 | none=>rfl
 | some p=>simp[readI,readR]
theorem zva (n i f:Nat) (x:UInt8) (l:J2) (b: ¬x.toNat<128):readI n i (readN (f+1) (x::l))=readI (n+128 ^ i*(x.toNat % 128)) (i+1) (readN f l):=by
 rw[readN,dF b];simp only[cF];cases readN f l with
 | none=>rfl
 | some p=>
   obtain ⟨m,k⟩:=p;simp only;by_cases a:m=0
   ·simp[a,readI]
   ·rw[dF a];simp only[cF,readI];grind
def zyr (n d i:Nat) (h:n<2 ^ (7*i)):n ||| d*2 ^ (7*i)=n+2 ^ (7*i)*d:=by rw[Nat.or_comm,Tu,<-Rn h];omega
def pow128 (i:Nat):128 ^ i=2 ^ (7*i):=by rw[Nat.pow_mul]
def zgV (s:J2) (hs:s.length<=1099511627776):zgU s=some (readR (readN 7 s)):=by
 unfold zgU;obtain ⟨r,l,m⟩:=zbi (ρ:=Ctl Unit (Int × Int)) (s0:=((0:Int),(0:Int))) (body:=λ(S1:Int × Int)=>Bb (if Dc (S1.2<7)then some (Dc (S1.2<(s.length:Int)))else some false) (λ(D:Bool)=>if D=true then Bb (sidx s S1.2) λA=>if Dc (((A.toNat:Nat):Int)>=128)then some (.go (ior .i64 S1.1 (ishl .i64 (J7 (iand .u8 (A.toNat:Int) (127:Int))) (IntKind.u64.wrap (J7 ((7:Int)*S1.2)))),J7 (S1.2+1)))else Bb (if Dc (((A.toNat:Nat):Int)=0)then some (Dc (S1.2>0))else some false) (λ(B:Bool)=>if B=true then some (.done (.done ((0:Int),(0:Int))))else some (.done (.done (ior .i64 S1.1 (ishl .i64 (J7 (iand .u8 (A.toNat:Int) (127:Int))) (IntKind.u64.wrap (J7 ((7:Int)*S1.2)))),J7 (S1.2+1)))))else some (.done (.go ()))))
  (λi S=>S.1=(numV (s.take i):Int)/\S.2=(i:Int)/\i<=s.length/\readR (readN 7 s)=readI (numV (s.take i)) i (readN (7 - i) (s.drop i))) 7 (λr=>r= .done (readR (readN 7 s))\/(r= .go ()/\readR (readN 7 s)=(0,0))) ⟨by simp[numV],rfl,Ra _,by simp[numV,zvb]⟩ (by
    rintro i ⟨n,j⟩ hi ⟨a,b,c,d⟩;simp only at a b;subst a b;rw[d];simp only;rw[dT (by omega:((i:Int)<7))];simp only[iT,Og];by_cases hl:i<s.length
    ·have e:s.drop i=s[i]::s.drop (i+1):=Oi hl;have o:s.take (i+1)=s.take i++ [s[i]]:=by rw[Qi,Pb hl];rfl
     have v:=s[i].toNat_lt;have g:=zjf (s.take i);rw[Po,Qg c,pow128]at g;have p:2 ^ (7*i)<=2 ^ 42:=Pu (by decide) (by omega);have w:s[i].toNat % 128<128:=Qv _ (by decide);have E:iand .u8 (s[i].toNat:Int) (127:Int)=((s[i].toNat % 128:Nat):Int):=by rw[show (127:Int)=((127:Nat):Int) from rfl,iand8 (by omega) (by decide),show s[i].toNat &&& 127=s[i].toNat % 128 from Pi _ 7]
     have F:IntKind.u64.wrap (J7 ((7:Int)*(i:Int)))=((7*i:Nat):Int):=by rw[za,wrap64u];omega
     have x:s[i].toNat % 128*2 ^ (7*i)<=127*2 ^ 42:=Nat.mul_le_mul (by omega) p;have G:ior .i64 (numV (s.take i):Int) (ishl .i64 (J7 ((s[i].toNat % 128:Nat):Int)) ((7*i:Nat):Int))=((numV (s.take i)+128 ^ i*(s[i].toNat % 128):Nat):Int):=by rw[za,ishl64 (by omega) (by omega),ior64 (by omega) (by omega),zyr _ _ _ g,pow128]
     rw[dT (by omega:(i:Int)<(s.length:Int)),zcS s i hl,e];simp only[iT,Og,E,F,G];rw[za,show 7 - i=(7 - (i+1))+1 by omega];by_cases f:s[i].toNat<128
     ·right;refine ⟨_,?_,.inl rfl⟩;rw[dF (by omega: ¬(s[i].toNat:Int)>=128),readN,dT f];simp only[Oh,iF,cT,readI];have q:s[i].toNat % 128=s[i].toNat:=Ps f;rw[q];by_cases t:s[i].toNat=0
      ·by_cases u:0<i
       ·rw[dT (⟨t,u⟩:s[i].toNat=0/\0<i),dT (by omega:(s[i].toNat:Int)=0),dT (by omega:(i:Int)>0)];rfl
       ·rw[dF (by omega: ¬(s[i].toNat=0/\0<i)),dT (by omega:(s[i].toNat:Int)=0),dF (by omega: ¬(i:Int)>0)];rfl
      ·rw[dF (by omega: ¬(s[i].toNat=0/\0<i)),dF (by omega: ¬(s[i].toNat:Int)=0)];rfl
     ·left;rw[dT (by omega:(s[i].toNat:Int)>=128)];have k:numV (s.take (i+1))=numV (s.take i)+128 ^ i*(s[i].toNat % 128):=by rw[o,zrn,Po,Qg c]
      refine ⟨(_,_),rfl,by rw[k],by simp,by omega,?_⟩;rw[zva _ _ _ _ _ f,k]
    ·right;have e:s.drop i= []:=List.drop_eq_nil_of_le (by omega);rw[dF (by omega: ¬(i:Int)<(s.length:Int)),e,show 7 - i=(7 - (i+1))+1 by omega];exact ⟨.go (),rfl,.inr ⟨rfl,rfl⟩⟩) (by
    rintro ⟨n,j⟩ ⟨a,b,c,d⟩;simp only at a b;subst a b;exact ⟨.go (),rfl,.inr ⟨rfl,d⟩⟩)
 rw[l];rcases m with rfl | ⟨rfl,h⟩
 ·rfl
 ·rw[h];rfl
def zfa (s:J2) (a b:Nat) (c:a<=b) (d:b<=s.length):ssub s (a:Int) (b:Int)=some ((s.drop a).take (b - a)):=by unfold ssub;simp_all
def zlS (s:J2) (a:Nat) (h:a<=s.length):ssub s (a:Int) (s.length:Int)=some (s.drop a):=by rw[zfa s a s.length h (Ov _),Oo (by simp)]
theorem zw1 (s:J2) (k:Nat) (d:1<=k) (e:k<=7) (f:k<=s.length):
 loopO (ρ:=Ctl Int ρ) (λ(A:Int × Int)=>if Dc (A.2>=0)then Bb (sidx s A.2) λB=>some (.go (J7 (J7 (A.1*128)+(Pw (J7 (B.toNat:Int)) 128)),J7 (A.2 - 1)))else some (.done (.go A.1)))
 ((0:Int),(k:Int) - 1)=some (.go (numV (s.take k):Int)):=by
 have g:(s.take k).length=k:=by simp_all
 rw[zh (λt=>((numV ((s.take k).drop (k - t)):Int),(k:Int) - 1 - (t:Int))) k (r:=Ctl.go (numV (s.take k):Int)) ?h0]
 case h0=>rw[show k - 0=k by omega,Ox (by omega)];simp[numV]
 ·intro t h;have hi:(k:Int) - 1 - (t:Int)=((k - 1 - t:Nat):Int):=by omega
  have b:(s.take k).drop (k - (t+1))=s[k - 1 - t]::(s.take k).drop (k - t):=by rw[show k - (t+1)=k - 1 - t by omega,Oi (by omega),Qm];grind
  have i:=(s[k - 1 - t]).toNat_lt;have a:=zjf ((s.take k).drop (k - t));have hl:((s.take k).drop (k - t)).length=t:=by grind
  rw[hl]at a;have j:128 ^ t<=128 ^ 6:=Pu (by decide) (by omega);have c:Pw (((s[k - 1 - t]).toNat:Nat):Int) (128:Int)=(((s[k - 1 - t]).toNat % 128:Nat):Int):=by rfl
  simp only[hi,zcS s (k - 1 - t) (by omega),Og];rw[iP (by rfl),za (n:=(((s[k - 1 - t]).toNat:Nat):Int)) (by omega) (by omega),c,b,numV];generalize numV ((s.take k).drop (k - t))=z at a;rw[za (n:=(z:Int)*128),za,za];grind
 ·grind
def zpQ (s:J2) (hs:s.length<=1099511627776):ze8 s=some (readR (readN 7 s)):=by
 unfold ze8;obtain ⟨r,a,m⟩:=zbi (ρ:=Ctl Unit (Int × Int)) (s0:=(1:Int)) (body:=λ(S1:Int)=>Bb (if Dc (S1<=7)then some (Dc (S1<=(s.length:Int)))else some false) (λ(G:Bool)=>if G=true then bindC (loopO (λ(A:Int × Int)=>if Dc (A.2>=0)then Bb (sidx s A.2) λD=>some (.go (J7 (J7 (A.1*128)+(Pw (J7 (D.toNat:Int)) 128)),J7 (A.2 - 1)))else some (.done (.go A.1))) ((0:Int),J7 (S1 - 1))) (λ(B:Int)=>Bb (ssub s 0 S1) λE=>Bb (zeh B) λF=>if Dc (F=E)then some (.done (.done (B,S1)))else some (.go (J7 (S1+1))))else some (.done (.go ()))))
  (λi S=>S=((i+1:Nat):Int)/\∀j,1<=j->j<=i->j<=s.length->varN 6 (numV (s.take j))≠s.take j) 7 (λr=>(∃n k,readN 7 s=some (n,k)/\r= .done ((n:Int),(k:Int)))\/(readN 7 s=none/\r= .go ())) ⟨rfl,λj b l=>by omega⟩ (by
    rintro i S hi ⟨rfl,h⟩;rw[dT (by omega:((i+1:Nat):Int)<=7)];simp only[iT,Og];by_cases hl:i+1<=s.length
    ·rw[dT (by omega:((i+1:Nat):Int)<=(s.length:Int)),za (n:=((i+1:Nat):Int) - 1)];simp only[iT];rw[zw1 s (i+1) (by omega) (by omega) hl];have o:ssub s 0 ((i+1:Nat):Int)=some (s.take (i+1)):=zfa s 0 (i+1) (by omega) hl;have q:=zjf (s.take (i+1));rw[Po,Qg hl]at q;have v:128 ^ (i+1)<=128 ^ 7:=Pu (by decide) (by omega);have t:varV (numV (s.take (i+1)):Int)=varN 6 (numV (s.take (i+1))):=by unfold varV;rw[dT,cond_true,Ok]
     simp only[ze,o,Og,zh3,t];by_cases c:varN 6 (numV (s.take (i+1)))=s.take (i+1)
     ·right;rw[dT c];refine ⟨_,rfl,.inl ⟨numV (s.take (i+1)),i+1,?_,rfl⟩⟩;cases a:readN 7 s with
      | none=>exact absurd c (zpG 7 s a 6 (i+1) (by omega) (by omega) (by omega) hl)
      | some p=>obtain ⟨n,k⟩:=p;obtain ⟨_,_,_,d,_,u⟩:=zdl 7 s n k a;have:=u 6 (i+1) (by omega) (by omega) hl c;subst this;rw[d]
     ·left;rw[dF c];refine ⟨_,rfl,by rw[za];omega,λj b l f=>?_⟩;by_cases e:j=i+1
      ·subst e;exact c
      ·exact h j b (by omega) f
    ·right;rw[dF (by omega: ¬((i+1:Nat):Int)<=(s.length:Int))];refine ⟨.go (),rfl,.inr ⟨?_,rfl⟩⟩;cases a:readN 7 s with
     | none=>rfl
     | some p=>obtain ⟨n,k⟩:=p;obtain ⟨b,_,f,d,g,_⟩:=zdl 7 s n k a;rw[d]at g;exact absurd g (h k b (by omega) f)) (by
    rintro S ⟨rfl,h⟩;refine ⟨.go (),rfl,.inr ⟨?_,rfl⟩⟩;cases a:readN 7 s with
    | none=>rfl
    | some p=>obtain ⟨n,k⟩:=p;obtain ⟨b,l,f,d,g,_⟩:=zdl 7 s n k a;rw[d]at g;exact absurd g (h k b l f))
 rw[a];rcases m with ⟨n,k,e,rfl⟩ | ⟨e,rfl⟩
 ·rw[e];rfl
 ·rw[e];rfl
def l6V (s:J2):Nat->Nat->List Int × Int
 | 0,a=>([],(a:Int))
 | n+1,a=>bif Dc (s.length<a) then ([],-1) else match readN 7 (s.drop a) with
   | some (x,k)=>((x:Int)::(l6V s n (a+k)).1,(l6V s n (a+k)).2)
   | none=>([],-1)
def zfG (s:J2) (a n:Nat) (hs:s.length<=1099511627776) (f:n<=1048576) (b:a<=2199023255552):zbz s (a:Int) (n:Int)=some (l6V s n a):=by
 unfold zbz;have key: ∀(m i a:Nat) (A:List Int),i+m=n->A.length=i->a<=2199023255552->
  bindC (loopO (λ(B:Int × Int × List Int)=>if Dc (B.2.1<(n:Int))then Bb (if Dc (B.1<0)then some true else some (Dc (B.1>(s.length:Int)))) (λ(I:Bool)=>if I=true then some (.done (.done (B.2.2,(-1:Int))))else Bb (ssub s B.1 (s.length:Int)) λE=>Bb (ze8 E) λD=>if Dc (D.2=0)then some (.done (.done (B.2.2,(-1:Int))))else Bb (app 8 B.2.2 ([D.1])) λF=>some (.go (J7 (B.1+D.2),J7 (B.2.1+1),F)))else some (.done (.go (B.1,B.2.2))))
 ((a:Int),(i:Int),A)) (λ(G:Int × List Int)=>some (G.2,G.1))=some (A++(l6V s m a).1,(l6V s m a).2):=by
  intro m;induction m with
  | zero=>intro i a A hi c b;rw[zG];simp only;rw[iN (by simp only[decide_eq_true_eq];omega)];simp[l6V]
  | succ m ih=>
    intro i a A hi c b;rw[zG];simp only;rw[iP (by simp only[decide_eq_true_eq];omega),dF (by omega: ¬(a:Int)<0)];simp only[Oh,iF,Og,l6V];by_cases hl:s.length<a
    ·rw[dT hl,dT (by omega:(a:Int)>(s.length:Int))];simp
    ·rw[dF hl,dF (by omega: ¬(a:Int)>(s.length:Int))];simp only[Oh,iF,zlS s a (by omega),Og,zpQ (s.drop a) (by simp;omega),cF];cases d:readN 7 (s.drop a) with
     | none=>simp[readR]
     | some p=>obtain ⟨x,k⟩:=p;obtain ⟨g,h,_⟩:=zdl 7 _ x k d;have e:Dc ((readR (some (x,k))).2=0)=false:=dF (by show ¬(k:Int)=0;omega);rw[e];simp only[Oh,iF,readR];rw[zf (by simp;omega) (by simp;omega)];simp only[Og];rw[za (n:=(a:Int)+(k:Int)),za (n:=(i:Int)+1)];have:=ih (i+1) (a+k) (A++ [(x:Int)]) (by omega) (by simp;omega) (by omega);rw[show ((a:Int)+(k:Int))=((a+k:Nat):Int) by omega,show ((i:Int)+1)=((i+1:Nat):Int) by omega,this,Oy];rfl
 have:=key n 0 a [] (by omega) rfl b;simpa using this
def nonceV (kind n:Int):J2:=bif Dc (0<=kind/\kind<=255)&&Dc (0<=n/\n<=562949953421311) then [toU8 kind,0,0,0,0]++fixedV n 7 else []
theorem zkv (n:Int) (h:0<=n/\n<=562949953421311):(fixedV n 7).length=7:=by unfold fixedV;have a:n.toNat / 256 ^ (7:Int).toNat=0:=Nat.div_eq_of_lt (by grind);rw[dT h.1,dT a];rfl
theorem zhv (kind n:Int):zdV kind n=some (nonceV kind n):=by
 unfold zdV nonceV;rw[zbe,zbe];by_cases b:0<=kind/\kind<=255
 ·by_cases a:0<=n/\n<=562949953421311
  ·rw[dT b,dT a];simp only[Og,Om,Oh,iF,Sp,cT,zsa n 7 (by omega)];rw[zcg (by rw[zkv n a];simp)];rfl
  ·grind
 ·grind
theorem zgT (kind n:Int):zeU kind n=some (nonceV kind n):=by
 unfold zeU nonceV;rw[z6,z6];by_cases b:0<=kind/\kind<=255
 ·by_cases a:0<=n/\n<=562949953421311
  ·rw[dT b,dT a];simp only[Og,Om,Oh,iF,Sp,cT,zrR n 7 (by omega)];rw[zcg (by rw[zkv n a];simp)];rfl
  ·grind
 ·grind
def zto: ∀(f n:Nat),(varN f n).length<=f+1
 | 0,n=>Ov _
 | f+1,n=>by
   by_cases h:n<128
   ·rw[zgL h];simp
   ·rw[zjh (by omega),Qb];have:=zto f (n / 128);omega
def zdy (n:Int):(varV n).length<=7:=by
 unfold varV;cases Dc (0<=n/\n<=562949953421311)
 ·simp
 ·exact zto 6 _
def mintOk (secret:J2) (t e:Int):Bool:=Dc (secret.length=32)&&(Dc (1<=t/\t<=99)&&Dc (0<=e/\e<=1000000))
def zlC {t e:Int} (h:mintOk secret t e=true):secret.length=32/\(1<=t/\t<=99)/\0<=e/\e<=1000000:=by unfold mintOk at h;simp_all
def mintV (secret:J2) (t e:Int):J2:=bif mintOk secret t e then varV t++varV e++(chaV secret e (nonceV 2 t)).take 8 else []
theorem zoE {t e:Int} (h:mintOk secret t e=true):(chaV secret e (nonceV 2 t)).length=64:=by
 obtain ⟨a,b,c⟩:=zlC h;refine zjk _ _ _ ?_;have d:(nonceV 2 t).length=12:=by unfold nonceV;rw[dT (by trivial),dT];simp only[Sp,cT,Ol,zkv t (by omega)];rfl
 unfold chaOk;grind
theorem zfR (secret:J2) (t e:Int):zcK secret t e=some (mintV secret t e):=by
 unfold zcK mintV;have b:Dc ((secret.length:Int)=32)=Dc (secret.length=32):=decide_eq_decide.2 (by omega);rw[b,zbe,zbe];cases a:mintOk secret t e with
 | true=>have g:=zoE a;obtain ⟨c,d,f⟩:=zlC a;have h:=zdy t;have i:=zdy e;rw[dT c,dT d,dT f];simp only[Og,Om,Oh,iF,cT,zh3,zhv,zgr];rw[zcg (by omega)];simp only[Og];rw[show ssub (chaV secret e (nonceV 2 t)) 0 8=some ((chaV secret e (nonceV 2 t)).take 8) from zfa _ 0 8 (by omega) (by omega)];simp only[Og];rw[zcg (by grind)];rfl
 | false=>unfold mintOk at a;grind
theorem zdD (secret:J2) (t e:Int):zcG secret t e=some (mintV secret t e):=by
 unfold zcG mintV zbx zdb;have b:Dc ((secret.length:Int)=32)=Dc (secret.length=32):=decide_eq_decide.2 (by omega);rw[b,z6,z6];cases a:mintOk secret t e with
 | true=>have g:=zoE a;obtain ⟨c,d,f⟩:=zlC a;have h:=zdy t;have i:=zdy e;rw[dT c,dT d,dT f];simp only[Og,Om,Oh,iF,cT,zkx,zgT,zjp];rw[zcg (by omega)];simp only[Og];rw[show ssub (chaV secret e (nonceV 2 t)) 0 8=some ((chaV secret e (nonceV 2 t)).take 8) from zfa _ 0 8 (by omega) (by omega)];simp only[Og];rw[zcg (by grind)];rfl
 | false=>unfold mintOk at a;grind
theorem zih (h:readN 7 s=some (n,k)):varV (n:Int)=s.take k/\k<=s.length/\1<=k/\k<=7:=by obtain ⟨c,a,b,d,f,_⟩:=zdl 7 s n k h;have e:=zjf (s.take k);rw[Po,Qg b,<-d]at e;have g:128 ^ k<=128 ^ 7:=Pu (by decide) a;refine ⟨?_,b,c,a⟩;unfold varV;grind
def tokR (secret s:J2):Int × Int × Bool:=match readN 7 s with
 | none=>(0,0,false)
 | some (t,a)=>match readN 7 (s.drop a) with
   | none=>(0,0,false)
   | some (e,_)=>bif Dc (mintV secret t e=s) then ((t:Int),(e:Int),true) else (0,0,false)
theorem zw0 {t a e k2:Nat} (d:readN 7 s=some (t,a)) (f:readN 7 (s.drop a)=some (e,k2)) (b:mintV secret t e=s):s.length=a+k2+8:=by
 obtain ⟨h,i,j,_⟩:=zih d;obtain ⟨k,g,l,_⟩:=zih f;rw[Pn]at g;unfold mintV at b;cases c:mintOk secret t e with
 | false=>simp_all
 | true=>rw[c]at b;have m:=zoE c;grind
theorem znR (secret s:J2) (hs:s.length<=1099511627776):zfy secret s=some (tokR secret s):=by
 unfold zfy tokR;rw[show zbz s 0 2=some (l6V s 2 0) from zfG s 0 2 hs (by decide) (by decide)];simp only[Og];cases a:readN 7 s with
 | none=>
   have e:l6V s 2 0=([],-1):=by rw[l6V,dF,cond_false,Qt,a]
   simp_all
 | some p=>
   obtain ⟨t,b⟩:=p;obtain ⟨g,h,i,_⟩:=zih a;simp only;cases j:readN 7 (s.drop b) with
   | none=>
     have e:l6V s 2 0=([(t:Int)],-1):=by rw[l6V,dF,cond_false,Qt,a];simp only[Sy,l6V];simp_all
     simp_all
   | some q=>
     obtain ⟨e,k2⟩:=q;have ev:l6V s 2 0=([(t:Int),(e:Int)],((b+k2:Nat):Int)):=by rw[l6V,dF,cond_false,Qt,a];simp only[Sy,l6V];grind
     have c: ¬s= []:=by grind
     have d:idx [(t:Int),(e:Int)] 0=some (t:Int):=rfl;have f:idx [(t:Int),(e:Int)] 1=some (e:Int):=rfl;rw[ev];simp only;rw[dF,dF c];simp only[Oh,iF,d,f,Og,zfR];grind
theorem znz (secret s:J2) (hs:s.length<=1099511627776):zfh secret s=some (tokR secret s):=by
 unfold zfh tokR zbb;simp only[Oh,iF];rw[show ssub s 0 (s.length:Int)=some s from zlS s 0 (Ra _)];simp only[Og,zgV s hs];cases c:readN 7 s with
 | none=>rfl
 | some p=>
   obtain ⟨t,a⟩:=p;obtain ⟨k,f,l,_⟩:=zih c;have g:Dc ((readR (some (t,a))).2=0)=false:=dF (by show ¬(a:Int)=0;omega);rw[g];simp only[Oh,iF,Og,readR];rw[za (n:=(0:Int)+(a:Int)),show (0:Int)+(a:Int)=((a:Nat):Int) by omega,zlS s a f];simp only[Og,zgV (s.drop a) (by grind)];cases d:readN 7 (s.drop a) with
   | none=>rfl
   | some q=>
     obtain ⟨e,k2⟩:=q;obtain ⟨m,h,o,_⟩:=zih d;rw[Pn]at h;have i:Dc ((readR (some (e,k2))).2=0)=false:=dF (by show ¬(k2:Int)=0;omega);rw[i];simp only[Oh,iF,Og,readR];rw[za (n:=(a:Int)+(k2:Int))];unfold zbE zcN;simp only[Oh,iF,Og];rw[za (n:=(s.length:Int) - ((a:Int)+(k2:Int)))];by_cases b:mintV secret t e=s
     ·have hl:=zw0 c d b;rw[dT b,dF];simp only[Oh,iF];rw[za (n:=(a:Int)+(k2:Int)+8),za (n:=(a:Int)+(k2:Int)+8 - 8)];rw[show (a:Int)+(k2:Int)+8 - 8=((a+k2:Nat):Int) by omega,show (a:Int)+(k2:Int)+8=((a+k2+8:Nat):Int) by omega,zfa s (a+k2) (a+k2+8) (by omega) (by omega)];simp only[Og];rw[dT];simp only[Ph,Om,iT,Og,Oh,iF,zdD];simp_all
     ·rw[dF b];by_cases j:(8:Int)>(s.length:Int) - ((a:Int)+(k2:Int))
      ·simp_all
      ·rw[dF j];simp only[Oh,iF];rw[za (n:=(a:Int)+(k2:Int)+8),za (n:=(a:Int)+(k2:Int)+8 - 8)];rw[show (a:Int)+(k2:Int)+8 - 8=((a+k2:Nat):Int) by omega,show (a:Int)+(k2:Int)+8=((a+k2+8:Nat):Int) by omega,zfa s (a+k2) (a+k2+8) (by omega) (by omega)];simp only[Og,zdD];simp_all
def zvA {l:List As} (a:wS zei l<=1048576):l.length<=1048576/\∀c∈l,c.R.length<=1048576/\c.Q.length<=1048576:=by refine ⟨zp4 a,λc b=>?_⟩;have d:c.R.length+(c.g.length+(c.T.length+(wS zfb c.Q+0)))<=1048576:=zwy (w:=zei) a b;exact ⟨by omega,zp4 (w:=zfb) (l:=c.Q) (by omega)⟩
def zwD (l:List As) (h:l.length<=1048576) (b: ∀c∈l,c.R.length<=1048576/\c.Q.length<=1048576):(l.map zd6).sum<=4398071676928/\∀c∈l,zji c:=by
 have d:(l.map zd6).sum<=4194312*l.length:=zds zd6 4194312 λc a=>by have e:(c.Q.map zej).sum<=4*c.Q.length:=zds zej 4 λ_ _=>Sa rfl;have:=(b c a).2;show 6+(c.Q.map zej).sum<=_;omega
 exact ⟨by omega,λc a=>Pr (b c a).2 (by decide)⟩
def zwe (l:List At) (h:l.length<=1048576) (b: ∀c∈l,c.j.length<=1048576):(l.map zbs).sum<=4398071676928/\∀c∈l,zgu c:=by
 have d:(l.map zbs).sum<=4194312*l.length:=zds zbs 4194312 λc a=>by have e:(c.j.map zbQ).sum<=4*c.j.length:=zds zbQ 4 λ_ _=>Sa rfl;have:=b c a;show 3+(c.j.map zbQ).sum<=_;omega
 exact ⟨by omega,λc a=>Pr (b c a) (by decide)⟩
def pieceV (s:J2):J2:=varV (s.length:Int)++s
def zkq (s:J2) (h:s.length<=1099511627776):zd1 s=some (pieceV s):=by unfold zd1 pieceV;have:=zdy (s.length:Int);rw[zh3];simp only[Og];rw[zcg (by omega)];rfl
def zl3 (s:J2) (h:s.length<=1099511627776):zg6 s=some (pieceV s):=by unfold zg6 pieceV;have:=zdy (s.length:Int);rw[zkx];simp only[Og];rw[zcg (by omega)];rfl
def zfv (s:J2):(pieceV s).length<=7+s.length:=by have:=zdy (s.length:Int);unfold pieceV;simp_all
def zoi {α:Type} (g:α->J2) (m:Nat): ∀(l:List α),(∀x∈l,(g x).length<=m)->(l.flatMap g).length<=m*l.length
 | [],_=>by simp
 | x::l,h=>by have a:=h x (by simp);have b:=zoi g m l λy c=>h y (by simp_all);rw[List.flatMap_cons,Ol,Qb,Nat.mul_succ];omega
def zrc (g:α->J2) (l:List α) (k:Nat) (h:k<l.length):(l.take (k+1)).flatMap g=(l.take k).flatMap g++g l[k]:=by rw[Qi,Pb h,List.flatMap_append];simp
theorem zlZ (g:α->J2) (m:Nat) (l:List α) (k:Nat) (h: ∀x∈l,(g x).length<=m):((l.take k).flatMap g).length<=m*l.length:=by have b:=zoi g m (l.take k) λx a=>h x (List.mem_of_mem_take a);have c:m*(l.take k).length<=m*l.length:=Qw _ (by grind);omega
def zx7 (f n:Nat):varN f n≠[]:=by
 by_cases h:n<128
 ·rw[zgL h];simp
 ·cases f with
  | zero=>simp[varN]
  | succ f=>rw[zjh (by omega)];simp
def zx8 {n:Int} (h:0<=n/\n<=562949953421311):varV n≠[]:=by unfold varV;rw[dT h];exact zx7 6 _
theorem zru: ∀(f n:Nat) (rest:J2),n<128 ^ (f+1)->readN (f+1) (varN f n++rest)=some (n,(varN f n).length)
 | 0,n,rest,h=>by
   have a:n<128:=by trivial
   rw[zgL a];show readN 1 (toU8 (n:Int)::rest)=_;rw[readN,zfK,Ps (by omega),dT a];rfl
 | f+1,n,rest,h=>by
   by_cases a:n<128
   ·rw[zgL a];show readN (f+2) (toU8 (n:Int)::rest)=_;rw[readN,zfK,Ps (by omega),dT a];rfl
   ·have b:n / 128<128 ^ (f+1):=by omega
    rw[zjh (by omega),Py,readN,zfK,Ps (by omega),dF,zru f (n / 128) rest b];grind
def zmY (n:Int) (h:0<=n/\n<=562949953421311) (rest:J2):readN 7 (varV n++rest)=some (n.toNat,(varV n).length):=by unfold varV;rw[dT h];exact zru 6 n.toNat rest (by omega)
def zew (h:readN 7 s=some (n,k)):n<562949953421312/\1<=k/\k<=s.length:=by obtain ⟨e,a,b,c,_,_⟩:=zdl 7 s n k h;have d:=zjf (s.take k);rw[Po,Qg b,<-c]at d;have f:128 ^ k<=128 ^ 7:=Pu (by decide) a;omega
def rdN (t:J2) (a:Nat) (bad:Bool):Int × Nat × Bool:=bif bad then (0,a,true) else match readN 7 (t.drop a) with
 | none=>(0,a,true)
 | some (x,k)=>((x:Int),a+k,false)
theorem zig (t:J2) (a:Nat) (bad:Bool) (h:a<=t.length):(0<=(rdN t a bad).1/\(rdN t a bad).1<=562949953421311)/\(rdN t a bad).2.1<=t.length/\((rdN t a bad).2.2=false->bad=false/\a<(rdN t a bad).2.1):=by
 unfold rdN;cases bad with
 | true=>exact ⟨⟨by simp,by simp⟩,h,λe=>by cases e⟩
 | false=>
   cases b:readN 7 (t.drop a) with
   | none=>exact ⟨⟨by simp,by simp⟩,h,λe=>by cases e⟩
   | some p=>obtain ⟨c,d,f⟩:=zew b;grind
theorem zro (t:J2) (a:Nat) (bad:Bool) (h:a<=t.length) (e:t.length<=1099511627776):zbb ⟨t,(a:Int),bad⟩=some ((rdN t a bad).1,⟨t,((rdN t a bad).2.1:Int),(rdN t a bad).2.2⟩):=by
 unfold zbb rdN;cases bad with
 | true=>rfl
 | false=>
   simp only[Oh,iF,zlS t a h,Og,zgV (t.drop a) (by grind),cF];cases b:readN 7 (t.drop a) with
   | none=>rfl
   | some p=>obtain ⟨x,k⟩:=p;obtain ⟨f,g,c⟩:=zew b;rw[Pn]at c;have d:Dc ((readR (some (x,k))).2=0)=false:=dF (by show ¬(k:Int)=0;omega);rw[d];simp only[Oh,iF,readR];rw[za,show (a:Int)+(k:Int)=((a+k:Nat):Int) by omega]
def rdB (t:J2) (a:Nat) (bad:Bool) (n:Int):J2 × Nat × Bool:=bif bad||decide (t.length<a+n.toNat) then ([],a,true) else ((t.drop a).take n.toNat,a+n.toNat,false)
theorem zrp (t:J2) (a:Nat) (bad:Bool) (n:Int) (h:a<=t.length):(rdB t a bad n).2.1<=t.length/\a<=(rdB t a bad n).2.1/\((rdB t a bad n).2.2=false->bad=false):=by unfold rdB;grind
theorem zsq (t:J2) (a:Nat) (bad:Bool) (n:Int) (h:a<=t.length) (b:t.length<=1099511627776) (d:0<=n/\n<=562949953421311):zbE ⟨t,(a:Int),bad⟩ n=some ((rdB t a bad n).1,⟨t,((rdB t a bad n).2.1:Int),(rdB t a bad n).2.2⟩):=by
 unfold zbE rdB;cases bad with
 | true=>rfl
 | false=>
   rw[za (n:=(t.length:Int) - (a:Int))];by_cases c:t.length<a+n.toNat
   ·grind
   ·rw[dF c,dF];rw[za (n:=(a:Int)+n),za (n:=(a:Int)+n - n),show (a:Int)+n - n=(a:Int) by omega,show (a:Int)+n=((a+n.toNat:Nat):Int) by omega,zfa t a (a+n.toNat) (by omega) (by omega)];simp
def rdS (t:J2) (a:Nat) (bad:Bool):J2 × Nat × Bool:=rdB t (rdN t a bad).2.1 (rdN t a bad).2.2 (rdN t a bad).1
def zs9 (t:J2) (a:Nat) (bad:Bool) (h:a<=t.length) (b:t.length<=1099511627776):zbF ⟨t,(a:Int),bad⟩=some ((rdS t a bad).1,⟨t,((rdS t a bad).2.1:Int),(rdS t a bad).2.2⟩):=by obtain ⟨c,d,_⟩:=zig t a bad h;unfold zbF rdS;rw[zro t a bad h b];simp only[Og];rw[zsq t _ _ _ d b c];rfl
theorem zgH (t:J2) (a:Nat) (bad:Bool) (h:a<=t.length):(rdS t a bad).2.1<=t.length/\((rdS t a bad).2.2=false->bad=false/\a<(rdS t a bad).2.1):=by obtain ⟨c,b,d⟩:=zig t a bad h;obtain ⟨e,f,g⟩:=zrp t (rdN t a bad).2.1 (rdN t a bad).2.2 (rdN t a bad).1 b;unfold rdS;grind
def zdu {x:J2} (h:t.drop a=x++rest):t.drop (a+x.length)=rest:=by rw[<-Tm,h,List.drop_left]
theorem zus {n:Int} (h:t.drop a=varV n++rest) (b:0<=n/\n<=562949953421311):rdN t a false=(n,a+(varV n).length,false):=by unfold rdN;rw[h,zmY n b rest];grind
theorem zut {x:J2} (h:t.drop a=pieceV x++rest) (d:x.length<=1048576) (e:a<=t.length):rdS t a false=(x,a+(pieceV x).length,false):=by
 have b:t.drop a=varV (x.length:Int)++(x++rest):=by rw[h];unfold pieceV;simp
 have c:=zdu b;have hl:=congrArg Qd c;rw[Pn,Ol]at hl;unfold rdS;rw[zus b (by omega)];unfold rdB;simp only[Tn,Ok];by_cases f:x.length=0
 ·have g:=congrArg Qd b;grind
 ·rw[dF];simp only[cF];rw[c,List.take_left];simp only[pieceV,Ol,Nat.add_assoc]
theorem zmM (s:J2): ∀(n a:Nat),a<=s.length->((l6V s n a).2= -1\/∃b:Nat,(l6V s n a).2=(b:Int)/\b<=s.length/\(l6V s n a).1.length=n)/\∀x∈(l6V s n a).1,0<=x/\x<=562949953421311
 | 0,a,h=>⟨.inr ⟨a,rfl,h,rfl⟩,λx c=>by trivial⟩
 | n+1,a,h=>by
   rw[l6V,dF,cond_false];cases d:readN 7 (s.drop a) with
   | none=>exact ⟨.inl rfl,λx c=>by trivial⟩
   | some p=>obtain ⟨x,k⟩:=p;obtain ⟨f,g,e⟩:=zew d;rw[Pn]at e;obtain ⟨i,j⟩:=zmM s n (a+k) (by omega);grind
def zuj (s:J2): ∀(l:List Int) (a:Nat) (rest:J2),(∀x∈l,0<=x/\x<=1000000)->a<=s.length->s.drop a=l.flatMap varV++rest->l6V s l.length a=(l,((a+(l.flatMap varV).length:Nat):Int))
 | [],a,rest,_,_,_=>by rfl
 | x::l,a,rest,c,f,h=>by
   have b:s.drop a=varV x++(l.flatMap varV++rest):=by simp_all
   have d:=zdu b;have g:=c x (by simp);have hl:=congrArg Qd b;rw[Pn,Ol]at hl;have e:a+(varV x).length<=s.length:=by omega
   rw[Qb,l6V,dF,cond_false,b,zmY x (by omega)];simp only;rw[zuj s l (a+(varV x).length) rest (λy i=>c y (by simp_all)) e d];simp;omega
def zp0 (s:J2) (n:Int) (a:0<n):zbz s (-1) n=some ([],-1):=by unfold zbz;rw[zG];simp_all
def takeB (s:J2) (a:Nat):J2 × Int:=match readN 7 (s.drop a) with
 | none=>([],-1)
 | some (x,k)=>bif Dc (x<=s.length - (a+k)) then ((s.drop (a+k)).take x,((a+k+x:Nat):Int)) else ([],-1)
theorem zn9 (s:J2) (a:Nat) (h:a<=s.length):(takeB s a).2= -1\/∃b:Nat,(takeB s a).2=(b:Int)/\b<=s.length:=by
 unfold takeB;cases d:readN 7 (s.drop a) with
 | none=>exact .inl rfl
 | some p=>
   obtain ⟨x,k⟩:=p;obtain ⟨f,g,e⟩:=zew d;rw[Pn]at e;simp only;by_cases c:x<=s.length - (a+k)
   ·rw[dT c];exact .inr ⟨a+k+x,rfl,by omega⟩
   ·grind
def zpZ (s:J2):zdw s (-1)=some ([],-1):=by unfold zdw;rw[zp0 s 1 (by omega)];rfl
theorem zfF (s:J2) (a:Nat) (h:a<=s.length) (hs:s.length<=1048576):zdw s (a:Int)=some (takeB s a):=by
 unfold zdw takeB;rw[show zbz s (a:Int) (1:Int)=some (l6V s 1 a) from zfG s a 1 (by omega) (by decide) (by omega)];simp only[Og,l6V];rw[dF (by omega: ¬s.length<a),cond_false];cases b:readN 7 (s.drop a) with
 | none=>rfl
 | some p=>
   obtain ⟨x,k⟩:=p;obtain ⟨f,g,d⟩:=zew b;rw[Pn]at d;simp only;rw[dF];have e:idx [(x:Int)] 0=some (x:Int):=rfl;simp only[Oh,iF,e,Og];rw[za (n:=(s.length:Int) - ((a+k:Nat):Int))];by_cases c:x<=s.length - (a+k)
   ·rw[dT c,dF];rw[za,show ((a+k:Nat):Int)+(x:Int)=((a+k+x:Nat):Int) by omega,zfa s (a+k) (a+k+x) (by omega) (by omega)];simp
   ·grind
def zm7 {x:J2} (h:s.drop a=pieceV x++rest) (c:x.length<=1048576) (d:a+(pieceV x).length<=s.length):takeB s a=(x,((a+(pieceV x).length:Nat):Int)):=by
 have b:s.drop a=varV (x.length:Int)++(x++rest):=by rw[h];unfold pieceV;simp
 have e:=zdu b;have f:(pieceV x).length=(varV (x.length:Int)).length+x.length:=by unfold pieceV;simp
 unfold takeB;rw[b,zmY (x.length:Int) (by omega)];simp only[Ok];rw[dT];simp_all;omega
def zbX {body:τ->Option (Ctl τ (Ctl ρ R))} {s0:τ} {f:ρ->Option R} (G:Option R->Prop) (I:Nat->τ->Prop) (n:Nat) (Q:Ctl ρ R->Prop) (a:I 0 s0) (h: ∀k s,k<n->I k s->(∃A,body s=some (.go A)/\I (k+1) A)\/(∃r,body s=some (.done r)/\Q r)) (b: ∀s,I n s->∃r,body s=some (.done r)/\Q r) (c: ∀r,Q r->G (bindC (some r) f)):G (bindC (loopO body s0) f):=by obtain ⟨r,d,e⟩:=zbi I n Q a h b;simp_all
theorem zf1 (s:Ad):sharesV s=true↔(0<=s.G/\s.G<=1000)/\s.j.length<=4/\(∀x∈s.j,(1<=x.q/\x.q<=99)/\(0<=x.S/\x.S<=1000))/\s.j.Pairwise (λa b=>a.q<b.q)/\allNeed s<=s.G:=by
 constructor
 ·intro c;have hl:=zrz c;unfold sharesV at c;simp only[Oq,Pa,decide_eq_true_eq]at c;refine ⟨c.1,c.2.1,λx g=>?_,?_,c.2.2.2⟩
  ·obtain ⟨k,e,rfl⟩:=On g;have:=c.2.2.1 k (by simp_all);rw[zkj s.j k e]at this;simp_all
  ·rw[Pe];grind
 ·rintro ⟨h,i,l,f,m⟩;rw[Pe]at f;unfold sharesV;rw[dT h,dT i,dT m];simp only[Pv,Sm,Pa];intro k e;have d:k<s.j.length:=by simp_all
  obtain ⟨n,o⟩:=l _ (Pq d);rw[zkj s.j k d,dT n,dT o];by_cases p:0<k
  ·rw[dif_pos p];exact dT (f (k - 1) k (by omega) d (by omega))
  ·simp_all
theorem zrN (s:Ad) (t q:Int) (b:sharesV s=true) (h:s.j.length<=1048576): ∃L M R:List A5,s.j=L++(M++R)/\(∀y∈L,y.q<t)/\(∀y∈R,t<y.q)/\(M= []\/∃m:A5,M= [m]/\m.q=t)/\
 zby s t q=some (if sharesV ⟨s.G,L++(⟨t,q⟩::R)⟩=true then (⟨s.G,L++(⟨t,q⟩::R)⟩,true) else (s,false)):=by
 have f:=((zf1 s).1 b).2.1;obtain ⟨j,c,g,k,l⟩:=ziu s t b h;have B: ∀y∈s.j.take j,y.q<t:=by intro y d;obtain ⟨i,hi,rfl⟩:=On d;grind
 have E: ∀D,(∀i (hi:i<s.j.length),D<=i->t<s.j[i].q)->∀y∈s.j.drop D,t<y.q:=by intro D A y d;obtain ⟨i,hi,rfl⟩:=On d;simp_all
 rcases l with ⟨o,n,a⟩ | ⟨n,a⟩
 ·have A: ∀i (hi:i<s.j.length),j+1<=i->t<s.j[i].q:=λi hi p=>k i hi (by omega);exact ⟨s.j.take j,[s.j[j]],s.j.drop (j+1),by simp,B,E _ A,.inr ⟨_,rfl,a⟩,zeg s t q j (j+1) b f c (.inr rfl) (by omega) g A (λ_ _=>a)⟩
 ·exact ⟨s.j.take j,[],s.j.drop j,by simp,B,E _ a,.inl rfl,zeg s t q j j b f c (.inl rfl) c g a (λe=>by omega)⟩
theorem zn1 (p:A5->Bool): ∀l:List A5,((l.filter p).map λx=>needV x.S).sum<=(l.map λx=>needV x.S).sum
 | []=>by simp
 | x::l=>by have a:=zn1 p l;have b:=zhZ x.S;grind
def strB (key:J2) (counter:Int) (nonce:J2) (i:Nat):UInt8:=(chaV key (counter+((i / 64:Nat):Int)) nonce).getD (i % 64) 0
def xorV (key:J2) (counter:Int) (nonce text:J2):J2:=text.mapIdx λi x=>x ^^^ strB key counter nonce i
def streamOk (key:J2) (counter:Int) (nonce:J2) (n:Nat):Bool:=chaOk key counter nonce&&Dc (n=0\/counter+(((n - 1) / 64:Nat):Int)<=4294967295)
def streamV (key:J2) (counter:Int) (nonce text:J2):J2:=bif streamOk key counter nonce text.length then xorV key counter nonce text else []
def zb6 (key:J2) (counter:Int) (nonce text:J2):(xorV key counter nonce text).length=text.length:=by unfold xorV;rw[List.length_mapIdx]
def znv (key:J2) (counter:Int) (nonce text:J2) (i:Nat) (h:i<text.length):(xorV key counter nonce text)[i]'(by rw[zb6];exact h)=text[i] ^^^ strB key counter nonce i:=by unfold xorV;simp
def zxo (x y:UInt8):x ^^^ y ^^^ y=x:=by rw[UInt8.xor_assoc,UInt8.xor_self,UInt8.xor_zero]
def zvp (key:J2) (counter:Int) (nonce text:J2):xorV key counter nonce (xorV key counter nonce text)=text:=by
 apply Te
 ·rw[zb6,zb6]
 ·intro i b a;rw[znv _ _ _ _ i (by rw[zb6];trivial),znv _ _ _ _ i a,zxo]
theorem zsr (h:chaOk key counter nonce=true) (k:Nat) (a:counter+(k:Int)<=4294967295):chaOk key (counter+(k:Int)) nonce=true:=by obtain ⟨b,c,d,e⟩:=zgv h;unfold chaOk;grind
def zt5 (h:chaOk key counter nonce=false):chaV key counter nonce= []:=by unfold chaV;rw[h];rfl
def zt4 (h:chaOk key counter nonce=true):chaV key counter nonce≠[]:=by intro e;have:=zjk key counter nonce h;simp_all
theorem zuA (k j:Nat) (a:j<64) (h:chaOk key (counter+(k:Int)) nonce=true):strB key counter nonce (64*k+j)=(chaV key (counter+(k:Int)) nonce)[j]'(by rw[zjk _ _ _ h];trivial):=by unfold strB;grind
def zrG (z:List α) (m:Nat) (h:m<z.length):z.take (m+1)=z.take m++ [z[m]]:=by simp
theorem zvh (key:J2) (counter:Int) (nonce text:J2) (b:text.length<=1099511627776) (k:Nat) (d:64*k<text.length) (h:chaOk key (counter+(k:Int)) nonce=true):
 loopO (ρ:=Ctl J2 ρ) (λ(A:Int × J2)=>Bb (if Dc (A.1<(text.length:Int))then some (Dc (A.1<((64*k+64:Nat):Int)))else some false) (λ(F:Bool)=>if F=true then Bb (sidx text A.1) λB=>Bb (sidx (chaV key (counter+(k:Int)) nonce) (J7 (A.1 - ((64*k:Nat):Int)))) λD=>Bb (app 1 A.2 ([(B ^^^ D)])) λE=>some (.go (J7 (A.1+1),E))else some (.done (.go A.2)))) (((64*k:Nat):Int),(xorV key counter nonce text).take (64*k))=some (.go ((xorV key counter nonce text).take (64*(k+1)))):=by
 have f:=zb6 key counter nonce text;refine zci (λj S=>S=(((64*k+j:Nat):Int),(xorV key counter nonce text).take (64*k+j))) (min 64 (text.length - 64*k)) _ rfl ?_ ?_
 ·rintro j _ g rfl;left;have hi:64*k+j<text.length:=by omega
  rw[dT,dT];have a:((64*k+j:Nat):Int) - ((64*k:Nat):Int)=(j:Int):=by omega
  rw[a,za (n:=(j:Int))];rw[zcS text _ hi];rw[zcS _ j (by rw[zjk _ _ _ h];omega)];simp only[Og];rw[zf (by grind) (by grind),za];refine ⟨_,rfl,?_⟩;rw[show 64*k+(j+1)=(64*k+j)+1 from rfl,zrG _ _ (by omega),znv _ _ _ _ _ hi,zuA k j (by omega) h];rfl
 ·rintro _ rfl;by_cases c:64*k+64<=text.length
  ·grind
  ·have e:64*k+min 64 (text.length - 64*k)=text.length:=by omega
   grind
theorem ziH (key:J2) (counter:Int) (nonce text:J2) (c:text.length<=1099511627776):zdT key counter nonce text=some (streamV key counter nonce text):=by
 unfold zdT streamV streamOk;rw[zgr];simp only[Og];cases a:chaOk key counter nonce with
 | false=>rw[zt5 a];rfl
 | true=>
   rw[dF (zt4 a)];obtain ⟨_,_,l,m⟩:=zgv a;obtain ⟨r,d,e⟩:=zbi (ρ:=Ctl J2 J2) (s0:=((0:Int),([]:J2))) (body:=λ(B:Int × J2)=>if Dc (B.1<(text.length:Int))then Bb (zct key (J7 (counter+(J7 (Qy B.1 64)))) nonce) λD=>if Dc (D=([]))then some (.done (.done ([])))else bindC (loopO (λ(A:Int × J2)=>Bb (if Dc (A.1<(text.length:Int))then some (Dc (A.1<J7 (B.1+64)))else some false) (λ(J:Bool)=>if J=true then Bb (sidx text A.1) λE=>Bb (sidx D (J7 (A.1 - B.1))) λF=>Bb (app 1 A.2 ([(E ^^^ F)])) λG=>some (.go (J7 (A.1+1),G))else some (.done (.go A.2)))) (B.1,B.2)) (λ(I:J2)=>some (.go (J7 (B.1+64),I)))else some (.done (.go B.2)))
    (λk S=>S=(((64*k:Nat):Int),(xorV key counter nonce text).take (64*k))/\(k=0\/counter+((k - 1:Nat):Int)<=4294967295)) ((text.length+63) / 64)
    (λr=>r=bif Dc (text.length=0\/counter+(((text.length - 1) / 64:Nat):Int)<=4294967295) then .go (xorV key counter nonce text) else .done []) ⟨rfl,.inl rfl⟩ (by
    rintro k _ o ⟨rfl,f⟩
    have g:64*k<text.length:=by omega
    have h:Qy ((64*k:Nat):Int) 64=(k:Int):=by simp
    rw[h,za (n:=(k:Int)),za (n:=counter+(k:Int)),za (n:=((64*k:Nat):Int)+64),dT,zgr]
    simp only[iT,Og]
    by_cases i:counter+(k:Int)<=4294967295
    ·left;have b:=zsr a k i;rw[dF (zt4 b)];have j:((64*k:Nat):Int)+64=((64*k+64:Nat):Int):=by omega
     rw[j,zvh key counter nonce text c k g b];simp;omega
    ·right;have b:chaOk key (counter+(k:Int)) nonce=false:=by unfold chaOk;simp_all
     rw[zt5 b];grind) (by
    rintro _ ⟨rfl,f⟩
    rw[dF,Oo (by rw[zb6];omega),dT]
    simp)
   rw[d,e];cases Dc (text.length=0\/counter+(((text.length - 1) / 64:Nat):Int)<=4294967295)<;>rfl
theorem zuR (key:J2) (counter:Int) (nonce text:J2) (i:text.length<=1099511627776) (k:Nat) (l:64*k<text.length) (h:chaOk key (counter+(k:Int)) nonce=true):
 loopO (ρ:=Ctl J2 ρ) (λ(A:Int × J2)=>Bb (if Dc (A.1<64)then some (Dc (J7 (((64*k:Nat):Int)+A.1)<(A.2.length:Int)))else some false) (λ(E:Bool)=>if E=true then Bb (idx A.2 (J7 (((64*k:Nat):Int)+A.1))) λB=>Bb (sidx (chaV key (counter+(k:Int)) nonce) A.1) λD=>some (.go (J7 (A.1+1),(A.2.set ((J7 (((64*k:Nat):Int)+A.1)).toNat) (B ^^^ D))))else some (.done (.go A.2)))) ((0:Int),(xorV key counter nonce text).take (64*k)++text.drop (64*k))=some (.go ((xorV key counter nonce text).take (64*(k+1))++text.drop (64*(k+1)))):=by
 have d:=zb6 key counter nonce text;refine zci (λj S=>S=((j:Int),(xorV key counter nonce text).take (64*k+j)++text.drop (64*k+j))) (min 64 (text.length - 64*k)) _ rfl ?_ ?_
 ·rintro j _ m rfl;left;have hi:64*k+j<text.length:=by omega
  have a:((64*k:Nat):Int)+(j:Int)=((64*k+j:Nat):Int):=by omega
  have hl:((xorV key counter nonce text).take (64*k+j)).length=64*k+j:=by grind
  have b:((xorV key counter nonce text).take (64*k+j)++text.drop (64*k+j)).length=text.length:=by rw[Ol,hl,Pn];omega
  rw[a,za (n:=((64*k+j:Nat):Int)),dT (by omega:(j:Int)<64),b,dT (by omega:((64*k+j:Nat):Int)<(text.length:Int))];rw[zb _ (64*k+j) (by rw[b];exact hi)];rw[zcS _ j (by rw[zjk _ _ _ h];omega)];rw[za,Ok];refine ⟨_,rfl,?_⟩;have f:((xorV key counter nonce text).take (64*k+j)++text.drop (64*k+j))[64*k+j]'(by rw[b];exact hi)=text[64*k+j]:=by simp_all
  rw[f,show 64*k+(j+1)=(64*k+j)+1 from rfl,zrG _ _ (by rw[d];exact hi),znv _ _ _ _ _ hi,zuA k j (by omega) h,Qr _ _ (by omega),hl,Tv,Oi hi,Oy];rfl
 ·rintro _ rfl;by_cases c:64*k+64<=text.length
  ·grind
  ·have e:64*k+min 64 (text.length - 64*k)=text.length:=by omega
   have g:(xorV key counter nonce text).take (64*k+min 64 (text.length - 64*k))++text.drop (64*k+min 64 (text.length - 64*k))=xorV key counter nonce text:=by rw[e,Oo (by omega),Ox (Ov _),Qh]
   rw[g,d,Oo (by omega),Ox (by omega),Qh];have a:((64*k:Nat):Int)+((min 64 (text.length - 64*k):Nat):Int)=(text.length:Int):=by omega
   rw[a,za,dF (by omega: ¬(text.length:Int)<(text.length:Int))];split<;>rfl
theorem ziD (key:J2) (counter:Int) (nonce text:J2) (b:text.length<=1099511627776):zdJ key counter nonce text=some (streamV key counter nonce text):=by
 unfold zdJ streamV streamOk;rw[zl1];cases a:chaOk key counter nonce with
 | false=>rfl
 | true=>
   obtain ⟨_,_,j,l⟩:=zgv a;have d:byteRoom text=some ():=by unfold byteRoom;grind
   have e:Qy ((text.length:Int)+63) 64=(((text.length+63) / 64:Nat):Int):=by rfl
   simp only[Om,Oh,iF,d,Og,Pv];rw[za (n:=(text.length:Int)+63),e,za (n:=(((text.length+63) / 64:Nat):Int)) (by omega) (by omega),za (n:=counter+(((text.length+63) / 64:Nat):Int)) (by omega) (by omega),za (n:=counter+(((text.length+63) / 64:Nat):Int) - 1) (by omega) (by omega)];have f:(if Dc ((((text.length+63) / 64:Nat):Int)>0)=true then (some (Dc (counter+(((text.length+63) / 64:Nat):Int) - 1>4294967295))) else (some false))=some (!Dc (text.length=0\/counter+(((text.length - 1) / 64:Nat):Int)<=4294967295)):=by
    by_cases c:text.length=0
    ·simp_all
    ·rw[dT];by_cases m:counter+(((text.length - 1) / 64:Nat):Int)<=4294967295
     ·simp_all;omega
     ·rw[dT,dF];rfl
   rw[f];cases g:Dc (text.length=0\/counter+(((text.length - 1) / 64:Nat):Int)<=4294967295) with
   | false=>rfl
   | true=>
     have o:=of_decide_eq_true g;rw[zci (ρ:=Ctl J2 J2) (s0:=(counter,(0:Int),text)) (λk S=>S=(counter+(k:Int),((64*k:Nat):Int),(xorV key counter nonce text).take (64*k)++text.drop (64*k))) ((text.length+63) / 64) (.go (xorV key counter nonce text)) (by simp) ?_ ?_]
     ·rfl
     ·rintro k _ p rfl;left;have h:64*k<text.length:=by omega
      have i:=zsr a k (by omega);have hl:((xorV key counter nonce text).take (64*k)++text.drop (64*k)).length=text.length:=by rw[Ol,Po,Pn,zb6];omega
      simp only;rw[hl,dT,zjp];simp only[iT,Og];rw[zuR key counter nonce text b k h i];simp only[ze];rw[za (n:=counter+(k:Int)+1),za (n:=((64*k:Nat):Int)+64)];grind
     ·rintro _ rfl;simp only;rw[Oo (by rw[zb6];omega),Ox (by omega),Qh,zb6,dF];rfl
def ztW {k:J2} {n:Int} {z:J2} (h:streamV k n z t≠[]):(streamV k n z t).length=t.length/\streamV k n z (streamV k n z t)=t:=by
 have a:streamOk k n z t.length=true:=by
  cases b:streamOk k n z t.length with
  | true=>rfl
  | false=>unfold streamV at h;rw[b]at h;exact absurd rfl h
 have e:streamV k n z t=xorV k n z t:=by unfold streamV;simp_all
 rw[e];refine ⟨zb6 _ _ _ _,?_⟩;unfold streamV;rw[zb6,a];exact zvp _ _ _ _
theorem zwP (l:List Ac):entsV l=true↔(∀e∈l,entV e=true)/\l.Pairwise (λa b=>entLt a b=true):=by
 constructor
 ·intro d;refine ⟨λe n=>?_,?_⟩
  ·obtain ⟨k,c,rfl⟩:=On n;have:=zt9 d k c;rw[zgw l k c,Oq]at this;simp_all
  ·rw[Pe];intro i j hi o p;unfold entLt;rcases zgx d j o i p with h | ⟨f,g⟩
   ·simp_all
   ·simp_all
 ·rintro ⟨f,g⟩;rw[Pe]at g;unfold entsV;rw[Pa];intro k c;have m:k<l.length:=by simp_all
  rw[zgw l k m,f _ (Pq m),Pv];grind
def visG (seq:Int):Option J2->List Ac->List KV
 | _,[]=>[]
 | last,e::r=>bif Dc (e.c<=seq)&& !Dc (last=some e.g) then (bif e.M then visG seq (some e.g) r else ⟨e.g,e.J⟩::visG seq (some e.g) r) else visG seq last r
def lastO (p:J2 × Bool):Option J2:=bif p.2 then some p.1 else none
theorem zwx {l:List Ac} (b:entsV l=true) (seq:Int): ∀(d k:Nat),k+d=l.length->visL l seq l.length=visL l seq k++visG seq (lastO (lastS l seq k)) (l.drop k)
 | 0,k,h=>by
   have:k=l.length:=by omega
   subst this;rw[Ru];simp[visG]
 | d+1,k,h=>by
   have a:k<l.length:=by omega
   rw[zwx b seq d (k+1) (by omega),zks l seq k a,zlw l seq k a,Oi a,Oy];congr 1;rw[visG];by_cases hs:l[k].c<=seq
   ·have f:=ztb b a hs;rw[dT hs,Pv];have e:Dc (lastO (lastS l seq k)=some l[k].g)=((lastS l seq k).2&&Dc (l[k].g=(lastS l seq k).1)):=by unfold lastO;grind
    rw[e,<-f];cases visE l seq k with
    | false=>simp
    | true=>cases l[k].M<;>simp[lastO]
   ·have i:visE l seq k=false:=by rw[zfL l seq k a,dF hs,Sd]
    grind
def zyw (a:entsV l=true) (seq:Int):visL l seq l.length=visG seq none l:=by rw[zwx a seq l.length 0 (by omega)];rfl
def stayG (snaps:List Int):Option Ac->Ac->Bool
 | none,_=>true
 | some d,e=>!Dc (d.g=e.g)||snaps.any (λs=>decide (e.c<=s)&&Dc (s<d.c))
def keepG (snaps:List Int):Option Ac->List Ac->List Ac
 | _,[]=>[]
 | p,e::r=>bif stayG snaps p e then e::keepG snaps (some e) r else keepG snaps (some e) r
def prevG (l:List Ac):Nat->Option Ac
 | 0=>none
 | k+1=>l[k]?
def zpE (l:List Ac) (k:Nat):prevG l (k+1)=l[k]?:=rfl
def zx1 (snaps:List Int) (l:List Ac) (k:Nat) (a:k<l.length):stayV snaps l k=stayG snaps (prevG l k) l[k]:=by
 cases k with
 | zero=>rfl
 | succ j=>rw[zjc snaps l j a];rw[zpE,Pb (by omega)];rfl
theorem zui (snaps:List Int) (l:List Ac): ∀(d k:Nat),k+d=l.length->keepT snaps l k d=keepG snaps (prevG l k) (l.drop k)
 | 0,k,h=>by rw[Ox (by omega)];rfl
 | d+1,k,h=>by
   have a:k<l.length:=by omega
   have b:keepT snaps l k 1=if stayV snaps l k=true then [l[k]] else []:=by rw[zlv snaps l k 0 a];rfl
   have c:prevG l (k+1)=some l[k]:=by rw[zpE,Pb a]
   rw[Nat.add_comm d 1,zri,b,zui snaps l d (k+1) (by omega),Oi a,keepG,zx1 snaps l k a,c];grind
def zuF (snaps:List Int) (h:Bool) (a:l.length<=400) (b:entsV l=true):compactR l snaps h=finE h (keepG snaps none l):=by unfold compactR;rw[iP ⟨a,b⟩,zui snaps l l.length 0 (by omega)];rfl
def zmH (snaps:List Int): ∀(p:Option Ac) (l:List Ac),(keepG snaps p l).Sublist l
 | _,[]=>List.Sublist.slnil
 | p,e::r=>by
   rw[keepG];cases stayG snaps p e with
   | true=>exact (zmH snaps (some e) r).cons_cons e
   | false=>exact (zmH snaps (some e) r).cons e
def zq1: ∀l:List Ac,(tid l).2.Sublist l
 | []=>List.Sublist.slnil
 | e::t=>by
   rw[zgt];cases ((tid t).1&&sameK e t)|| !e.M with
   | true=>exact (zq1 t).cons_cons e
   | false=>exact (zq1 t).cons e
def zwQ (b:Bool) (l:List Ac):(finE b l).Sublist l:=by
 cases b with
 | true=>exact zq1 l
 | false=>exact List.Sublist.refl l
theorem zrO {x:List Ac} (h:x.Sublist l) (a:entsV l=true):entsV x=true:=by
 rw[zwP]at a |-
 grind
theorem zvY {a b:Ac} (h:entLt a b=true):sLt a.g b.g=true\/a.g=b.g:=by unfold entLt at h;grind
structure Ord3 {α κ:Type} (lt:α->α->Bool) (K:α->κ):Prop where
 tri: ∀a b,lt a b=true\/K a=K b\/lt b a=true
 irr: ∀a b,K a=K b->lt a b=false
 trans: ∀a b c,lt a b=true->lt b c=true->lt a c=true
def Ord3.asym {lt:α->α->Bool} (o:Ord3 lt K) {a b:α} (h:lt a b=true):lt b a=false:=by
 cases c:lt b a with
 | false=>rfl
 | true=>have:=o.irr a a rfl;rw[o.trans a b a h c]at this;cases this
def Ord3.le_trans {lt:α->α->Bool} (o:Ord3 lt K) {a b c:α} (f:lt b a=false) (g:lt c b=false):lt c a=false:=by
 cases d:lt c a with
 | false=>rfl
 | true=>
   rcases o.tri a b with h | h | h
   ·rw[o.trans c a b d h]at g;cases g
   ·rcases o.tri c b with e | e | e
    ·simp_all
    ·rw[o.irr c a (by simp_all)]at d;cases d
    ·have:=o.trans b c a e d;rw[this]at f;cases f
   ·simp_all
def Ord3.lt_le {lt:α->α->Bool} (o:Ord3 lt K) {a b c:α} (d:lt a b=true) (f:lt c b=false):lt a c=true:=by
 rcases o.tri b c with h | h | h
 ·exact o.trans a b c d h
 ·rcases o.tri a c with e | e | e
  ·trivial
  ·rw[o.irr a b (by simp_all)]at d;cases d
  ·have:=o.trans c a b e d;rw[this]at f;cases f
 ·simp_all
def Ord3.le_lt {lt:α->α->Bool} (o:Ord3 lt K) {a b c:α} (f:lt b a=false) (d:lt b c=true):lt a c=true:=by
 rcases o.tri a b with h | h | h
 ·exact o.trans a b c h d
 ·rcases o.tri a c with e | e | e
  ·trivial
  ·rw[o.irr b c (by simp_all)]at d;cases d
  ·have:=o.trans b c a d e;rw[this]at f;cases f
 ·simp_all
def SrtL (lt:α->α->Bool) (l:List α):Prop:=l.Pairwise λa b=>lt b a=false
def ClsL [DecidableEq κ] (K:α->κ) (r l:List α):Prop:=∀c,r.filter (λx=>decide (K x=c))=l.filter (λx=>decide (K x=c))
def ClsL.refl [DecidableEq κ] (K:α->κ) (l:List α):ClsL K l l:=λ_=>rfl
def ClsL.trans {α κ:Type} [DecidableEq κ] {K:α->κ} {a b c:List α} (d:ClsL K a b) (e:ClsL K b c):ClsL K a c:=λk=>(d k).trans (e k)
def ClsL.append [DecidableEq κ] {a b c d:List α} (e:ClsL K a b) (f:ClsL K c d):ClsL K (a++c) (b++d):=λk=>by rw[Ro,Ro,e k,f k]
def ClsL.perm [DecidableEq κ] [DecidableEq α] {r l:List α} (h:ClsL K r l):r.Perm l:=by rw[List.perm_iff_count];intro a;have b:=congrArg (List.count a) (h (K a));simp_all
def ClsL.length {α κ:Type} [DecidableEq κ] [DecidableEq α] {K:α->κ} {r l:List α} (h:ClsL K r l):r.length=l.length:=h.perm.length_eq
theorem ClsL.swap [DecidableEq κ] {lt:α->α->Bool} (o:Ord3 lt K) {u v:List α} (h: ∀x∈v,∀y∈u,lt x y=true):ClsL K (v++u) (u++v):=by
 intro c;by_cases a: ∃y∈u,K y=c
 ·obtain ⟨y,b,rfl⟩:=a;have:v.filter (λx=>decide (K x=K y))= []:=by rw[Rw];intro x d e;have:=o.irr x y (by simp_all);simp_all
  grind
 ·have:u.filter (λx=>decide (K x=c))= []:=by simp_all
  grind
def SrtL.append {lt:α->α->Bool} {a b:List α} (c:SrtL lt a) (d:SrtL lt b) (h: ∀x∈a,∀y∈b,lt y x=false):SrtL lt (a++b):=Qa.2 ⟨c,d,h⟩
def SrtL.left {lt:α->α->Bool} {a b:List α} (h:SrtL lt (a++b)):SrtL lt a:=(Qa.1 h).1
def SrtL.right {lt:α->α->Bool} {a b:List α} (h:SrtL lt (a++b)):SrtL lt b:=(Qa.1 h).2.1
def SrtL.cross {lt:α->α->Bool} {a b:List α} (h:SrtL lt (a++b)): ∀x∈a,∀y∈b,lt y x=false:=(Qa.1 h).2.2
def SrtL.last {lt:α->α->Bool} (o:Ord3 lt K) {a:List α} (h:SrtL lt a) (d:0<a.length): ∀x∈a,lt (a[a.length - 1]'(by omega)) x=false:=by
 intro x c;obtain ⟨i,hi,rfl⟩:=On c;rcases Pk i (a.length - 1) with b | b
 ·exact (Pe.1 h) i (a.length - 1) hi (by omega) b
 ·have:i=a.length - 1:=by omega
  subst this;exact o.irr _ _ rfl
def SrtL.first {lt:α->α->Bool} (o:Ord3 lt K) {a:List α} (h:SrtL lt a) (c:0<a.length): ∀x∈a,lt x (a[0]'c)=false:=by
 intro x d;obtain ⟨i,hi,rfl⟩:=On d;rcases Nat.eq_zero_or_pos i with b | b
 ·subst b;exact o.irr _ _ rfl
 ·exact (Pe.1 h) 0 i (by omega) hi b
def mergeParts [DecidableEq κ] [DecidableEq α] {lt:α->α->Bool} (o:Ord3 lt K) {a c d b r1 r2:List α} (A:SrtL lt (a++c)) (B:SrtL lt (d++b)) (g: ∀x∈d,∀y∈c,lt x y=true) (t: ∀x∈a,∀y∈b,lt y x=false) (j:SrtL lt r1) (h:ClsL K r1 (a++d)) (k:SrtL lt r2) (i:ClsL K r2 (c++b)):
    SrtL lt (r1++r2)/\ClsL K (r1++r2) ((a++c)++(d++b)):=by
 refine ⟨j.append k ?_,?_⟩
 ·intro x l y m;have n:=h.perm.mem_iff.1 l;have p:=i.perm.mem_iff.1 m;rcases Qk.1 n with e | e<;>rcases Qk.1 p with f | f
  ·exact A.cross x e y f
  ·simp_all
  ·exact o.asym (g x e y f)
  ·exact B.cross x e y f
 ·refine (h.append i).trans ?_;have q:(a++d)++(c++b)=a++((d++c)++b):=by simp
  have s:(a++c)++(d++b)=a++((c++d)++b):=by simp
  rw[q,s];exact (ClsL.refl K a).append ((ClsL.swap o g).append (ClsL.refl K b))
def halve {body:Int × Int->Option (Ctl (Int × Int) (Ctl Int ρ))} (p:Nat->Bool) (a b:Nat) (o:a<=b) (n: ∀i j:Nat,a<=i->i<j->j<=b->body ((i:Int),(j:Int))=some (.go (if p ((i+j) / 2) then ((((i+j) / 2+1:Nat):Int),(j:Int)) else ((i:Int),(((i+j) / 2:Nat):Int))))) (q: ∀i:Nat,a<=i->i<=b->body ((i:Int),(i:Int))=some (.done (.go (i:Int)))):
    ∃c:Nat,a<=c/\c<=b/\(a<c->p (c - 1)=true)/\(c<b->p c=false)/\loopO body ((a:Int),(b:Int))=some (.go (c:Int)):=by
 have key: ∀d i j:Nat,j - i<=d->a<=i->i<=j->j<=b->(a<i->p (i - 1)=true)->(j<b->p j=false)->
  ∃c:Nat,a<=c/\c<=b/\(a<c->p (c - 1)=true)/\(c<b->p c=false)/\loopO body ((i:Int),(j:Int))=some (.go (c:Int)):=by
  intro d
  induction d with
  | zero=>
    intro i j s e t f k l;obtain rfl:i=j:=by omega
    exact ⟨i,e,f,k,l,by rw[zG,q i e f]⟩
  | succ d ih=>
    intro i j s e t f k l;rcases Pk i j with h | h
    ·cases m:p ((i+j) / 2) with
     | true=>obtain ⟨c,g⟩:=ih ((i+j) / 2+1) j (by omega) (by omega) (by omega) f (λ_=>by trivial) l;refine ⟨c,g.1,g.2.1,g.2.2.1,g.2.2.2.1,?_⟩;rw[zG,n i j e h f,m];simp_all
     | false=>obtain ⟨c,g⟩:=ih i ((i+j) / 2) (by omega) e (by omega) (by omega) k (λ_=>m);refine ⟨c,g.1,g.2.1,g.2.2.1,g.2.2.2.1,?_⟩;rw[zG,n i j e h f,m];simp_all
    ·obtain rfl:i=j:=by omega
     simp_all
 exact key (b - a) a b (Ov _) (Ov _) o (Ov _) (λh=>by omega) (λh=>by omega)
theorem znq (X Y Z:List α) (a b:α) (i j:Int) (hi:i=(X.length:Int)) (f:j=((X.length+1+Y.length:Nat):Int)):
 idx (X++a::(Y++b::Z)) i=some a/\idx (X++a::(Y++b::Z)) j=some b/\idx ((X++a::(Y++b::Z)).set i.toNat b) j=some b/\idx ((X++a::(Y++b::Z)).set j.toNat a) i=some a/\
 ((X++a::(Y++b::Z)).set i.toNat b).set j.toNat a=X++b::(Y++a::Z)/\((X++a::(Y++b::Z)).set j.toNat a).set i.toNat b=X++b::(Y++a::Z):=by
 subst hi f;have g: ∀(c:α) (T:List α),idx (X++c::T) (X.length:Int)=some c:=by unfold idx;simp
 have h: ∀(c d:α),idx (X++c::(Y++d::Z)) ((X.length+1+Y.length:Nat):Int)=some d:=by unfold idx;grind
 have k: ∀(c d e:α),(X++c::(Y++d::Z)).set (X.length+1+Y.length) e=X++c::(Y++e::Z):=by intro c d e;rw[Qr _ _ (by omega),show X.length+1+Y.length - X.length=Y.length+1 by omega,List.set_cons_succ,Qr _ _ (Ov _),Tv];rfl
 simp only[Ok];simp_all
def zuf (X Z:List α) (a:α) (i:Int) (hi:i=(X.length:Int)):idx (X++a::Z) i=some a:=by subst hi;unfold idx;simp
def zI {body:τ->Option (Ctl τ (Ctl ρ R))} {s0:τ} {k:ρ->Option R} {A:R} (I:Nat->τ->Prop) (n:Nat) (Q:Ctl ρ R->Prop) (a:I 0 s0) (h: ∀k s,k<n->I k s->(∃B,body s=some (.go B)/\I (k+1) B)\/(∃r,body s=some (.done r)/\Q r)) (b: ∀s,I n s->∃r,body s=some (.done r)/\Q r) (c: ∀r,Q r->bindC (some r) k=some A):bindC (loopO body s0) k=some A:=by obtain ⟨r,d,e⟩:=zbi I n Q a h b;simp_all
def zX (l:List α) (t:Nat) (h:t<l.length):l.take (t+1)=l.take t++ [l[t]]:=by simp
theorem zjQ (P A Q B S:List Ac) (a b n:Int) (d:a=(P.length:Int)) (e:b=((P.length+A.length+Q.length:Nat):Int)) (f:n=(A.length:Int)) (E:B.length=A.length) (hl:P.length+A.length+Q.length+B.length<=4611686018427387904):
 zp (P++(A++(Q++(B++S)))) a b n=some (P++(B++(Q++(A++S)))):=by
 unfold zp;rw[zh (λt=>((t:Int),P++(B.take t++(A.drop t++(Q++(A.take t++(B.drop t++S))))))) A.length (r:=.go (P++(B++(Q++(A++S))))) ?h0]
 case h0=>simp
 ·rfl
 ·intro t c;have D:t<B.length:=by omega
  have g:P++(B.take t++(A.drop t++(Q++(A.take t++(B.drop t++S)))))=(P++B.take t)++A[t]::((A.drop (t+1)++(Q++A.take t))++B[t]::(B.drop (t+1)++S)):=by rw[Oi c,Oi D];simp only[Oy,Py,Pp]
  have h:P++(B.take (t+1)++(A.drop (t+1)++(Q++(A.take (t+1)++(B.drop (t+1)++S)))))=(P++B.take t)++B[t]::((A.drop (t+1)++(Q++A.take t))++A[t]::(B.drop (t+1)++S)):=by rw[zX B t D,zX A t c];simp only[Oy,Py,Pp]
  have i:J7 ((P.length:Int)+(t:Int))=((P.length+t:Nat):Int):=by rw[za];omega
  have j:J7 (((P.length+A.length+Q.length:Nat):Int)+(t:Int))=((P.length+A.length+Q.length+t:Nat):Int):=by rw[za];omega
  have k:J7 ((t:Int)+1)=((t+1:Nat):Int):=by rw[za];omega
  obtain ⟨l,m,o,p,q,s⟩:=znq (P++B.take t) (A.drop (t+1)++(Q++A.take t)) (B.drop (t+1)++S) A[t] B[t] ((P.length+t:Nat):Int) ((P.length+A.length+Q.length+t:Nat):Int)
   (by grind) (by grind)
  simp_all
 ·grind
theorem zwg (P U V S:List Ac) (a m b:Int) (v:a=(P.length:Int)) (w:m=((P.length+U.length:Nat):Int)) (x:b=((P.length+U.length+V.length:Nat):Int)) (O:0<U.length) (T:0<V.length) (hl:P.length+U.length+V.length<=4611686018427387904):
 zN (P++(U++(V++S))) a m b=some (P++(V++(U++S))):=by
 subst v w x;unfold zN;have y:J7 (((P.length+U.length:Nat):Int) - (P.length:Int))=(U.length:Int):=by rw[za];omega
 have z:J7 (((P.length+U.length+V.length:Nat):Int) - ((P.length+U.length:Nat):Int))=(V.length:Int):=by rw[za];omega
 rw[y,z];refine zI (λk s=>∃(i j:Nat) (E F I G:List Ac),s=((i:Int),(j:Int),E++(F++(I++G)))/\F.length=i/\I.length=j/\0<i/\0<j/\E.length+i=P.length+U.length/\E.length+i+j<=P.length+U.length+V.length/\i+j+k<=U.length+V.length/\E++(I++(F++G))=P++(V++(U++S)))
  (U.length+V.length)
  (λr=>∃(i:Nat) (E F I G:List Ac),r= .go ((i:Int),E++(F++(I++G)))/\F.length=i/\I.length=i/\E.length+i=P.length+U.length/\E.length+i+i<=P.length+U.length+V.length/\E++(I++(F++G))=P++(V++(U++S)))
  ⟨U.length,V.length,P,U,V,S,rfl,rfl,rfl,O,T,rfl,Ov _,Ov _,rfl⟩ ?hs ?hf ?hk
 case hs=>
  rintro k _ hk ⟨i,j,E,F,I,G,rfl,g,l,p,q,d,u,C,o⟩
  rcases Qp i j with h | h | h
  ·left;obtain ⟨Q,B,rfl,M⟩: ∃Q B,I=Q++B/\B.length=i:=⟨I.take (j - i),I.drop (j - i),(Oz _ _).symm,by grind⟩;rw[Ol]at l;have f:J7 (((P.length+U.length:Nat):Int) - (i:Int))=(E.length:Int):=by rw[za];omega
   have D:J7 (J7 (((P.length+U.length:Nat):Int)+(j:Int)) - (i:Int))=((E.length+F.length+Q.length:Nat):Int):=by rw[za (n:=((P.length+U.length:Nat):Int)+(j:Int)),za];omega
   have t:J7 ((j:Int) - (i:Int))=((j - i:Nat):Int):=by rw[za];omega
   refine ⟨((i:Int),((j - i:Nat):Int),E++(B++(Q++(F++G)))),?_,i,j - i,E,B,Q,F++G,rfl,M,by omega,p,by omega,d,by omega,by omega,?_⟩
   ·have c:=zjQ E F Q B G _ _ _ f D (show (i:Int)=(F.length:Int) by omega) (by omega) (by omega);have e:E++(F++(Q++B++G))=E++(F++(Q++(B++G))):=by simp
    simp only[e,c,t,Og];rw[iP (by grind),iN (by grind)];rfl
   ·rw[<-o];simp
  ·right;subst h;refine ⟨.go ((i:Int),E++(F++(I++G))),?_,i,E,F,I,G,rfl,g,l,d,u,o⟩;simp
  ·left;obtain ⟨A,Q,rfl,J⟩: ∃A Q,F=A++Q/\A.length=j:=⟨F.take j,F.drop j,(Oz _ _).symm,by grind⟩;rw[Ol]at g;have f:J7 (((P.length+U.length:Nat):Int) - (i:Int))=(E.length:Int):=by rw[za];omega
   have t:J7 ((i:Int) - (j:Int))=((i - j:Nat):Int):=by rw[za];omega
   refine ⟨(((i - j:Nat):Int),(j:Int),(E++I)++(Q++(A++G))),?_,i - j,j,E++I,Q,A,G,rfl,by omega,J,by omega,q,by grind,by grind,by omega,?_⟩
   ·have c:=zjQ E A Q I G _ ((P.length+U.length:Nat):Int) (j:Int) f (by omega) (by omega) (by omega) (by omega);have e:E++(A++Q++(I++G))=E++(A++(Q++(I++G))):=by simp
    simp only[e,c,t,Og];rw[iP (by grind),iP];simp
   ·rw[<-o];simp
 case hf=>
  rintro _ ⟨i,j,E,F,I,G,rfl,g,l,p,q,d,u,C,o⟩
  omega
 case hk=>
  rintro _ ⟨i,E,F,I,G,rfl,g,l,p,q,d⟩
  simp only[ze]
  have f:J7 (((P.length+U.length:Nat):Int) - (i:Int))=(E.length:Int):=by rw[za];omega
  have c:=zjQ E F [] I G _ ((P.length+U.length:Nat):Int) (i:Int) f (by simp_all) (by omega) (by omega) (by grind)
  simp only[Pp]at c
  rw[c,<-d]
  rfl
def entOrd3:Ord3 entLt (λe:Ac=>(e.g,e.c)) where
 tri a b:=by
  cases h:entLt a b with
  | true=>exact .inl rfl
  | false=>
    by_cases i:a.g=b.g/\a.c=b.c
    ·simp_all
    ·exact .inr (.inr (znY i h))
 irr a b h:=by
  have d:a.g=b.g:=congrArg Prod.fst h
  have f:a.c=b.c:=congrArg Prod.snd h
  unfold entLt
  rw[d,f,zbO]
  simp
 trans a b c d f:=zhU d f
abbrev keyE (e:Ac):J2 × Int:=(e.g,e.c)
def zt7 (a b:Ac):((zw a b).bind λR=>some (Dc (R<0)))=some (entLt a b):=by obtain ⟨r,c,d,_⟩:=zd7 a b;simp_all
theorem zpn (P M S:List Ac) (a b:Int) (n:a=(P.length:Int)) (o:b=((P.length+M.length:Nat):Int)) (hl:P.length+M.length+S.length<=4611686018427387904):
 ∃R,zm (P++(M++S)) a b=some (P++(R++S))/\SrtL entLt R/\ClsL keyE R M:=by
 subst n o;unfold zm;have w0:J7 ((P.length:Int)+1)=((P.length+1:Nat):Int):=by rw[za];omega
 refine zbX (τ:=Int × List Ac) (ρ:=List Ac) (R:=List Ac) (λx=>∃R,x=some (P++(R++S))/\SrtL entLt R/\ClsL keyE R M)
  (λk s=>∃R,s=(((P.length+(k+1):Nat):Int),P++(R++(M.drop (k+1)++S)))/\SrtL entLt R/\ClsL keyE R (M.take (k+1))) (M.length - 1)
  (λr=>∃R,r= .go (P++(R++S))/\SrtL entLt R/\ClsL keyE R M) ⟨M.take 1,?_,?_,ClsL.refl _ _⟩ ?_ ?_ ?_
 ·have e:M.take 1++(M.drop 1++S)=M++S:=by rw[<-Oy,Oz]
  simp_all
 ·cases M with
  | nil=>exact List.Pairwise.nil
  | cons x M0=>simp[SrtL]
 ·rintro k _ A ⟨R,rfl,hs,d⟩;left;have h:k+1<M.length:=by omega
  have hRl:R.length=k+1:=by rw[d.length,Po];omega
  have B:M.drop (k+1)=M[k+1]::M.drop (k+2):=Oi h;have i:Dc (((P.length+(k+1):Nat):Int)<((P.length+M.length:Nat):Int))=true:=dT;simp only[i,iT];refine zbX (τ:=Int × List Ac) (ρ:=List Ac) (R:=Ctl (Int × List Ac) (Ctl (List Ac) (List Ac)))
   (λx=>∃Z,x=some (.go Z)/\∃W,Z=(((P.length+(k+1+1):Nat):Int),P++(W++(M.drop (k+1+1)++S)))/\SrtL entLt W/\ClsL keyE W (M.take (k+1+1)))
   (λt s=>∃U T,R=U++T/\U.length+t=k+1/\s=(((P.length+U.length:Nat):Int),P++(U++(M[k+1]::(T++(M.drop (k+2)++S)))))/\∀y∈T,entLt M[k+1] y=true) (k+1)
   (λr=>∃U T,R=U++T/\r= .go (P++(U++(M[k+1]::(T++(M.drop (k+2)++S)))))/\(∀y∈T,entLt M[k+1] y=true)/\∀y∈U,entLt M[k+1] y=false)
   ⟨R,[],by simp,by omega,by grind,by simp⟩ ?_ ?_ ?_
  ·rintro t _ j ⟨U,T,rfl,l,rfl,f⟩;have V:0<U.length:=by omega
   obtain ⟨O,y,rfl⟩: ∃O y,U=O++ [y]:=⟨U.dropLast,U.getLast (by grind),(Rl _).symm⟩;rw[Ol,Qe]at l V;have p:J7 (((P.length+(O++ [y]).length:Nat):Int) - 1)=((P.length+O.length:Nat):Int):=by rw[Ol,Qe,za];omega
   obtain ⟨C,D,E,F,G,H⟩:=znq (P++O) [] (T++(M.drop (k+2)++S)) y M[k+1] ((P.length+O.length:Nat):Int) ((P.length+(O++ [y]).length:Nat):Int) (by simp) (by grind);have i:Dc (((P.length+(O++ [y]).length:Nat):Int)>(P.length:Int))=true:=by grind
   cases g:entLt M[k+1] y with
   | true=>
     left;refine ⟨(((P.length+O.length:Nat):Int),P++(O++(M[k+1]::((y::T)++(M.drop (k+2)++S))))),?_,O,y::T,by simp,by omega,rfl,?_⟩
     ·have q:=zt7 M[k+1] y;simp_all
     ·simp_all
   | false=>
     right;refine ⟨.go (P++(O++ [y]++(M[k+1]::(T++(M.drop (k+2)++S))))),?_,O++ [y],T,rfl,rfl,f,?_⟩
     ·have q:=zt7 M[k+1] y;simp_all
     ·intro z I;have J:=SrtL.last entOrd3 hs.left (by simp);have:entLt y z=false:=by simp_all
      exact entOrd3.le_trans this g
  ·rintro _ ⟨U,T,rfl,l,rfl,f⟩;have V:U= []:=Pd (by omega);subst V;refine ⟨.go (P++([]++(M[k+1]::(T++(M.drop (k+2)++S))))),?_,[],T,rfl,rfl,f,by simp⟩;simp
  ·rintro _ ⟨U,T,rfl,rfl,g,L⟩;refine ⟨(((P.length+(k+2):Nat):Int),P++((U++M[k+1]::T)++(M.drop (k+2)++S))),?_,U++M[k+1]::T,rfl,?_,?_⟩
   ·have p:J7 (((P.length+(k+1):Nat):Int)+1)=((P.length+(k+2):Nat):Int):=by rw[za];omega
    simp_all
   ·refine hs.left.append ?_ ?_
    ·exact Pl.2 ⟨λy c=>entOrd3.asym (g y c),hs.right⟩
    ·intro x w y c;rcases Ql.1 c with rfl | c
     ·simp_all
     ·exact hs.cross x w y c
   ·have j:M.take (k+2)=M.take (k+1)++ [M[k+1]]:=zX M (k+1) h;rw[show k+1+1=k+2 from rfl,j];have N:U++M[k+1]::T=U++([M[k+1]]++T):=rfl;refine ((ClsL.refl keyE U).append (ClsL.swap (K:=keyE) entOrd3 (u:=T) (v:=[M[k+1]]) ?_)).trans ?_
    ·simp_all
    ·rw[<-Oy];exact d.append (ClsL.refl _ _)
 ·rintro _ ⟨R,rfl,hs,d⟩;have m:M.length - 1+1>=M.length:=by omega
  rw[Oo m]at d;rw[Ox m];grind
 ·simp_all
theorem zlp (X V S:List α) (k:Nat) (i:Int) (hi:i=(k:Int)) (a:X.length<=k) (b:k - X.length<V.length):idx (X++(V++S)) i=some V[k - X.length]:=by unfold idx;grind
theorem zgF {lt:α->α->Bool} {V:List α} (A:SrtL lt V) (q:α->Bool) (c: ∀x y,lt y x=false->q y=true->q x=true) (hi: ∀x,lt x x=false) (k:Nat) (d:k<=V.length):
 ((∀h:0<k,q (V[k - 1]'(by omega))=true)->∀x∈V.take k,q x=true)/\((∀h:k<V.length,q V[k]=false)->∀x∈V.drop k,q x=false):=by
 have e:=Pe.1 A;constructor
 ·intro h x a;obtain ⟨i,b,rfl⟩:=On a;grind
 ·intro h x a;obtain ⟨i,b,rfl⟩:=On a;grind
def zqi {body:Int × Int->Option (Ctl (Int × Int) (Ctl Int R))} {f:Int->Option R} (G:Option R->Prop) (p:Nat->Bool) (a b:Nat) (i j:Int) (hi:i=(a:Int)) (h:j=(b:Int)) (d:a<=b) (e: ∀i j:Nat,a<=i->i<j->j<=b->body ((i:Int),(j:Int))=some (.go (if p ((i+j) / 2) then ((((i+j) / 2+1:Nat):Int),(j:Int)) else ((i:Int),(((i+j) / 2:Nat):Int))))) (g: ∀i:Nat,a<=i->i<=b->body ((i:Int),(i:Int))=some (.done (.go (i:Int)))) (k: ∀c:Nat,a<=c->c<=b->(a<c->p (c - 1)=true)->(c<b->p c=false)->G (f (c:Int))):G (bindC (loopO body (i,j)) f):=by obtain ⟨c,l,m,n,o,q⟩:=halve p a b d e g;simp_all
def zlo (i j:Nat) (h:i+j<=4611686018427387904):J7 (ishr .u64 (IntKind.u64.wrap (J7 ((i:Int)+(j:Int)))) 1)=(((i+j) / 2:Nat):Int):=by rw[zud (by omega) (by omega)];omega
def zoc (a b:Ac) (k:Bool->Option τ):((zw a b).bind λR=>k (Dc (R<0)))=k (entLt a b):=by obtain ⟨r,c,d,_⟩:=zd7 a b;simp_all
theorem zxf (f_:Nat) (P V S:List Ac) (u:Ac) (a m b:Int) (C:a=(P.length:Int)) (D:m=((P.length+1:Nat):Int)) (E:b=((P.length+1+V.length:Nat):Int)) (hl:P.length+1+V.length+S.length<=1048576) (hV:SrtL entLt V):
 ∃R,zd (f_+1) (P++(u::(V++S))) a m b=some (P++(R++S))/\SrtL entLt R/\ClsL keyE R ([u]++V):=by
 subst C D E;rw[zd];have w0:Dc (J7 (((P.length+1:Nat):Int) - (P.length:Int))=1)=true:=by rw[za];exact dT
 simp only[w0,iT];have eX:P++(u::(V++S))=(P++ [u])++(V++S):=by simp
 have lX:(P++ [u]).length=P.length+1:=by simp
 refine zqi (λx=>∃R,x=some (P++(R++S))/\SrtL entLt R/\ClsL keyE R ([u]++V)) (λh=>if g:h - (P.length+1)<V.length then entLt V[h - (P.length+1)] u else false) (P.length+1) (P.length+1+V.length) _ _ rfl rfl (by omega) ?_ ?_ ?_
 ·intro i j F G l;have H:Dc ((i:Int)<(j:Int))=true:=dT;have g:(i+j) / 2 - (P.length+1)<V.length:=by omega
  have n:idx (P++(u::(V++S))) (((i+j) / 2:Nat):Int)=some V[(i+j) / 2 - (P.length+1)]:=by rw[eX,zlp (P++ [u]) V S ((i+j) / 2) _ rfl (by omega) (by omega)];simp
  have f:idx (P++(u::(V++S))) (P.length:Int)=some u:=zuf _ _ _ _ rfl;have I:J7 ((((i+j) / 2:Nat):Int)+1)=(((i+j) / 2+1:Nat):Int):=by rw[za];omega
  simp only[H,iT,zlo i j (by omega),n,f,Og,I,dif_pos g];rw[zoc _ _ (λq=>bindC (if q=true then _ else _) _)];cases entLt V[(i+j) / 2 - (P.length+1)] u<;>rfl
 ·simp
 ·intro c F G l J;obtain ⟨k,rfl⟩: ∃k,c=P.length+1+k:=⟨c - (P.length+1),by omega⟩;have K:k<=V.length:=by omega
  obtain ⟨o,p⟩:=zgF hV (λx=>entLt x u) (λx y h L=>entOrd3.le_lt h L) (λx=>entOrd3.irr x x rfl) k K;have w:=o (λM=>by
   have e:P.length+1+k - 1 - (P.length+1)=k - 1:=by omega
   grind)
  have z:=p (λM=>by simp_all);generalize hV1:V.take k=V1 at w;generalize hV2:V.drop k=V2 at z;have hVe:V=V1++V2:=by rw[<-hV1,<-hV2,Oz]
  have hV1l:V1.length=k:=by grind
  clear hV1 hV2 l J o p;subst hVe;have O:J7 (((P.length+1+k:Nat):Int) - 1)=((P.length+k:Nat):Int):=by rw[za];omega
  refine zbX (τ:=Int × List Ac) (ρ:=List Ac) (R:=List Ac) (λx=>∃R,x=some (P++(R++S))/\SrtL entLt R/\ClsL keyE R ([u]++(V1++V2)))
   (λt s=>s=(((P.length+t:Nat):Int),P++(V1.take t++(u::(V1.drop t++(V2++S)))))) k (λr=>r= .go (P++((V1++u::V2)++S))) ?_ ?_ ?_ ?_
  ·simp
  ·rintro t _ Q rfl;left;have A:t<V1.length:=by omega
   have n:P++(V1.take t++(u::(V1.drop t++(V2++S))))=(P++V1.take t)++u::([]++V1[t]::(V1.drop (t+1)++(V2++S))):=by rw[Oi A];simp only[Oy,Py,Pp]
   have f:P++(V1.take (t+1)++(u::(V1.drop (t+1)++(V2++S))))=(P++V1.take t)++V1[t]::([]++u::(V1.drop (t+1)++(V2++S))):=by rw[zX V1 t A];simp only[Oy,Py,Pp]
   have T:J7 (((P.length+t:Nat):Int)+1)=((P.length+(t+1):Nat):Int):=by rw[za];omega
   obtain ⟨U,W,X,Y,Z,q6⟩:=znq (P++V1.take t) [] (V1.drop (t+1)++(V2++S)) u V1[t] ((P.length+t:Nat):Int) ((P.length+(t+1):Nat):Int)
    (by grind) (by grind)
   simp_all
  ·grind
  ·rintro _ rfl;refine ⟨V1++u::V2,rfl,?_,?_⟩
   ·refine hV.left.append (Pl.2 ⟨λy d=>z y d,hV.right⟩) ?_;intro x B y d;rcases Ql.1 d with rfl | d
    ·exact entOrd3.asym (w x B)
    ·exact hV.cross x B y d
   ·have f:V1++u::V2=(V1++ [u])++V2:=by simp
    have N: [u]++(V1++V2)=([u]++V1)++V2:=by simp
    rw[f,N];refine (ClsL.swap entOrd3 (u:=[u]) (v:=V1) ?_).append (ClsL.refl _ _);simp_all
theorem zwo (f_:Nat) (P U S:List Ac) (v:Ac) (a m b:Int) (B:a=(P.length:Int)) (C:m=((P.length+U.length:Nat):Int)) (D:b=((P.length+U.length+1:Nat):Int)) (hU1:1<U.length) (hl:P.length+1+U.length+S.length<=1048576) (hU:SrtL entLt U):
 ∃R,zd (f_+1) (P++(U++(v::S))) a m b=some (P++(R++S))/\SrtL entLt R/\ClsL keyE R (U++ [v]):=by
 subst B C D;rw[zd];have w0:Dc (J7 (((P.length+U.length:Nat):Int) - (P.length:Int))=1)=false:=by rw[za];exact dF
 have g:Dc (J7 (((P.length+U.length+1:Nat):Int) - ((P.length+U.length:Nat):Int))=1)=true:=by rw[za];exact dT
 simp only[w0,g,iT,Oh,iF];refine zqi (λx=>∃R,x=some (P++(R++S))/\SrtL entLt R/\ClsL keyE R (U++ [v])) (λh=>if l:h - P.length<U.length then !entLt v U[h - P.length] else false) P.length (P.length+U.length) _ _ rfl rfl (by omega) ?_ ?_ ?_
 ·intro i j E F n;have G:Dc ((i:Int)<(j:Int))=true:=dT;have l:(i+j) / 2 - P.length<U.length:=by omega
  have o:idx (P++(U++(v::S))) (((i+j) / 2:Nat):Int)=some U[(i+j) / 2 - P.length]:=zlp P U (v::S) ((i+j) / 2) _ rfl (by omega) (by omega);have e:idx (P++(U++(v::S))) ((P.length+U.length:Nat):Int)=some v:=by rw[<-Oy];exact zuf _ _ _ _ (by simp)
  have g:J7 ((((i+j) / 2:Nat):Int)+1)=(((i+j) / 2+1:Nat):Int):=by rw[za];omega
  simp only[G,iT,zlo i j (by omega),o,e,Og,g,dif_pos l];rw[zoc _ _ (λq=>bindC (if !q then _ else _) _)];cases entLt v U[(i+j) / 2 - P.length]<;>rfl
 ·simp
 ·intro c E F n H;obtain ⟨k,rfl⟩: ∃k,c=P.length+k:=⟨c - P.length,by omega⟩;have I:k<=U.length:=by omega
  obtain ⟨p,w⟩:=zgF hU (λx=>!entLt v x) (λx y h z=>by
   simp only[Qx]at z |-
   exact entOrd3.le_trans h z) (λx=>entOrd3.irr x x rfl) k I
  have J:=p (λK=>by grind);have L:=w (λK=>by simp_all);generalize hU1:U.take k=U1 at J;generalize hU2:U.drop k=U2 at L;have hUe:U=U1++U2:=by rw[<-hU1,<-hU2,Oz]
  have hU1l:U1.length=k:=by grind
  clear hU1 hU2 n H p w;subst hUe;rw[Ol]at*;refine zbX (τ:=Int × List Ac) (ρ:=List Ac) (R:=List Ac) (λx=>∃R,x=some (P++(R++S))/\SrtL entLt R/\ClsL keyE R ((U1++U2)++ [v]))
   (λt s=>s=(((P.length+(U1.length+(U2.length - t)):Nat):Int),P++(U1++(U2.take (U2.length - t)++(v::(U2.drop (U2.length - t)++S)))))) U2.length (λr=>r= .go (P++((U1++v::U2)++S))) ?_ ?_ ?_ ?_
  ·simp
  ·rintro t _ O rfl;left;obtain ⟨d,Q⟩: ∃d,U2.length - t=d+1:=⟨U2.length - t - 1,by omega⟩;have T:U2.length - (t+1)=d:=by omega
   have A:d<U2.length:=by omega
   have o:P++(U1++(U2.take (d+1)++(v::(U2.drop (d+1)++S))))=(P++(U1++U2.take d))++U2[d]::([]++v::(U2.drop (d+1)++S)):=by rw[zX U2 d A];simp only[Oy,Py,Pp]
   have e:P++(U1++(U2.take d++(v::(U2.drop d++S))))=(P++(U1++U2.take d))++v::([]++U2[d]::(U2.drop (d+1)++S)):=by rw[Oi A];simp only[Oy,Py,Pp]
   have V:J7 (((P.length+(U1.length+(d+1)):Nat):Int) - 1)=((P.length+(U1.length+d):Nat):Int):=by rw[za];omega
   obtain ⟨W,X,Y,Z,q5,q6⟩:=znq (P++(U1++U2.take d)) [] (U2.drop (d+1)++S) U2[d] v ((P.length+(U1.length+d):Nat):Int) ((P.length+(U1.length+(d+1)):Nat):Int)
    (by grind) (by grind)
   grind
  ·simp_all
  ·rintro _ rfl;refine ⟨U1++v::U2,rfl,?_,?_⟩
   ·refine hU.left.append (Pl.2 ⟨λy f=>entOrd3.asym (by simp_all),hU.right⟩) ?_;intro x M y f;rcases Ql.1 f with rfl | f
    ·simp_all
    ·exact hU.cross x M y f
   ·have e:U1++v::U2=U1++([v]++U2):=by simp
    have N:(U1++U2)++ [v]=U1++(U2++ [v]):=by simp
    rw[e,N];refine (ClsL.refl _ _).append (ClsL.swap entOrd3 (u:=U2) (v:=[v]) ?_);simp_all
def zok (x y:Bool) (h:Option (List Ac)) (D A:List Ac) (k:List Ac->Option R) (b:x=true->y=true->h=some A) (a: ¬(x=true/\y=true)->D=A):
    ((if x=true then some y else some false).bind λT=>bindC (if T=true then (h.bind λR=>some (.go R)) else some (.go D)) k)=k A:=by
 cases x with
 | false=>rw[a (by simp)];rfl
 | true=>simp_all
theorem ztX: ∀(f_:Nat) (P U V S:List Ac) (a m b:Int) (A M B:Nat) (N:a=(A:Int)) (O:m=(M:Int)) (Q:b=(B:Int)) (hA:A=P.length) (hM:M=A+U.length) (hB:B=M+V.length) (hU0:0<U.length) (hV0:0<V.length)
 (s:U.length+V.length<=2 ^ f_) (hl:P.length+U.length+V.length+S.length<=1048576) (hU:SrtL entLt U) (hV:SrtL entLt V),
 ∃R,zd f_ (P++(U++(V++S))) a m b=some (P++(R++S))/\SrtL entLt R/\ClsL keyE R (U++V):=by
 intro f_;induction f_ with
 | zero=>omega
 | succ f_ ih=>
   intro P U V S a m b A M B N O Q hA hM hB hU0 hV0 s hl hU hV;rcases Pk 1 U.length with hU1 | hU1
   rcases Pk 1 V.length with hV1 | hV1
   ·
    rw[zd];subst N O Q;have w0:Dc (J7 ((M:Int) - (A:Int))=1)=false:=by rw[za];exact dF
    have E:Dc (J7 ((B:Int) - (M:Int))=1)=false:=by rw[za];exact dF
    obtain ⟨D,hD⟩: ∃D,D=(A+B) / 2:=⟨_,rfl⟩;have T:=zlo A B (by omega);rw[<-hD]at T;have Y:J7 ((D:Int)+(M:Int))=((D+M:Nat):Int):=by rw[za];omega
    have Z:J7 (((D+M:Nat):Int) - 1)=((D+M - 1:Nat):Int):=by rw[za];omega
    simp only[w0,E,T,Y,Z,Oh,iF];obtain ⟨s0,g,hs,b1,b2,b3,b4,b5,b6,b7⟩: ∃s0 g:Nat,(if Dc ((M:Int)>(D:Int)) then (some (Ctl.go (ρ:=List Ac) (J7 (((D+M:Nat):Int) - (B:Int)),(D:Int)))) else (some (.go ((A:Int),(M:Int)))))=some (.go ((s0:Int),(g:Int)))/\
     A<=s0/\s0<=g/\g<=M/\g<=D/\D+M<=s0+B/\(g=D\/g=M)/\(s0=A\/s0+B=D+M):=by
     rcases Pk D M with h | h
     ·refine ⟨D+M - B,D,?_,by omega,by omega,by omega,by omega,by omega,by omega,by omega⟩;rw[iP (dT),za];congr 3;omega
     ·refine ⟨A,M,?_,by omega,by omega,by omega,by omega,by omega,by omega,by omega⟩;rw[iN (by simp;omega)]
    rw[hs,ze];clear hs;refine zqi (λx=>∃R,x=some (P++(R++S))/\SrtL entLt R/\ClsL keyE R (U++V)) (λc=>if f:c - A<U.length/\D - 1 - c<V.length then !entLt (V[D - 1 - c]'f.2) (U[c - A]'f.1) else false) s0 g _ _ rfl rfl b2 ?_ ?_ ?_
    ·intro i j t w k;have F:Dc ((i:Int)<(j:Int))=true:=dT;have f:(i+j) / 2 - A<U.length/\D - 1 - (i+j) / 2<V.length:=by omega
     have w5:J7 (((D+M - 1:Nat):Int) - (((i+j) / 2:Nat):Int))=((D+M - 1 - (i+j) / 2:Nat):Int):=by rw[za];omega
     have z:idx (P++(U++(V++S))) (((i+j) / 2:Nat):Int)=some (U[(i+j) / 2 - A]'f.1):=by rw[zlp P U (V++S) ((i+j) / 2) _ rfl (by omega) (by omega)];congr 2;omega
     have C:idx (P++(U++(V++S))) ((D+M - 1 - (i+j) / 2:Nat):Int)=some (V[D - 1 - (i+j) / 2]'f.2):=by rw[<-Oy,zlp (P++U) V S (D+M - 1 - (i+j) / 2) _ rfl (by rw[Ol];omega) (by rw[Ol];omega)];congr 2;rw[Ol];omega
     have E:J7 ((((i+j) / 2:Nat):Int)+1)=(((i+j) / 2+1:Nat):Int):=by rw[za];omega
     simp only[F,iT,zlo i j (by omega),w5,z,C,Og,E,dif_pos f];rw[zoc _ _ (λq=>bindC (if !q then _ else _) _)];cases entLt (V[D - 1 - (i+j) / 2]'f.2) (U[(i+j) / 2 - A]'f.1)<;>rfl
    ·intro i t w;have F:Dc ((i:Int)<(i:Int))=false:=dF;simp only[F];rfl
    ·intro c t w k p;have G:c - A<=U.length:=by omega
     have H:D - c<=V.length:=by omega
     have x1: ∀x∈V.take (D - c),∀y∈U.drop (c - A),entLt x y=true:=by
      rcases Pk c g with l | l
      ·have f:c - A<U.length/\D - 1 - c<V.length:=by omega
       have p:=p l;rw[dif_pos f]at p;simp only[Bool.not_eq_false']at p;have I:=(zgF hV (λx=>entLt x (U[c - A]'f.1)) (λx y h d=>entOrd3.le_lt h d) (λx=>entOrd3.irr x x rfl) (D - c) H).1 (λJ=>by
        have e:D - c - 1=D - 1 - c:=by omega
        simp only[e];exact p)
       intro x n y o;have t2:=(zgF hU (λy=>!entLt x y) (λK y2 h d=>by
        simp only[Qx]at d |-
        cases L:entLt x K with
        | false=>rfl
        | true=>rw[entOrd3.lt_le L h]at d;cases d) (λx=>entOrd3.irr x x rfl) (c - A) G).2 (λJ=>by rw[I x n];rfl) y o
       simpa using t2
      ·intro x n y o;rcases b6 with e | e
       ·have:D - c=0:=by omega
        rw[this]at n;simp at n
       ·grind
     have x2: ∀x∈U.take (c - A),∀y∈V.drop (D - c),entLt y x=false:=by
      rcases Pk s0 c with l | l
      ·have k:=k l;have f:c - 1 - A<U.length/\D - 1 - (c - 1)<V.length:=by refine Decidable.byContradiction λhn=>?_;rw[dif_neg hn]at k;cases k
       rw[dif_pos f]at k;simp only[Qx]at k;have I:=(zgF hV (λy=>entLt y (U[c - 1 - A]'f.1)) (λx y h d=>entOrd3.le_lt h d) (λx=>entOrd3.irr x x rfl) (D - c) H).2 (λJ=>by
        have e:D - c=D - 1 - (c - 1):=by omega
        simp only[e];exact k)
       intro x n y o;have t2:=(zgF hU (λx=>!entLt y x) (λK y2 h d=>by
        simp only[Qx]at d |-
        cases L:entLt y K with
        | false=>rfl
        | true=>rw[entOrd3.lt_le L h]at d;cases d) (λx=>entOrd3.irr x x rfl) (c - A) G).1 (λJ=>by
          have e:c - A - 1=c - 1 - A:=by omega
          simp only[e];rw[I y o];rfl) x n
       simpa using t2
      ·intro x n y o;rcases b7 with e | e
       ·have:c - A=0:=by omega
        rw[this]at n;simp at n
       ·rw[Ox (by omega)]at o;simp at o
     have hUe:U=U.take (c - A)++U.drop (c - A):=(Oz _ _).symm;have hVe:V=V.take (D - c)++V.drop (D - c):=(Oz _ _).symm;have l1:(U.take (c - A)).length=c - A:=by rw[Po];omega
     have l2:(U.drop (c - A)).length=M - c:=by rw[Pn];omega
     have l3:(V.take (D - c)).length=D - c:=by rw[Po];omega
     have l4:(V.drop (D - c)).length=B+c - (D+M):=by rw[Pn];omega
     generalize U.take (c - A)=U1 at*;generalize U.drop (c - A)=U2 at*;generalize V.take (D - c)=V1 at*;generalize V.drop (D - c)=V2 at*;subst hUe hVe;clear k p G H;have w6:J7 (((D+M:Nat):Int) - (c:Int))=((D+M - c:Nat):Int):=by rw[za];omega
     simp only[Ol]at hM hB hl s;obtain ⟨R1,s1,W,q1,q2⟩: ∃R1,SrtL entLt R1/\ClsL keyE R1 (U1++V1)/\
      (Dc ((A:Int)<(c:Int))=true->Dc ((c:Int)<(D:Int))=true->zd f_ (P++(U1++(V1++(U2++(V2++S))))) (A:Int) (c:Int) (D:Int)=some (P++(R1++(U2++(V2++S)))))/\
      (¬(Dc ((A:Int)<(c:Int))=true/\Dc ((c:Int)<(D:Int))=true)->P++(U1++(V1++(U2++(V2++S))))=P++(R1++(U2++(V2++S)))):=by
      by_cases l:A<c/\c<D
      ·obtain ⟨R1,z,C,X⟩:=ih P U1 V1 (U2++(V2++S)) (A:Int) (c:Int) (D:Int) A c D rfl rfl rfl hA (by omega) (by omega) (by omega) (by omega) (by rw[Rk]at s;omega) (by simp only[Ol];omega) hU.left hV.left;exact ⟨R1,C,X,λ_ _=>z,λh=>absurd ⟨dT,dT⟩ h⟩
      ·refine ⟨U1++V1,?_,ClsL.refl _ _,λh d=>absurd ⟨by have:=of_decide_eq_true h;omega,by have:=of_decide_eq_true d;omega⟩ l,λ_=>by simp⟩;have:U1= []\/V1= []:=by
        rcases Pk A c with h | h
        ·exact .inr (Pd (by omega))
        ·exact .inl (Pd (by omega))
       rcases this with e | e
       ·subst e;exact hV.left
       ·subst e;rw[Qh];exact hU.left
     have hR1:R1.length=D - A:=by rw[W.length,Ol];omega
     obtain ⟨R2,s2,k2,q3,q4⟩: ∃R2,SrtL entLt R2/\ClsL keyE R2 (U2++V2)/\
      (Dc ((D:Int)<((D+M - c:Nat):Int))=true->Dc (((D+M - c:Nat):Int)<(B:Int))=true->zd f_ (P++(R1++(U2++(V2++S)))) (D:Int) ((D+M - c:Nat):Int) (B:Int)=some (P++(R1++R2++S)))/\
      (¬(Dc ((D:Int)<((D+M - c:Nat):Int))=true/\Dc (((D+M - c:Nat):Int)<(B:Int))=true)->P++(R1++(U2++(V2++S)))=P++(R1++R2++S)):=by
      by_cases l:D<D+M - c/\D+M - c<B
      ·obtain ⟨R2,z,C,X⟩:=ih (P++R1) U2 V2 S (D:Int) ((D+M - c:Nat):Int) (B:Int) D (D+M - c) B rfl rfl rfl (by rw[Ol];omega) (by omega) (by omega) (by omega) (by omega) (by rw[Rk]at s;omega) (by simp only[Ol];omega) hU.right hV.right;grind
      ·refine ⟨U2++V2,?_,ClsL.refl _ _,λh d=>absurd ⟨by have:=of_decide_eq_true h;omega,by have:=of_decide_eq_true d;omega⟩ l,λ_=>by simp⟩;have:U2= []\/V2= []:=by
        rcases Pk D (D+M - c) with h | h
        ·exact .inr (Pd (by omega))
        ·exact .inl (Pd (by omega))
       rcases this with e | e
       ·subst e;exact hV.right
       ·subst e;rw[Qh];exact hU.right
     refine ⟨R1++R2,?_,mergeParts entOrd3 hU hV x1 x2 s1 W s2 k2⟩;simp only[w6];rw[zok _ _ _ _ (P++(U1++(V1++(U2++(V2++S))))),zok _ _ _ _ _ _ q1 q2,zok _ _ _ _ _ _ q3 q4]
     ·intro h d;have h:=of_decide_eq_true h;have d:=of_decide_eq_true d;have:=zwg (P++U1) U2 V1 (V2++S) (c:Int) (M:Int) ((D+M - c:Nat):Int) (by rw[Ol];omega) (by rw[Ol];omega) (by rw[Ol];omega) (by omega) (by omega) (by rw[Ol];omega);simp only[Oy]at this |-
      exact this
     ·intro h;have:U2= []\/V1= []:=by
       rcases Pk c M with t | t
       ·refine .inr (Pd ?_);rcases Pk M (D+M - c) with w | w
        ·exact absurd ⟨dT,dT⟩ h
        ·omega
       ·exact .inl (Pd (by omega))
      rcases this with e | e
      ·subst e;simp
      ·subst e;simp
   ·obtain ⟨v,rfl⟩: ∃v,V= [v]:=by
     match V,hV0,hV1 with
     | [v],_,_=>exact ⟨v,rfl⟩
    exact zwo f_ P U S v a m b (by omega) (by omega) (by simp only[Qe]at hB;omega) hU1 (by simp only[Qe]at hl;omega) hU
   ·obtain ⟨u,rfl⟩: ∃u,U= [u]:=by
     match U,hU0,hU1 with
     | [u],_,_=>exact ⟨u,rfl⟩
    simp only[Qe]at hl hM;exact zxf f_ P V S u a m b (by omega) (by omega) (by omega) (by omega) hV
theorem zod (P Y A:List α) (i z:Nat) (h:i+z<=P.length):((P++Y).drop i).take z=((P++A).drop i).take z:=by grind
def zvu (W A S:List α) (i z:Nat) (h:W.length<=i) (a:A.length=W.length):((W++S).drop i).take z=((A++S).drop i).take z:=by rw[Tf,Tf,Ox h,Ox (l:=A) (by omega),a]
def cut3 (X:List α) (i z:Nat):X=X.take i++((X.drop i).take z++X.drop (i+z)):=by rw[show X.drop (i+z)=(X.drop i).drop z by simp,Oz,Oz]
def SrtL.nil {α:Type} {lt:α->α->Bool} :SrtL lt ([]:List α):=List.Pairwise.nil
def zma (P U V S:List Ac) (a m b:Int) (A M B:Nat) (c:a=(A:Int)) (d:m=(M:Int)) (e:b=(B:Int)) (E:A=P.length) (G:M=A+U.length) (F:B=M+V.length) (h:0<U.length) (D:0<V.length) (hl:P.length+U.length+V.length+S.length<=1048576) (I:SrtL entLt U) (J:SrtL entLt V):
    ∃R,zr (P++(U++(V++S))) a m b=some (P++(R++S))/\SrtL entLt R/\ClsL keyE R (U++V):=
 ztX 64 P U V S a m b A M B c d e E G F h D (Pr (show U.length+V.length<=1048576 by omega) (by decide)) hl I J
theorem zsm (A:List Ac) (hl:A.length<=1048576) {f:Int × List Ac->Option R} (G:Option R->Prop) (g: ∀(t:Nat) (X:List Ac),X.length=A.length->ClsL keyE X A->t*20<=A.length->A.length<t*20+20->(∀i,i<t->SrtL entLt ((X.drop (i*20)).take 20))->G (f (((t*20:Nat):Int),X))):
 G (bindC (loopO (λ(S1:Int × Int × List Ac)=>if Dc (S1.2.1<=(A.length:Int))then Bb (zm S1.2.2 S1.1 S1.2.1) λB=>some (.go (S1.2.1,J7 (S1.2.1+20),B))else some (.done (.go (S1.1,S1.2.2))))
 ((0:Int),(20:Int),A)) f):=by
 refine zbX (τ:=Int × Int × List Ac) (ρ:=Int × List Ac) (R:=R) G
  (λt s=>∃X:List Ac,s=(((t*20:Nat):Int),((t*20+20:Nat):Int),X)/\X.length=A.length/\ClsL keyE X A/\t*20<=A.length/\(∀i,i<t->SrtL entLt ((X.drop (i*20)).take 20)))
  (A.length+1) (λr=>∃(t:Nat) (X:List Ac),r= .go (((t*20:Nat):Int),X)/\X.length=A.length/\ClsL keyE X A/\t*20<=A.length/\A.length<t*20+20/\(∀i,i<t->SrtL entLt ((X.drop (i*20)).take 20)))
  ⟨A,rfl,rfl,ClsL.refl _ _,by omega,λi h=>by omega⟩ ?_ ?_ ?_
 ·rintro t _ j ⟨X,rfl,k,c,l,d⟩;rcases Pk A.length (t*20+20) with h | h
  ·grind
  ·left;have D:=cut3 X (t*20) 20;have J:(X.take (t*20)).length=t*20:=by grind
   have E:((X.drop (t*20)).take 20).length=20:=by grind
   have O:(X.drop (t*20+20)).length=A.length - (t*20+20):=by grind
   generalize X.take (t*20)=P at*;generalize (X.drop (t*20)).take 20=M at*;generalize X.drop (t*20+20)=S at*;subst D;obtain ⟨N,F,hs,a⟩:=zpn P M S ((t*20:Nat):Int) ((t*20+20:Nat):Int) (by omega) (by omega) (by omega);have I:N.length=20:=by rw[a.length,E]
   have m:J7 (((t*20+20:Nat):Int)+20)=(((t+1)*20+20:Nat):Int):=by rw[za];omega
   have e:((t+1)*20:Nat)=t*20+20:=by omega
   refine ⟨(((t*20+20:Nat):Int),(((t+1)*20+20:Nat):Int),P++(N++S)),?_,P++(N++S),by rw[e],?_,?_,by omega,?_⟩
   ·grind
   ·simp_all
   ·exact ((ClsL.refl keyE P).append (a.append (ClsL.refl _ _))).trans c
   ·intro i hi;rcases Pk i t with b | b
    ·rw[zod P _ (M++S) _ _ (by omega)];exact d i b
    ·grind
 ·omega
 ·simp_all
theorem ztV (E:List Ac) (n z:Nat) (q:E.length=n) (v:0<z) (w:z<n) (hl:n<=262144) (u: ∀i,SrtL entLt ((E.drop (i*z)).take z)) {f:List Ac->Option R} (G:Option R->Prop) (l: ∀(X:List Ac),X.length=n->ClsL keyE X E->(∀i,SrtL entLt ((X.drop (i*(2*z))).take (2*z)))->G (f X)):
 G (bindC (loopO (λ(B:Int × Int × List Ac)=>if Dc (B.2.1<=(n:Int))then Bb (zr B.2.2 B.1 (J7 (B.1+(z:Int))) B.2.1) λT=>some (.go (B.2.1,J7 (B.2.1+(J7 ((2:Int)*(z:Int)))),T))else some (.done (.go (B.1,B.2.2))))
 ((0:Int),J7 ((2:Int)*(z:Int)),E))
 (λ(D:Int × List Ac)=>bindC (if Dc (J7 (D.1+(z:Int))<(n:Int))then Bb (zr D.2 D.1 (J7 (D.1+(z:Int))) (n:Int)) λW=>some (.go W)else some (.go D.2)) f)):=by
 have w0:J7 ((2:Int)*(z:Int))=((2*z:Nat):Int):=by rw[za];omega
 rw[w0];refine zbX (τ:=Int × Int × List Ac) (ρ:=Int × List Ac) (R:=R) G
  (λt s=>∃(c:Nat) (X:List Ac),c=t*(2*z)/\s=((c:Int),((c+2*z:Nat):Int),X)/\X.length=n/\ClsL keyE X E/\c<=n/\(∀i,i<t->SrtL entLt ((X.drop (i*(2*z))).take (2*z)))/\(∀i,c<=i*z->SrtL entLt ((X.drop (i*z)).take z)))
  (n+1) (λr=>∃(t c:Nat) (X:List Ac),c=t*(2*z)/\r= .go ((c:Int),X)/\X.length=n/\ClsL keyE X E/\c<=n/\n<c+2*z/\(∀i,i<t->SrtL entLt ((X.drop (i*(2*z))).take (2*z)))/\(∀i,c<=i*z->SrtL entLt ((X.drop (i*z)).take z)))
  ⟨0,E,by omega,by simp,q,ClsL.refl _ _,by omega,λi h=>by omega,λi _=>u i⟩ ?_ ?_ ?_
 ·rintro t _ x ⟨c,X,m,rfl,j,d,o,g,b⟩;rcases Pk n (c+2*z) with h | h
  ·grind
  ·left;have F:=cut3 X c z;have I:=cut3 (X.drop (c+z)) 0 z;rw[Sf,Pp,Qt,Tm]at I;rw[I]at F;have lP:(X.take c).length=c:=by grind
   have lU:((X.drop c).take z).length=z:=by simp;omega
   have lV:((X.drop (c+z)).take z).length=z:=by grind
   have lS:(X.drop (c+z+(0+z))).length=n - (c+2*z):=by grind
   have M:SrtL entLt ((X.drop c).take z):=by
    have:=b (2*t) (by grind)
    rwa [show 2*t*z=c by grind]at this
   have O:SrtL entLt ((X.drop (c+z)).take z):=by
    have:=b (2*t+1) (by grind)
    rwa [show (2*t+1)*z=c+z by grind]at this
   generalize X.take c=P at*;generalize (X.drop c).take z=U at*;generalize (X.drop (c+z)).take z=V at*;generalize X.drop (c+z+(0+z))=S at*;subst F;obtain ⟨N,J,hs,e⟩:=zma P U V S (c:Int) ((c+z:Nat):Int) ((c+2*z:Nat):Int) c (c+z) (c+2*z) rfl rfl rfl (by omega) (by omega) (by omega) (by omega) (by omega) (by omega) M O;have Z:N.length=2*z:=by rw[e.length,Ol,lU,lV];omega
   have y:J7 (((c+2*z:Nat):Int)+((2*z:Nat):Int))=((c+2*z+2*z:Nat):Int):=by rw[za];omega
   have k:J7 ((c:Int)+(z:Int))=((c+z:Nat):Int):=by rw[za];omega
   refine ⟨(((c+2*z:Nat):Int),((c+2*z+2*z:Nat):Int),P++(N++S)),?_,c+2*z,P++(N++S),by grind,rfl,?_,?_,h,?_,?_⟩
   ·rw[iP (dT (by grind))];simp_all
   ·grind
   ·refine ClsL.trans ?_ d;rw[<-Oy U V S];exact (ClsL.refl keyE P).append (e.append (ClsL.refl _ _))
   ·intro i hi;rcases Pk i t with a | a
    ·rw[zod P _ (U++(V++S)) _ _ (by have:=Rb (2*z) a;grind)];exact g i a
    ·grind
   ·intro i hi;have:=b i (by omega);rw[<-Oy,zvu (P++N) (P++(U++V)) S _ _ (by simp_all) (by grind)];simp_all
 ·rintro _ ⟨c,X,m,rfl,j,d,o,g,b⟩;have:(n+1)*1<=(n+1)*(2*z):=Qw _ (by omega);omega
 ·rintro _ ⟨t,c,X,m,rfl,j,d,o,A,g,b⟩;rw[ze];have k:J7 ((c:Int)+(z:Int))=((c+z:Nat):Int):=by rw[za];omega
  have M:SrtL entLt ((X.drop c).take z):=by have:=b (2*t) (by grind);grind
  have O:SrtL entLt ((X.drop (c+z)).take z):=by have:=b (2*t+1) (by grind);grind
  have p: ∀(P N:List Ac),P=X.take c->N.length=n - c->SrtL entLt N->∀i,SrtL entLt (((P++N).drop (i*(2*z))).take (2*z)):=by
   intro P N hP Z hs i;have lP:P.length=c:=by simp_all
   rcases Qp i t with a | a | a
   ·have:=g i a;rw[show X=X.take c++X.drop c from (Oz _ _).symm,<-hP]at this;rw[zod P N (X.drop c) _ _ (by have:=Rb (2*z) a;grind)];trivial
   ·subst a;rw[Ri (by omega),Ox (by omega),Pp,Oo (by omega)];trivial
   ·have:=Rb (2*z) a;rw[Nat.succ_mul]at this;rw[Ox (by grind),Tq];exact SrtL.nil
  rcases Pk (c+z) n with h | h
  ·rw[k,iP (dT)];have F:=cut3 X c z;have lP:(X.take c).length=c:=by grind
   have lU:((X.drop c).take z).length=z:=by grind
   have lV:(X.drop (c+z)).length=n - (c+z):=by grind
   have lV2:(X.drop (c+z)).take z=X.drop (c+z):=Oo (by omega);rw[lV2]at O;generalize hP:X.take c=P at*;generalize (X.drop c).take z=U at*;generalize X.drop (c+z)=V at*;obtain ⟨N,J,hs,e⟩:=zma P U V [] (c:Int) ((c+z:Nat):Int) (n:Int) c (c+z) n rfl rfl rfl (by omega) (by omega) (by omega) (by omega) (by omega) (by grind) M O;simp only[Qh]at J;have Z:N.length=n - c:=by rw[e.length,Ol,lU,lV];omega
   rw[<-F]at J;simp only[J,Og,ze];refine l (P++N) (by simp_all) ?_ (p P N rfl Z hs);refine ClsL.trans ?_ d;rw[F];exact (ClsL.refl keyE P).append e
  ·rw[k,iN (by grind),ze];refine l X j d ?_;have:=p (X.take c) (X.drop c) rfl (by simp_all) (by rwa [Oo (by grind)]at M);simp_all
theorem zwn (D:List Ac) (hl:D.length<=262144): ∃R,zL D=some R/\SrtL entLt R/\ClsL keyE R D:=by
 unfold zL;suffices h: ∃R,z9 D (D.length:Int)=some R/\SrtL entLt R/\ClsL keyE R D by simp_all
 refine zsm D (by omega) (λx=>∃R,x=some R/\SrtL entLt R/\ClsL keyE R D) ?_;intro t X v l w y A;have I:X=X.take (t*20)++(X.drop (t*20)++ []):=by simp
 have T:(X.take (t*20)).length=t*20:=by grind
 have J:(X.drop (t*20)).length=D.length - t*20:=by grind
 generalize X.take (t*20)=P at*;generalize X.drop (t*20)=M at*;subst I;obtain ⟨N,G,hs,c⟩:=zpn P M [] ((t*20:Nat):Int) (D.length:Int) (by omega) (by omega) (by grind);have O:N.length=D.length - t*20:=by rw[c.length];omega
 simp only[G,Og];have d: ∀i,SrtL entLt (((P++(N++ [])).drop (i*20)).take 20):=by
  intro i;rcases Qp i t with e | e | e
  ·grind
  ·rw[Qh,Ri (by omega),Ox (by omega),Pp,Oo (by omega)];trivial
  ·rw[Ox (by grind),Tq];exact SrtL.nil
 have f:ClsL keyE (P++(N++ [])) D:=((ClsL.refl keyE P).append (c.append (ClsL.refl _ _))).trans l;have g:(P++(N++ [])).length=D.length:=by simp_all
 generalize P++(N++ [])=Y at d f g;refine zbX (τ:=Int × List Ac) (ρ:=List Ac) (R:=List Ac) (λx=>∃R,x=some R/\SrtL entLt R/\ClsL keyE R D)
  (λk s=>∃(z:Nat) (X:List Ac),20+k<=z/\z<=1048576/\s=((z:Int),X)/\X.length=D.length/\ClsL keyE X D/\(∀i,SrtL entLt ((X.drop (i*z)).take z))) D.length
  (λr=>∃X,r= .go X/\SrtL entLt X/\ClsL keyE X D) ⟨20,Y,by omega,by omega,rfl,g,f,d⟩ ?_ ?_ ?_
 ·rintro k _ B ⟨z,X,m,n,rfl,j,a,b⟩;rcases Pk z D.length with h | h
  ·left;rw[iP (dT)];refine ztV (R:=Ctl (Int × List Ac) (Ctl (List Ac) (List Ac))) X D.length z j (by omega) h hl b (λx=>∃E,x=some (.go E)/\∃(z:Nat) (X:List Ac),20+(k+1)<=z/\z<=1048576/\E=((z:Int),X)/\X.length=D.length/\ClsL keyE X D/\(∀i,SrtL entLt ((X.drop (i*z)).take z))) ?_;intro F o p q;have u:J7 ((z:Int)*2)=((2*z:Nat):Int):=by rw[za];omega
   refine ⟨_,rfl,2*z,F,by omega,by omega,by rw[u],o,p.trans a,q⟩
  ·right;refine ⟨.go X,by grind,X,rfl,?_,a⟩;have:=b 0
   rwa [Tw,Qt,Oo (by omega)]at this
 ·rintro _ ⟨z,X,m,n,rfl,j,a,b⟩;refine ⟨.go X,by grind,X,rfl,?_,a⟩;have:=b 0
  rwa [Tw,Qt,Oo (by omega)]at this
 ·simp_all
theorem zx0 [DecidableEq κ] [DecidableEq α] {lt:α->α->Bool} (o:Ord3 lt K): ∀(a b:List α),SrtL lt a->SrtL lt b->ClsL K a b->a=b:=by
 intro a;induction a with
 | nil=>intro b _ _ h;exact (Pd h.length.symm).symm
 | cons x a ih=>
   intro b f d h
   match b,d,h with
   | [],_,h=>exact absurd h.length (by simp)
   | y::b,d,h=>
     have i:K x=K y:=by
      have j:lt x y=false:=by
       rcases Ql.1 (h.perm.mem_iff.1 (Sx)) with e | e
       ·rw[e];exact o.irr y y rfl
       ·exact (Pl.1 d).1 x e
      have k:lt y x=false:=by
       rcases Ql.1 (h.perm.mem_iff.2 (Sx)) with e | e
       ·simp_all
       ·exact (Pl.1 f).1 y e
      rcases o.tri x y with t | t | t
      ·simp_all
      ·exact t
      ·simp_all
     have g:x=y:=by have:=h (K x);simp_all
     subst g;rw[ih b (Pl.1 f).2 (Pl.1 d).2];intro c;have:=h c;grind
def FstL [DecidableEq κ] (K:α->κ) (r l:List α):Prop:=∀c,r.filter (λx=>decide (K x=c))=(l.filter (λx=>decide (K x=c))).take 1
theorem FstL.mem [DecidableEq κ] {r l:List α} (h:FstL K r l) {x:α} (a:x∈r):x∈l:=by have:x∈r.filter (λy=>decide (K y=K x)):=List.mem_filter.2 ⟨a,by simp⟩;rw[h (K x)]at this;grind
def zs0 (h:ordE l):SrtL entLt l:=List.Pairwise.imp (λh=>entOrd3.asym h) h
def FstL.uniq {r h l':List Ac} (a:ordE r) (b:ordE h) (d:FstL keyE r l) (e:FstL keyE h l') (f:ClsL keyE l l'):r=h:=
 zx0 entOrd3 r h (zs0 a) (zs0 b) λc=>by rw[d c,e c,f c]
def zjl {a:Ac} (h: ∀x∈l,entLt a x=true\/entLt x a=true):l.filter (λx=>decide (keyE x=keyE a))= []:=by
 rw[Rw];intro x c b;have b:keyE x=keyE a:=by simp_all
 rcases h x c with e | e
 ·rw[entOrd3.irr a x b.symm]at e;cases e
 ·rw[entOrd3.irr x a b]at e;cases e
theorem zt6 (h:ordE l) (c:J2 × Int):(l.filter (λx=>decide (keyE x=c))).take 1=l.filter (λx=>decide (keyE x=c)):=by
 have a:=h.filter (λx=>decide (keyE x=c))
 match d:l.filter (λx=>decide (keyE x=c)),a with
 | [],_=>rfl
 | [x],_=>rfl
 | x::y::t,a=>
   have b:=(Pl.1 a).1 y (by simp);have e:x∈l.filter (λx=>decide (keyE x=c)):=by simp_all
   have f:y∈l.filter (λx=>decide (keyE x=c)):=by simp_all
   have A:keyE x=c:=by grind
   have B:keyE y=c:=by grind
   rw[entOrd3.irr x y (A.trans B.symm)]at b;cases b
def skp (a:Ac):List Ac->List Ac
 | []=>[]
 | x::r=>if entLt a x=true then x::r else r
def mg:List Ac->List Ac->List Ac
 | [],e=>e
 | a::t,e=>e.takeWhile (λx=>entLt x a)++a::mg t (skp a (e.dropWhile (λx=>entLt x a)))
def zkU (a:Ac): ∀(e:List Ac),ordE e->∀x∈e.dropWhile (λx=>entLt x a),entLt x a=false
 | [],_,x,b=>by trivial
 | y::e,h,x,b=>by
   rw[List.dropWhile_cons]at b;cases c:entLt y a with
   | true=>rw[c,iP rfl]at b;exact zkU a e (Pl.1 h).2 x b
   | false=>
     rw[c]at b;rcases Ql.1 (show x∈y::e from b) with rfl | b
     ·trivial
     ·exact entOrd3.le_trans c (entOrd3.asym ((Pl.1 h).1 x b))
end Go.Proofs.YtblaakdafebglaaGreat
