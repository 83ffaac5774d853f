/-
  Plain lemmas on what the loops and the limits of the pure functions come to. Generic: no statement about a given function.
-/
import Derived.Test.YtfgjhefhlabpkaaGreatSw
namespace Go.Proofs.YtfgjhefhlabpkaaGreat.Sl
open Go
theorem zb {n:Int} (h1: -9223372036854775808≤n) (h2:n≤9223372036854775807):IntKind.i64.wrap n=n:=by
 rw[IntKind.wrap_i64];omega
theorem ze {α:Type} (l:List α) (k:Nat) (h:k<l.length):idx l (k:Int)=some l[k]:=by
 unfold idx;simp[h]
theorem zsK {by_:Nat} {n:Nat} (h1:by_*n≤281474976710656) (h2:n≤9223372036854775807):mkLen by_ (n:Int)=some n:=by
 unfold mkLen
 have h3:(by_:Int)*(n:Int)≤281474976710656:=by
  have:((by_*n:Nat):Int)≤281474976710656:=by omega
  rwa [Int.natCast_mul]at this
 rw[if_pos ⟨by omega,h3,by omega⟩,Int.toNat_natCast]
theorem zm {α:Type} {by_:Nat} {l k:List α} (h1:(l.length+k.length)*by_≤140737488355328) (h2:l.length+k.length≤9223372036854775807):app by_ l k=some (l++k):=by
 unfold app;rw[if_pos ⟨h1,h2⟩]
theorem zcO {s u:List UInt8} (h:s.length+u.length≤9223372036854775807):cat s u=some (s++u):=by
 unfold cat;rw[if_pos h]
@[simp] theorem ztV {τ R:Type} (r:R) (k:τ→Option R):bindC (some (.done r)) k=some r:=rfl
@[simp] theorem zf {τ R:Type} (t:τ) (k:τ→Option R):bindC (some (.go t)) k=k t:=rfl
theorem zo {τ ρ:Type} {body:τ→Option (Ctl τ ρ)} {t0:τ} (f:Nat→τ) (n:Nat) {r:ρ} (h0:t0=f 0) (h: ∀k,k<n→body (f k)=some (.go (f (k+1)))) (hn:body (f n)=some (.done r)):loopO body t0=some r:=by
 subst h0
 have key: ∀j,j≤n→loopO body (f (n - j))=some r:=by
  intro j
  induction j with
  | zero=>intro _;rw[zR,Nat.sub_zero,hn]
  | succ j ih=>
    intro hj
    rw[zR,h (n - (j+1)) (by omega)]
    simp only
    rw[show n - (j+1)+1=n - j by omega]
    exact ih (by omega)
 have:=key n (Nat.le_refl _)
 rwa [Nat.sub_self]at this
def runL {α σ ρ:Type} (step:Nat→α→σ→Option (Ctl σ ρ)) (fin:σ→Option ρ):Nat→List α→σ→Option ρ
 | _,[],s=>fin s
 | k,x::l,s=>match step k x s with
   | some (.go s')=>runL step fin (k+1) l s'
   | some (.done r)=>some r
   | none=>none
def Ctl.mapGo {σ τ ρ:Type} (f:σ→τ):Ctl σ ρ→Ctl τ ρ
 | .go s=>.go (f s)
 | .done r=>.done r
theorem zqA {α σ τ ρ:Type} {body:τ→Option (Ctl τ ρ)} {t0:τ} (a:List α) (mk:Nat→σ→τ) (step:Nat→α→σ→Option (Ctl σ ρ)) (fin:σ→Option ρ) (s0:σ) (h0:t0=mk 0 s0)
 (hstep: ∀k (h:k<a.length) s,body (mk k s)=(step k a[k] s).map (Ctl.mapGo (mk (k+1)))) (hfin: ∀s,body (mk a.length s)=(fin s).map .done):
 loopO body t0=runL step fin 0 a s0:=by
 subst h0
 have key: ∀(r l:List α) (s:σ),a=l++r→loopO body (mk l.length s)=runL step fin l.length r s:=by
  intro r
  induction r with
  | nil=>
    intro l s h
    rw[List.append_nil]at h
    subst h
    rw[zR,hfin,runL]
    cases fin s<;>rfl
  | cons x r ih=>
    intro l s h
    have hl:l.length<a.length:=by rw[h];simp
    have hx:a[l.length]=x:=by simp[h]
    rw[zR,hstep l.length hl s,hx,runL]
    cases hs:step l.length x s with
    | none=>rfl
    | some c=>
      cases c with
      | done r=>rfl
      | go s'=>
        simp only[Option.map_some,Ctl.mapGo]
        have:=ih (l++ [x]) s' (by rw[h];simp)
        simpa using this
 exact key a [] s0 rfl
theorem zoK {α ρ:Type} {step:Nat→α→Unit→Option (Ctl Unit ρ)} {fin:Unit→Option ρ} (p:α→Bool) (r0:ρ): ∀(l:List α) (k:Nat),(∀k x,x∈l→step k x ()=if p x then some (.go ()) else some (.done r0))→
 runL step fin k l ()=if l.all p then fin () else some r0
 | [],_,_=>rfl
 | x::l,k,h=>by
   rw[runL,h k x (by simp)]
   cases hp:p x with
   | false=>simp[hp]
   | true=>
     simp only[if_true]
     rw[zoK p r0 l (k+1) fun k y hy=>h k y (by simp[hy])]
     simp[hp]
section
variable {α:Type}
theorem zq0 [DecidableEq α] {a b:List α} (hl:a.length=b.length):(a.zip b).all (fun x=>decide (x.1=x.2))=decide (a=b):=by
 induction a generalizing b with
 | nil=>cases b with | nil=>rfl | cons y b=>simp at hl
 | cons x a ih=>
   cases b with
   | nil=>simp at hl
   | cons y b=>
     simp only[List.zip_cons_cons,List.all_cons,ih (by simpa using hl)]
     by_cases h:x=y<;>simp[h]
theorem eq_loop [DecidableEq α] (a b:List α) (f:α→α→Option Bool) (hf: ∀x y,x∈a→y∈b→f x y=some (decide (x=y))) (hl:a.length=b.length) (h63:a.length≤4611686018427387904):
 loopO (ρ:=Ctl Unit Bool) (fun (S2:Int)=>if (decide (S2<(a.length:Int)))=true then ((idx a S2).bind fun E7=>(idx b S2).bind fun E9=>(f E7 E9).bind fun R11=>
  if (!R11)=true then (some (.done (.done false))) else (some (.go (IntKind.i64.wrap (S2+(1:Int)))))) else (some (.done (.go ())))) (0:Int)=some (if a=b then .go () else .done false):=by
 rw[zqA (a.zip b) (fun k (_:Unit)=>(k:Int)) (fun _ x _=>if x.1=x.2 then some (Ctl.go ()) else some (Ctl.done (Ctl.done false))) (fun _=>some (Ctl.go ())) () ?h0 ?hs ?hf]
 case h0=>rfl
 case hs=>
  intro k hk _
  have hk':k<a.length:=by simp at hk;omega
  simp only[ze a k hk',ze b k (by omega),Option.bind_some,List.getElem_zip,hf a[k] b[k] (List.getElem_mem _) (List.getElem_mem _)]
  rw[zb (by omega) (by omega)]
  by_cases he:a[k]=b[k]
  ·simp[he,Ctl.mapGo,hk']
  ·simp[he,Ctl.mapGo,hk']
 case hf=>intro _;simp[hl]
 rw[zoK (fun x=>decide (x.1=x.2)) (Ctl.done false) _ _ (by intro k x _;simp),zq0 hl]
 by_cases he:a=b<;>simp[he]
theorem zri [DecidableEq α] (a b:List α) (f:α→α→Option Bool) (hf: ∀x y,x∈a→y∈b→f x y=some (decide (x=y))) (h63:a.length≤4611686018427387904):
 (if (!(decide ((a.length:Int)=(b.length:Int))))=true then (some false) else (bindC (loopO (fun (S2:Int)=>if (decide (S2<(a.length:Int)))=true then ((idx a S2).bind fun E7=>(idx b S2).bind fun E9=>(f E7 E9).bind fun R11=>
   if (!R11)=true then (some (.done (.done false))) else (some (.go (IntKind.i64.wrap (S2+(1:Int)))))) else (some (.done (.go ())))) (0:Int)) (fun (_:Unit)=>some true)))=some (decide (a=b)):=by
 by_cases hl:a.length=b.length
 ·rw[if_neg (by simp[hl]),eq_loop a b f hf hl h63]
  by_cases he:a=b<;>simp[he]
 ·have:a≠b:=fun e=>hl (by rw[e])
  rw[if_pos (by simp;omega)]
  simp[this]
theorem zoU {ρ:Type} (l:List α) (f:α→Option Int) (g:α→Int) (hf: ∀x∈l,f x=some (g x)) (hg: ∀x∈l,0≤g x∧g x≤1099511627776) (hl:l.length≤1048576) (s0:Int) (h0:0≤s0) (h1:s0≤1099511627776):
 loopO (ρ:=Ctl Int ρ) (fun (S2:Int × Int)=>if (decide (S2.2<(l.length:Int)))=true then ((idx l S2.2).bind fun E7=>(f E7).bind fun R9=>some (.go (IntKind.i64.wrap (S2.1+R9),IntKind.i64.wrap (S2.2+(1:Int))))) else (some (.done (.go S2.1))))
  (s0,(0:Int))=some (.go (s0+(l.map g).sum)):=by
 have hsum: ∀k,k≤l.length→0≤((l.take k).map g).sum∧((l.take k).map g).sum≤1099511627776*k:=by
  intro k
  induction k with
  | zero=>intro _;simp
  | succ k ih=>
    intro hk
    have:=ih (by omega)
    have hk':k<l.length:=by omega
    rw[List.take_add_one,List.getElem?_eq_getElem hk']
    simp only[Option.toList_some,List.map_append,List.map_cons,List.map_nil,List.sum_append,List.sum_cons,List.sum_nil]
    have:=hg l[k] (List.getElem_mem _)
    omega
 rw[zo (fun k=>(s0+((l.take k).map g).sum,(k:Int))) l.length (r:=.go (s0+(l.map g).sum)) ?h0]
 case h0=>simp
 ·intro k hk
  have b1:=hsum k (by omega)
  have b2:=hsum (k+1) (by omega)
  have hx:=hg l[k] (List.getElem_mem _)
  simp only[ze l k hk,Option.bind_some,hf l[k] (List.getElem_mem _)]
  rw[List.take_add_one,List.getElem?_eq_getElem hk]
  simp only[Option.toList_some,List.map_append,List.map_cons,List.map_nil,List.sum_append,List.sum_cons,List.sum_nil]
  rw[zb (by omega) (by omega),zb (by omega) (by omega)]
  simp[hk]
  omega
 ·simp
end
theorem zbi {τ ρ:Type} {body:τ→Option (Ctl τ ρ)} {s0:τ} (I:Nat→τ→Prop) (n:Nat) (Q:ρ→Prop) (h0:I 0 s0)
 (h: ∀k s,k<n→I k s→(∃s',body s=some (.go s')∧I (k+1) s')∨(∃r,body s=some (.done r)∧Q r)) (hn: ∀s,I n s→∃r,body s=some (.done r)∧Q r): ∃r,loopO body s0=some r∧Q r:=by
 have key: ∀j k s,k+j=n→I k s→∃r,loopO body s=some r∧Q r:=by
  intro j
  induction j with
  | zero=>
    intro k s hk hI
    obtain rfl:k=n:=by omega
    obtain ⟨r,hr,hq⟩:=hn s hI
    exact ⟨r,by rw[zR,hr],hq⟩
  | succ j ih=>
    intro k s hk hI
    rcases h k s (by omega) hI with ⟨s',hs,hI'⟩ | ⟨r,hr,hq⟩
    ·obtain ⟨r,hr,hq⟩:=ih (k+1) s' (by omega) hI'
     exact ⟨r,by rw[zR,hs];exact hr,hq⟩
    ·exact ⟨r,by rw[zR,hr],hq⟩
 exact key n 0 s0 (by omega) h0
theorem zgt {τ ρ:Type} {body:τ→Option (Ctl τ ρ)} {s0:τ} (I:Nat→τ→Prop) (n:Nat) (r:ρ) (h0:I 0 s0)
 (h: ∀k s,k<n→I k s→(∃s',body s=some (.go s')∧I (k+1) s')∨body s=some (.done r)) (hn: ∀s,I n s→body s=some (.done r)):loopO body s0=some r:=by
 obtain ⟨r',hr,rfl⟩:=zbi (ρ:=ρ) I n (fun x=>x=r) h0 (fun k s hk hI=>(h k s hk hI).imp id fun h=>⟨r,h,rfl⟩) fun s hI=>⟨r,hn s hI,rfl⟩
 exact hr
theorem zqz {τ ρ:Type} {body:τ→Option (Ctl τ ρ)} {s0:τ} (I:Nat→τ→Prop) (n:Nat) (h0:I 0 s0)
 (h: ∀k s,k<n→I k s→(∃s',body s=some (.go s')∧I (k+1) s')∨(∃r,body s=some (.done r))) (hn: ∀s,I n s→∃r,body s=some (.done r)): ∃r,loopO body s0=some r:=by
 obtain ⟨r,hr,_⟩:=zbi (ρ:=ρ) I n (fun _=>True) h0 (fun k s hk hI=>(h k s hk hI).imp id fun ⟨r,h⟩=>⟨r,h,trivial⟩) fun s hI=>(hn s hI).imp fun _ h=>⟨h,trivial⟩
 exact ⟨r,hr⟩
theorem zqd {τ R:Type} {m:Option (Ctl τ R)} {k:τ→Option R} (h: ∃c,m=some c) (hk: ∀t,∃r,k t=some r): ∃r,bindC m k=some r:=by
 obtain ⟨c,rfl⟩:=h
 cases c with
 | go t=>exact hk t
 | done r=>exact ⟨r,rfl⟩
end Go.Proofs.YtfgjhefhlabpkaaGreat.Sl
