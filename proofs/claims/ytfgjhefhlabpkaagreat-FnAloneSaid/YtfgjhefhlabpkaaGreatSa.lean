/-
  The rules of the small separation logic, continued: statements whose order Go leaves open; elements written; bytes and strings. Generic: no statement about a given function.
-/
import Derived.Test.YtfgjhefhlabpkaaGreatSe
import Derived.OrdersHeld
import Derived.Deep.RegionHeld3
namespace Go.Proofs.YtfgjhefhlabpkaaGreat.Sl
open Go Go.RowKit
section
variable {P:Program} {w0:World} {S0:List Nat} {R:Type} {m:Option R} {n:Nat} {fr:Fr} {is:List Item} {Q:R→Exit→Act→World→Prop}
theorem TW.joinB {τ:Type} {m:Option τ} {k:τ→Option R} {c:Code} (Mid:τ→Act→World→Prop)
 (h1:TW P w0 S0 m n fr is c (fun x e a w=>e= .normal∧Mid x a w))
 (h2: ∀t a w,Mid t a w→∀r,k t=some r→Q r .normal a w):TW P w0 S0 (m.bind k) n fr is c Q:=by
 intro r hr a w hf hs
 cases hm:m with
 | none=>rw[hm]at hr;cases hr
 | some x=>
   rw[hm]at hr
   simp only[Option.bind_some]at hr
   refine wp_mono (h1 x hm a w hf hs) ?_
   intro e a' w' hq
   obtain ⟨rfl,hm'⟩:=hq
   exact h2 x a' w' hm' r hr
theorem TO.ite {b:Bool} {m1 m2:Option R} {ops:Array Oper} {l:List Oper} (h1:b=true→TO P w0 S0 m1 n fr is ops l Q) (h2:b=false→TO P w0 S0 m2 n fr is ops l Q):
 TO P w0 S0 (if b=true then m1 else m2) n fr is ops l Q:=by
 intro r hr a w hf hs
 cases b with
 | true=>exact h1 rfl r (by simpa using hr) a w hf hs
 | false=>exact h2 rfl r (by simpa using hr) a w hf hs
variable (P w0 S0) in
def TA {R:Type} (m:Option R) (n:Nat) (fr:Fr) (is isH:List Item) (ops:Array Oper) (fuel:Nat) (listed:Array Bool) (Q:R→Exit→Act→World→Prop):Prop:=
 ∀r,m=some r→∀a w,FrOk n fr a→St w0 S0 is w→wpAnyH P .any ops (NoPanic (Q r)) (St w0 S0 isH) fuel listed a w
def bm (n L:Nat):Array Bool:=⟨(List.range n).map L.testBit⟩
theorem ztf (n:Nat):bm n 0=Array.replicate n false:=by
 apply Array.ext
 ·simp[bm]
 ·intro i h1 h2
  simp[bm]
theorem zjM (n L i:Nat):(bm n L).setIfInBounds i true=bm n (L ||| 2 ^ i):=by
 apply Array.ext
 ·simp[bm]
 ·intro j h1 h2
  rw[Array.getElem_setIfInBounds (by simpa using h1)]
  simp only[bm,List.getElem_toArray,List.getElem_map,List.getElem_range,Nat.testBit_or,Nat.testBit_two_pow]
  by_cases h:i=j
  ·simp[h]
  ·simp[h]
theorem TW.draw {id:Nat} {ops:Array Oper} {isH:List Item} (hm:P.follows .mixedOrders=true) (h:TA P w0 S0 m n fr is isH ops ops.size (bm ops.size 0) Q):
 TW P w0 S0 m n fr is (.region id ops true) Q:=by
 rw[ztf]at h
 intro r hr a w hf hs
 refine wp_region_noPanic ?_
 exact wp_region_held hm (h r hr a _ hf (hs.same (Chg.drew w [])))
theorem TA.bind {X:Type} {p:Option X} {k:X→Option R} {isH:List Item} {ops:Array Oper} {fuel:Nat} {listed:Array Bool} (h: ∀x,p=some x→TA P w0 S0 (k x) n fr is isH ops fuel listed Q):
 TA P w0 S0 (p.bind k) n fr is isH ops fuel listed Q:=by
 intro r hr a w hf hs
 cases p with
 | none=>cases hr
 | some x=>exact h x rfl r hr a w hf hs
theorem TA.ite {b:Bool} {m1 m2:Option R} {isH:List Item} {ops:Array Oper} {fuel:Nat} {listed:Array Bool} (h1:b=true→TA P w0 S0 m1 n fr is isH ops fuel listed Q) (h2:b=false→TA P w0 S0 m2 n fr is isH ops fuel listed Q):
 TA P w0 S0 (if b=true then m1 else m2) n fr is isH ops fuel listed Q:=by
 intro r hr a w hf hs
 cases b with
 | true=>exact h1 rfl r (by simpa using hr) a w hf hs
 | false=>exact h2 rfl r (by simpa using hr) a w hf hs
theorem NoPanic.keep {Q:Exit→Act→World→Prop} {d:Option Nat} {v:Value} : ∀c a w,NoPanic Q (.panic c) (a.put d v) w→NoPanic Q (.panic c) a w:=fun _ _ _ h=>h.elim
theorem TA.y {isH:List Item} {ops:Array Oper} {fuel L:Nat} (i:Nat) {o:Oper} {d:Nat} {v:Value} (ks:List Nat) (hi:ops[i]? =some o) (h1:Y P w0 S0 n fr isH o v) (hg:Gd ops fr o true)
 (hd:o.dst=some d) (hn:Nat.blt d n=true) (hc:(Region.noSelect ops&&(Region.free .any ops (bm ops.size L) i&&(Region.ready .any ops (bm ops.size L)).contains i))=true)
 (hH:pulls ks is=some isH) (h:TA P w0 S0 m n ((d,v)::fr) is isH ops fuel (bm ops.size (L ||| 2 ^ i)) Q):TA P w0 S0 m n fr is isH ops (fuel+1) (bm ops.size L) Q:=by
 intro r hr' a w hf hst
 rw[Bool.and_eq_true,Bool.and_eq_true]at hc
 refine wpAnyH_take (v:=v) hi hc.1 hc.2.1 hc.2.2 NoPanic.keep (.inl ⟨hg.wanted hf,fun w' hw'=>h1 a w' hf hw'⟩) (hst.pulls ks hH) ?_
 rw[zjM,hd]
 exact h r hr' _ w (hf.put hn v) hst
theorem TA.off {isH:List Item} {ops:Array Oper} {fuel L:Nat} (i:Nat) {o:Oper} {d:Nat} (ks:List Nat) (hi:ops[i]? =some o) (hg:Gd ops fr o false)
 (hd:o.dst=some d) (hn:Nat.blt d n=true) (hc:(Region.noSelect ops&&(Region.free .any ops (bm ops.size L) i&&(Region.ready .any ops (bm ops.size L)).contains i))=true)
 (hH:pulls ks is=some isH) (h:TA P w0 S0 m n ((d,undef)::fr) is isH ops fuel (bm ops.size (L ||| 2 ^ i)) Q):TA P w0 S0 m n fr is isH ops (fuel+1) (bm ops.size L) Q:=by
 intro r hr' a w hf hst
 rw[Bool.and_eq_true,Bool.and_eq_true]at hc
 refine wpAnyH_take (v:=undef) hi hc.1 hc.2.1 hc.2.2 NoPanic.keep (.inr ⟨hg.wanted hf,rfl⟩) (hst.pulls ks hH) ?_
 rw[zjM,hd]
 exact h r hr' _ w (hf.put hn undef) hst
def TX (P:Program) (w0:World) (S0:List Nat) {R:Type} (m:Option R) (n:Nat) (fr:Fr) (is isH:List Item) (ops:Array Oper) (fuel:Nat) (listed:Array Bool) (Q:R→Exit→Act→World→Prop) (i:Nat):Prop:=
 ∀r,m=some r→∀a w,FrOk n fr a→St w0 S0 is w→
  wpOp P ops (NoPanic (Q r)) i (fun a' w'=>St w0 S0 isH w'∧wpAnyH P .any ops (NoPanic (Q r)) (St w0 S0 isH) fuel (listed.setIfInBounds i true) a' w') a w
theorem TX.ef {isH:List Item} {ops:Array Oper} {fuel L i:Nat} {o:Oper} {d:Nat} {X:Type} {val:X→Value} {is':X→List Item} (ks:List Nat) (hi:ops[i]? =some o)
 (h1:Ef P w0 S0 n fr is o val is') (hg:Gd ops fr o true) (hd:o.dst=some d) (hn:Nat.blt d n=true) (hH: ∀x,pulls ks (is' x)=some isH)
 (h: ∀x,TA P w0 S0 m n ((d,val x)::fr) (is' x) isH ops fuel (bm ops.size (L ||| 2 ^ i)) Q):TX P w0 S0 m n fr is isH ops fuel (bm ops.size L) Q i:=by
 intro r hr a w hf hs
 unfold wpOp
 simp only[hi,hg.wanted hf,if_true]
 refine .inl (h1 a w _ _ hf hs fun x w' hs'=>?_)
 rw[hd,zjM]
 exact ⟨hs'.pulls ks (hH x),h x r hr _ _ (hf.put hn _) hs'⟩
theorem TX.ef0 {isH:List Item} {ops:Array Oper} {fuel L i:Nat} {o:Oper} {X:Type} {val:X→Value} {is':X→List Item} (ks:List Nat) (hi:ops[i]? =some o)
 (h1:Ef P w0 S0 n fr is o val is') (hg:Gd ops fr o true) (hd:o.dst=none) (hH: ∀x,pulls ks (is' x)=some isH)
 (h: ∀x,TA P w0 S0 m n fr (is' x) isH ops fuel (bm ops.size (L ||| 2 ^ i)) Q):TX P w0 S0 m n fr is isH ops fuel (bm ops.size L) Q i:=by
 intro r hr a w hf hs
 unfold wpOp
 simp only[hi,hg.wanted hf,if_true]
 refine .inl (h1 a w _ _ hf hs fun x w' hs'=>?_)
 rw[hd,zjM]
 exact ⟨hs'.pulls ks (hH x),h x r hr _ _ hf hs'⟩
theorem TX.y {isH:List Item} {ops:Array Oper} {fuel L i:Nat} {o:Oper} {d:Nat} {v:Value} (ks:List Nat) (hi:ops[i]? =some o)
 (h1:Y P w0 S0 n fr is o v) (hg:Gd ops fr o true) (hd:o.dst=some d) (hn:Nat.blt d n=true) (hH:pulls ks is=some isH)
 (h:TA P w0 S0 m n ((d,v)::fr) is isH ops fuel (bm ops.size (L ||| 2 ^ i)) Q):TX P w0 S0 m n fr is isH ops fuel (bm ops.size L) Q i:=by
 intro r hr a w hf hs
 unfold wpOp
 simp only[hi,hg.wanted hf,if_true]
 refine .inl ?_
 unfold Oper.wp
 rw[h1 a w hf hs]
 show St w0 S0 isH w∧_
 rw[zjM]
 refine ⟨hs.pulls ks hH,?_⟩
 rw[hd]
 exact h r hr _ _ (hf.put hn _) hs
theorem TA.all {isH:List Item} {ops:Array Oper} {fuel:Nat} {listed:Array Bool} (rs:List Nat) (hr:Region.ready .any ops listed=rs) (hne:rs≠[]) (h: ∀i∈rs,TX P w0 S0 m n fr is isH ops fuel listed Q i):
 TA P w0 S0 m n fr is isH ops (fuel+1) listed Q:=
 fun r hr' a w hf hs=>wpAnyH_all hr hne fun i hi=>h i hi r hr' a w hf hs
theorem TA.one {isH:List Item} {ops:Array Oper} {fuel:Nat} {listed:Array Bool} (i:Nat) (hr:Region.ready .any ops listed= [i]) (h:TX P w0 S0 m n fr is isH ops fuel listed Q i):
 TA P w0 S0 m n fr is isH ops (fuel+1) listed Q:=
 TA.all [i] hr (by simp) fun j hj=>by rw[List.mem_singleton.1 hj];exact h
theorem TA.two {isH:List Item} {ops:Array Oper} {fuel:Nat} {listed:Array Bool} (i j:Nat) (hr:Region.ready .any ops listed= [i,j]) (h1:TX P w0 S0 m n fr is isH ops fuel listed Q i) (h2:TX P w0 S0 m n fr is isH ops fuel listed Q j):
 TA P w0 S0 m n fr is isH ops (fuel+1) listed Q:=
 TA.all [i,j] hr (by simp) fun k hk=>by
  rcases List.mem_cons.1 hk with rfl | hk
  ·exact h1
  ·rw[List.mem_singleton.1 hk];exact h2
theorem TA.three {isH:List Item} {ops:Array Oper} {fuel:Nat} {listed:Array Bool} (i j k:Nat) (hr:Region.ready .any ops listed= [i,j,k]) (h1:TX P w0 S0 m n fr is isH ops fuel listed Q i) (h2:TX P w0 S0 m n fr is isH ops fuel listed Q j)
 (h3:TX P w0 S0 m n fr is isH ops fuel listed Q k):TA P w0 S0 m n fr is isH ops (fuel+1) listed Q:=
 TA.all [i,j,k] hr (by simp) fun q hq=>by
  rcases List.mem_cons.1 hq with rfl | hq
  ·exact h1
  ·rcases List.mem_cons.1 hq with rfl | hq
   ·exact h2
   ·rw[List.mem_singleton.1 hq];exact h3
theorem TA.nil {isH:List Item} {ops:Array Oper} {fuel:Nat} {listed:Array Bool} (hr:Region.ready .any ops listed= []) (h:TE w0 S0 m n fr is .normal Q):TA P w0 S0 m n fr is isH ops fuel listed Q:=
 fun r hr' a w hf hs=>wpAnyH_done hr (NoPanic.normal (h r hr' a w hf hs)) fuel
end
section
variable {P:Program} {w0:World} {S0:List Nat} {R:Type} {m:Option R} {n:Nat} {fr:Fr} {is:List Item} {Q:R→Exit→Act→World→Prop}
def Mid (w0:World) (S0:List Nat) (n:Nat) {τ X:Type} (frf:τ→X→Fr) (isf:τ→X→List Item) (t:τ) (a:Act) (w:World):Prop:=
 ∃x,FrOk n (frf t x) a∧St w0 S0 (isf t x) w
def jn {τ R:Type} (M:τ→Act→World→Prop) (Q:R→Exit→Act→World→Prop):Ctl τ R→Exit→Act→World→Prop
 | .go t,e,a,w=>e= .normal∧M t a w
 | .done r,e,a,w=>Q r e a w
def jb {τ:Type} (M:τ→Act→World→Prop):τ→Exit→Act→World→Prop:=fun t e a w=>e= .normal∧M t a w
def lp {σ ρ:Type} (I:σ→Act→World→Prop) (Q:ρ→Exit→Act→World→Prop):Ctl σ ρ→Exit→Act→World→Prop
 | .go s,e,a,w=>e= .normal∧I s a w
 | .done r,e,a,w=>e≠.normal∧Q r e a w
theorem TW.joinX {τ X:Type} {m:Option (Ctl τ R)} {k:τ→Option R} {c:Code} (frf:τ→X→Fr) (isf:τ→X→List Item)
 (h1:TW P w0 S0 m n fr is c (jn (Mid w0 S0 n frf isf) Q)) (h2: ∀t x,TE w0 S0 (k t) n (frf t x) (isf t x) .normal Q):TW P w0 S0 (bindC m k) n fr is c Q:=by
 refine TW.join (Mid w0 S0 n frf isf) ?_ ?_
 ·intro r hr a w hf hs
  refine wp_mono (h1 r hr a w hf hs) fun e a w h=>?_
  cases r with
  | go t=>exact h
  | done r=>exact h
 ·rintro t a w ⟨x,hf,hs⟩ r hr
  exact h2 t x r hr a w hf hs
theorem TW.joinBX {τ X:Type} {m:Option τ} {k:τ→Option R} {c:Code} (frf:τ→X→Fr) (isf:τ→X→List Item)
 (h1:TW P w0 S0 m n fr is c (jb (Mid w0 S0 n frf isf))) (h2: ∀t x,TE w0 S0 (k t) n (frf t x) (isf t x) .normal Q):TW P w0 S0 (m.bind k) n fr is c Q:=by
 refine TW.joinB (Mid w0 S0 n frf isf) h1 ?_
 rintro t a w ⟨x,hf,hs⟩ r hr
 exact h2 t x r hr a w hf hs
theorem TW.joinU {X:Type} {m:Option R} {c:Code} (frf:Unit→X→Fr) (isf:Unit→X→List Item)
 (h1:TW P w0 S0 (some ()) n fr is c (jb (Mid w0 S0 n frf isf))) (h2: ∀t x,TE w0 S0 m n (frf t x) (isf t x) .normal Q):TW P w0 S0 m n fr is c Q:=
 TW.joinBX (τ:=Unit) (m:=some ()) (k:=fun _=>m) frf isf h1 h2
theorem TW.loopX {σ ρ X:Type} {body:σ→Option (Ctl σ ρ)} {s0:σ} {c:Code} {Q:ρ→Exit→Act→World→Prop} (frf:σ→X→Fr) (isf:σ→X→List Item) (x0:X) (ks:List Nat)
 (hf0:Sub (frf s0 x0) fr) (hi0:pulls ks is=some (isf s0 x0)) (h1: ∀s x,TW P w0 S0 (body s) n (frf s x) (isf s x) c (lp (Mid w0 S0 n frf isf) Q)):
 TW P w0 S0 (loopO body s0) n fr is (.loop c) Q:=by
 refine TW.loop (Mid w0 S0 n frf isf) (fun a w hf hs=>⟨x0,hf.sub hf0,hs.pulls ks hi0⟩) ?_
 rintro s x hx a w ⟨y,hf,hs⟩
 refine wp_mono (h1 s y x hx a w hf hs) fun e a w h=>?_
 cases x with
 | go t=>exact h
 | done r=>exact h
theorem TE.jn_go {τ X:Type} {frf:τ→X→Fr} {isf:τ→X→List Item} {t:τ} (x:X) (ks:List Nat) (hf0:Sub (frf t x) fr) (hi0:pulls ks is=some (isf t x)):
 TE w0 S0 (some (.go t)) n fr is .normal (jn (Mid w0 S0 n frf isf) Q):=
 TE.leaf fun _ _ hf hs=>⟨rfl,x,hf.sub hf0,hs.pulls ks hi0⟩
theorem TE.jn_done {τ:Type} {M:τ→Act→World→Prop} {r:R} {e:Exit} (h:TE w0 S0 (some r) n fr is e Q):TE w0 S0 (some (.done r)) n fr is e (jn M Q):=by
 intro r' hr a w hf hs
 cases hr
 exact h r rfl a w hf hs
theorem TE.jb_go {τ X:Type} {frf:τ→X→Fr} {isf:τ→X→List Item} {t:τ} (x:X) (ks:List Nat) (hf0:Sub (frf t x) fr) (hi0:pulls ks is=some (isf t x)):
 TE w0 S0 (some t) n fr is .normal (jb (Mid w0 S0 n frf isf)):=
 TE.leaf fun _ _ hf hs=>⟨rfl,x,hf.sub hf0,hs.pulls ks hi0⟩
theorem TE.lp_go {σ ρ X:Type} {Q:ρ→Exit→Act→World→Prop} {frf:σ→X→Fr} {isf:σ→X→List Item} {t:σ} (x:X) (ks:List Nat) (hf0:Sub (frf t x) fr) (hi0:pulls ks is=some (isf t x)):
 TE w0 S0 (some (.go t)) n fr is .normal (lp (Mid w0 S0 n frf isf) Q):=
 TE.leaf fun _ _ hf hs=>⟨rfl,x,hf.sub hf0,hs.pulls ks hi0⟩
theorem TE.lp_exit {σ ρ:Type} {Q:ρ→Exit→Act→World→Prop} {I:σ→Act→World→Prop} {r:ρ} {id:Nat} (h:TE w0 S0 (some r) n fr is (.exit id) Q):TE w0 S0 (some (.done r)) n fr is (.exit id) (lp I Q):=by
 intro r' hr a w hf hs
 cases hr
 exact ⟨fun h=>(by cases h),h r rfl a w hf hs⟩
theorem TE.lp_ret {σ ρ:Type} {Q:ρ→Exit→Act→World→Prop} {I:σ→Act→World→Prop} {r:ρ} (h:TE w0 S0 (some r) n fr is .ret Q):TE w0 S0 (some (.done r)) n fr is .ret (lp I Q):=by
 intro r' hr a w hf hs
 cases hr
 exact ⟨fun h=>(by cases h),h r rfl a w hf hs⟩
theorem TE.then_ret {Q':R→Act→World→Prop} (h:TE w0 S0 m n fr is .ret Q):TE w0 S0 m n fr is .ret (fun r=>Exit.then (Q' r) (Q r)):=h
theorem TE.block_exit {id:Nat} (h:TE w0 S0 m n fr is .normal Q):TE w0 S0 m n fr is (.exit id) (fun r=>Exit.inBlock id (Q r)):=by
 intro r hr a w hf hs
 show if id=id then _ else _
 rw[if_pos rfl]
 exact h r hr a w hf hs
theorem TE.bind {X:Type} {p:Option X} {k:X→Option R} {e:Exit} (h: ∀x,p=some x→TE w0 S0 (k x) n fr is e Q):TE w0 S0 (p.bind k) n fr is e Q:=by
 intro r hr a w hf hs
 cases p with
 | none=>cases hr
 | some x=>exact h x rfl r hr a w hf hs
theorem TE.nilItem {e:Exit} (sz:Nat) (h:TE w0 S0 m n fr (.own (.slice none 0 0) (.sl sz 0 [])::is) e Q):TE w0 S0 m n fr is e Q:=
 fun r hr a w hf hs=>h r hr a w hf (hs.nilItem sz)
theorem TW.nilItem {c:Code} (sz:Nat) (h:TW P w0 S0 m n fr (.own (.slice none 0 0) (.sl sz 0 [])::is) c Q):TW P w0 S0 m n fr is c Q:=
 fun r hr a w hf hs=>h r hr a w hf (hs.nilItem sz)
end
end Go.Proofs.YtfgjhefhlabpkaaGreat.Sl
