/-
  Maps whose keys are structs of plain fields and whose values are integers: made, asked, and given a new key. Generic: no statement about a given function.
-/
import Derived.Test.YtfpbnddcbmfcaaaSz
import Derived.WideKeyElems
import Derived.DeepKeys5
namespace Go.Proofs.Ytfpbnddcbmfcaaa.Sl
open Go Go.RowKit

/-- keys and values as they lie in a map -/
def pme {α : Type} [Flat α] (l : List (α × Int)) : List (Value × Value) := l.map fun q => (.agg (Flat.vals q.1).toArray, .int .i64 q.2)
def mLook {α : Type} [DecidableEq α] (l : List (α × Int)) (x : α) : Option Int := (l.find? fun q => decide (q.1 = x)).map (·.2)
/-- a new key -/
def mNew {α : Type} [DecidableEq α] (l : List (α × Int)) (x : α) (v : Int) : Option (List (α × Int)) := if (mLook l x).isSome = true then none else some (l ++ [(x, v)])
/-- keys as they should be, and none twice -/
def mOk {α : Type} (ok : α → Prop) (l : List (α × Int)) : Prop := (l.map Prod.fst).Nodup ∧ ∀ q ∈ l, ok q.1
/-- what is to be known of a type of keys -/
structure KC (P : Program) (kt : TypeId) (α : Type) [Flat α] (ok : α → Prop) : Prop where
  law : WideMaps.KeyLaw P kt
  key : ∀ x, ok x → ∃ l, keyOf P kt (.agg (Flat.vals x).toArray) = some l
  inj : ∀ x y : α, Flat.vals x = Flat.vals y → x = y
def mapB (P : Program) (t : TypeId) : Option (TypeId × TypeId) := match P.underlying t with
  | some (.map k e) => some (k, e)
  | _ => none
theorem mapB_some {P : Program} {t k e : TypeId} (h : mapB P t = some (k, e)) : P.underlying t = some (.map k e) := by
  unfold mapB at h; split at h <;> simp_all

section
variable {P : Program} {w0 : World} {S0 : List Nat} {n : Nat} {fr : Fr} {is : List Item}
variable {dst : Option Nat} {ty : TypeId} {pos : String} {aft : Array Edge} {gd : Option (Nat × Bool)} {α : Type}

theorem Mm [Flat α] (ok : α → Prop) {t : TypeId} : Ef P w0 S0 n fr is ⟨dst, .makeMap t none, ty, pos, aft, gd⟩ (fun b : Nat => .map (some b)) (fun b => .pmap b (pme ([] : List (α × Int))) (mOk ok ([] : List (α × Int))) :: is) := by
  intro a w K Q hf hs hK
  unfold Oper.wp
  have he : (execOp a.eval ⟨dst, .makeMap t none, ty, pos, aft, gd⟩).run P w = .ok (.value (.map (some w.heap.size))) (w.alloc (.map #[] 0)) := by
    simp [execOp, Instr.makeMap, Result.andThen]
  rw [he]
  exact hK w.heap.size _ (hs.add (Chg.alloc w _ []) _ [w.heap.size] ⟨rfl, ⟨#[], 0, heap_alloc_new w _, rfl⟩, by simp [mOk]⟩ (by simp) (by simp))
theorem map_heap {w : World} {i b : Nat} {l : List (Value × Value)} {p : Prop} (hs : St w0 S0 is w) (hi : is[i]? = some (.pmap b l p)) : (∃ es clock, w.heap[b]? = some (.map es clock) ∧ es.toList.map (fun e => (e.key, e.val)) = l) ∧ p := by
  obtain ⟨_, _, _, _, _, S, hS, _, _⟩ := hs
  obtain ⟨A, hA, _⟩ := sats_get hi hS
  exact ⟨hA.2.1, hA.2.2⟩
theorem mLook_of [Flat α] [DecidableEq α] {kt : TypeId} {ok : α → Prop} (K : KC P kt α ok) : ∀ {es : List MapEntry} {l : List (α × Int)} {x : α}, es.map (fun e => (e.key, e.val)) = pme l → (l.map Prod.fst).Nodup → (∀ (j : Nat) (e : MapEntry), es[j]? = some e → e.key = Value.agg (Flat.vals x).toArray → (mLook l x).map (Value.int .i64) = some e.val) ∧ ((∀ e ∈ es, e.key ≠ Value.agg (Flat.vals x).toArray) → mLook l x = none) := by
  intro es
  induction es with
  | nil =>
    intro l x h _
    cases l with
    | nil => exact ⟨fun j e he => by simp at he, fun _ => rfl⟩
    | cons q l => cases h
  | cons e0 es ih =>
    intro l x h hn
    cases l with
    | nil => cases h
    | cons q l =>
      simp only [pme, List.map_cons, List.cons.injEq, Prod.mk.injEq] at h
      obtain ⟨⟨h1, h2⟩, h3⟩ := h
      obtain ⟨hn1, hn2⟩ := List.nodup_cons.1 hn
      obtain ⟨i1, i2⟩ := ih (l := l) (x := x) h3 hn2
      have hkey : e0.key = .agg (Flat.vals x).toArray ↔ q.1 = x := by
        rw [h1]
        constructor
        · intro e
          refine K.inj _ _ ?_
          injection e with e
          simpa using congrArg Array.toList e
        · rintro rfl; rfl
      by_cases c : q.1 = x
      · have hl : mLook (q :: l) x = some q.2 := by unfold mLook; rw [List.find?_cons, decide_eq_true c]; rfl
        refine ⟨fun j e he hk => ?_, fun hall => absurd (hkey.2 c) (hall e0 (by simp))⟩
        rw [hl]
        cases j with
        | zero =>
          simp only [List.getElem?_cons_zero, Option.some.injEq] at he
          subst he
          rw [h2]; rfl
        | succ j =>
          simp only [List.getElem?_cons_succ] at he
          have h4 : (mLook l x).map (Value.int .i64) = some e.val := i1 j e he hk
          have h5 : mLook l x = none := by
            unfold mLook
            rw [List.find?_eq_none.2 fun p hp => ?_]; rfl
            simp only [decide_eq_true_eq]
            intro e2
            exact hn1 (List.mem_map.2 ⟨p, hp, e2.trans c.symm⟩)
          rw [h5] at h4; cases h4
      · have hl : mLook (q :: l) x = mLook l x := by unfold mLook; rw [List.find?_cons, decide_eq_false c]
        rw [hl]
        refine ⟨fun j e he hk => ?_, fun hall => i2 fun e he => hall e (by simp [he])⟩
        cases j with
        | zero =>
          simp only [List.getElem?_cons_zero, Option.some.injEq] at he
          subst he
          exact absurd (hkey.1 hk) c
        | succ j =>
          simp only [List.getElem?_cons_succ] at he
          exact i1 j e he hk
theorem keys_of [Flat α] {kt : TypeId} {ok : α → Prop} (K : KC P kt α ok) {es : List MapEntry} {l : List (α × Int)} (h : es.map (fun e => (e.key, e.val)) = pme l) (hl : mOk ok l) : ∀ e ∈ es, ∃ q, keyOf P kt e.key = some q := by
  intro e he
  have : (e.key, e.val) ∈ pme l := by rw [← h]; exact List.mem_map.2 ⟨e, he, rfl⟩
  obtain ⟨q, hq, hqe⟩ := List.mem_map.1 this
  injection hqe with h1 h2
  rw [← h1]
  exact K.key _ (hl.2 q hq)
theorem Ml [Flat α] [DecidableEq α] {kt vt b : Nat} {ok : α → Prop} {l : List (α × Int)} {m y : Operand} {t : TypeId} (K : KC P kt α ok) (i : Nat) (x : α) (hok : ok x) (hm : mapB P t = some (kt, vt)) (hz : zeroB P vt = some (.int .i64 0))
    (h0 : (is[i]?, ev fr m, ev fr y) = (some (.pmap b (pme l) (mOk ok l)), some (.map (some b)), some (.agg (Flat.vals x).toArray))) :
    Y P w0 S0 n fr is ⟨dst, .lookup t m y true, ty, pos, aft, gd⟩ (.tuple #[.int .i64 ((mLook l x).getD 0), .bool (mLook l x).isSome]) := by
  simp only [Prod.mk.injEq] at h0
  obtain ⟨hi, hx, hy⟩ := h0
  intro a w hf hs
  obtain ⟨⟨es, clock, hb, he⟩, hl⟩ := map_heap hs hi
  obtain ⟨kl, hkey⟩ := K.key x hok
  obtain ⟨m1, m2⟩ := mLook_of K he hl.1 (x := x)
  rcases K.law.find w hkey es.toList (keys_of K he hl) with ⟨h1, h2⟩ | ⟨j, e0, h1, h2, h3⟩
  · rw [m2 h2]
    simp [execOp, hf.eval hx, hf.eval hy, Instr.lookup, run_underlying (mapB_some hm), MapKept.run_getObj_map hb, K.law.check w _ hkey, h1, zeroB_run hz, Result.andThen]
  · have h4 := m1 j e0 h2 h3
    cases hc : mLook l x with
    | none => rw [hc] at h4; cases h4
    | some v =>
      rw [hc] at h4
      simp only [Option.map_some, Option.some.injEq] at h4
      simp [execOp, hf.eval hx, hf.eval hy, Instr.lookup, run_underlying (mapB_some hm), MapKept.run_getObj_map hb, K.law.check w _ hkey, h1, Result.andThen, h4]
theorem Mu [Flat α] [DecidableEq α] {kt vt b : Nat} {ok : α → Prop} {l l' : List (α × Int)} {m y z : Operand} {t : TypeId} {v : Int} {is' : List Item} (K : KC P kt α ok) (i : Nat) (x : α) (hok : ok x) (hn : mNew l x v = some l') (hm : mapB P t = some (kt, vt))
    (h0 : (is[i]?, ev fr m, ev fr y, ev fr z) = (some (.pmap b (pme l) (mOk ok l)), some (.map (some b)), some (.agg (Flat.vals x).toArray), some (.int .i64 v))) (h1 : setK i is (.pmap b (pme l') (mOk ok l')) some = some is') :
    Ef P w0 S0 n fr is ⟨none, .mapUpdate t m y z, ty, pos, aft, gd⟩ (fun _ : Unit => undef) (fun _ => is') := by
  simp only [Prod.mk.injEq] at h0
  obtain ⟨hi, hx, hy, hz⟩ := h0
  have h4 := setK_eq h1
  cases h4
  intro a w Kk Q hf hs hK
  obtain ⟨⟨es, clock, hb, he⟩, hl⟩ := map_heap hs hi
  obtain ⟨kl, hkey⟩ := K.key x hok
  obtain ⟨m1, m2⟩ := mLook_of K he hl.1 (x := x)
  unfold mNew at hn
  split at hn
  · cases hn
  · rename_i hc
    cases hn
    have hc' : mLook l x = none := by simpa using hc
    have hnot : ∀ e ∈ es.toList, e.key ≠ .agg (Flat.vals x).toArray := by
      intro e hem hk
      obtain ⟨j, hj⟩ := List.mem_iff_getElem?.1 hem
      have := m1 j e hj hk
      rw [hc'] at this; cases this
    have hfind : (Instr.findKey kt (.agg (Flat.vals x).toArray) es.toList).run P w = .ok none w := by
      rcases K.law.find w hkey es.toList (keys_of K he hl) with ⟨h1, h2⟩ | ⟨j, e0, h1, h2, h3⟩
      · exact h1
      · exact absurd h3 (hnot e0 (List.mem_of_getElem? h2))
    have hrun : (execOp a.eval ⟨none, .mapUpdate t m y z, ty, pos, aft, gd⟩).run P w = .ok .skip { w with heap := w.heap.setIfInBounds b (.map (es.push { key := .agg (Flat.vals x).toArray, val := .int .i64 v, born := clock }) (clock + 1)) } := by
      simp [execOp, hf.eval hx, hf.eval hy, hf.eval hz, Instr.mapUpdate, run_underlying (mapB_some hm), MapKept.run_getObj_map hb, MapKept.run_setObj_map _ hb, K.law.check w _ hkey, hfind, Result.andThen]
    unfold Oper.wp
    rw [hrun]
    refine hK () _ ?_
    obtain ⟨g1, g2⟩ := MapKept.heap_set (o' := .map (es.push { key := .agg (Flat.vals x).toArray, val := .int .i64 v, born := clock }) (clock + 1)) hb
    refine hs.upd hi fun A hA hnd => ⟨[b], ?_, ⟨rfl, ⟨_, _, g1, ?_⟩, ?_, ?_⟩, by simp, fun q hq => .inl (by rw [hA.1]; exact hq)⟩
    · rw [hA.1]
      exact ⟨rfl, rfl, rfl, by simp, fun q _ hq => g2 q (by simpa using hq)⟩
    · simp [pme, he, List.map_append]
    · have : x ∉ l.map Prod.fst := by
        intro hm
        obtain ⟨q, hq, hqx⟩ := List.mem_map.1 hm
        unfold mLook at hc'
        have hno := List.find?_eq_none.1 (Option.map_eq_none_iff.1 hc') q hq
        simp [hqx] at hno
      rw [List.map_append, List.nodup_append]
      exact ⟨hl.1, by simp, fun a ha c hc e => by simp at hc; subst hc; subst e; exact this ha⟩
    · intro q hq
      rcases List.mem_append.1 hq with h | h
      · exact hl.2 q h
      · simp at h; subst h; exact hok
end
/-! ## the literals of a key -/
theorem kl_st {P : Program} {d t : Nat} {fs : Array Field} {cs : List Value} {ls : List (List Lit)} (hu : P.underlying t = some (.struct fs)) (hl : cs.length = P.cellsOf t) (ha : fs.all (·.name != "_") = true)
    (hm : fs.toList.mapM (fun f => P.keyLits d f.type ((cs.drop f.offset).take (P.cellsOf f.type))) = some ls) : P.keyLits (d + 1) t cs = some ls.flatten := by
  unfold Program.keyLits
  rw [hu]
  simp only [hl, ha, and_self, if_true, hm, Option.map]
theorem kl_int {P : Program} {d t : Nat} {n : Int} (hu : P.underlying t = some (.int .i64)) (h : -9223372036854775808 ≤ n ∧ n ≤ 9223372036854775807) : P.keyLits (d + 1) t [.int .i64 n] = some [.int .i64 n] := by
  unfold Program.keyLits
  rw [hu]
  have : (Lit.int .i64 n).wf = true := by
    show (decide ((-9223372036854775808 : Int) ≤ n) && decide (n ≤ (9223372036854775807 : Int))) = true
    simp [h]
  simp [this]
theorem kl_at {P : Program} {d t o : Nat} {cs r : List Value} {n : Int} (hu : P.underlying t = some (.int .i64)) (hc : P.cellsOf t = 1) (hk : cs.drop o = .int .i64 n :: r) (h : -9223372036854775808 ≤ n ∧ n ≤ 9223372036854775807) : P.keyLits (d + 1) t ((cs.drop o).take (P.cellsOf t)) = some [.int .i64 n] := by
  rw [hk, hc]
  exact kl_int hu h
theorem mo_c {α β : Type} {f : α → Option β} {a : α} {l : List α} {b : β} {bs : List β} (h : f a = some b) (hl : l.mapM f = some bs) : (a :: l).mapM f = some (b :: bs) := by
  rw [List.mapM_cons, h, hl]; rfl

end Go.Proofs.Ytfpbnddcbmfcaaa.Sl
