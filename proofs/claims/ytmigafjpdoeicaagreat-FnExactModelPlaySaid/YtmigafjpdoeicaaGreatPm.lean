/-
  Plain lemmas on the copies, sizes, comparisons and marks that the laws make, whatever the type. Generic: no statement about a given function.
-/
import Derived.Test.YtmigafjpdoeicaaGreatPl
namespace Go.Proofs.YtmigafjpdoeicaaGreat.Sl
open Go
/-! ### Sizes -/
def wS {α : Type} (w : α → Nat) (l : List α) : Nat := l.length + (l.map w).sum
theorem sum_mem {α : Type} (w : α → Nat) : ∀ {l : List α} {x : α}, x ∈ l → w x ≤ (l.map w).sum
  | y :: l, x, h => by
    rw [List.map_cons, List.sum_cons]
    rcases List.mem_cons.1 h with rfl | h
    · omega
    · have := sum_mem w h; omega
theorem sum_le {α : Type} (w : α → Nat) (m : Nat) : ∀ {l : List α}, (∀ x ∈ l, w x ≤ m) → (l.map w).sum ≤ m * l.length
  | [], _ => by simp
  | x :: l, h => by
    rw [List.map_cons, List.sum_cons, List.length_cons, Nat.mul_succ]
    have := sum_le w m (l := l) fun y hy => h y (by simp [hy])
    have := h x (by simp)
    omega
theorem wS_len {α : Type} {w : α → Nat} {l : List α} {n : Nat} (h : wS w l ≤ n) : l.length ≤ n := by unfold wS at h; omega
theorem wS_mem {α : Type} {w : α → Nat} {l : List α} {x : α} {n : Nat} (h : wS w l ≤ n) (hx : x ∈ l) : w x ≤ n := by
  have := sum_mem w hx
  unfold wS at h; omega
theorem sz_str {left : Int} {n w : Nat} {K : Option Int} (h1 : 0 ≤ left) (h2 : left ≤ 1048576) (hn : n ≤ 9223372036854775807)
    (hK : (n : Int) ≤ left → IntKind.i64.wrap (left - ((n : Nat) : Int)) = left - n → K = some (szV (left - n) w)) :
    (if (decide (IntKind.i64.wrap (left - ((n : Nat) : Int)) < (0 : Int))) = true then (some (-1 : Int)) else K) = some (szV left (n + w)) := by
  have hw : IntKind.i64.wrap (left - ((n : Nat) : Int)) = left - n := wrap_ok (by omega) (by omega)
  by_cases h : left < (n : Int)
  · rw [if_pos (by rw [hw]; simp; omega)]
    unfold szV
    rw [if_pos (by omega)]
  · rw [if_neg (by rw [hw]; simp; omega), hK (by omega) hw]
    unfold szV
    by_cases h3 : left - (n : Int) < (w : Int)
    · rw [if_pos h3, if_pos (by omega)]
    · rw [if_neg h3, if_neg (by omega)]
      congr 1
      omega
theorem sz_call {left : Int} {w w2 : Nat} {K : Int → Option Int} (h1 : 0 ≤ left) (hK : (w : Int) ≤ left → K (left - w) = some (szV (left - w) w2)) :
    ((some (szV left w)).bind fun R => if (decide (R < (0 : Int))) = true then (some (-1 : Int)) else K R) = some (szV left (w + w2)) := by
  simp only [Option.bind_some]
  by_cases h : left < (w : Int)
  · have : szV left w = -1 := by unfold szV; rw [if_pos h]
    rw [this, if_pos (by decide)]
    unfold szV
    rw [if_pos (by omega)]
  · have h2 : szV left w = left - w := by unfold szV; rw [if_neg h]
    rw [h2, if_neg (by simp; omega), hK (by omega)]
    unfold szV
    by_cases h3 : left - (w : Int) < (w2 : Int)
    · rw [if_pos h3, if_pos (by omega)]
    · rw [if_neg h3, if_neg (by omega)]
      congr 1
      omega
theorem sz_end {left : Int} (h : 0 ≤ left) : some left = some (szV left 0) := by
  unfold szV
  rw [if_neg (by simpa using h)]
  simp
/-! ### Comparisons -/
theorem eq_step {p q : Prop} [Decidable p] [Decidable q] {K : Option Bool} (h : p → K = some (decide q)) : (if (!(decide p)) = true then (some false) else K) = some (decide (p ∧ q)) := by
  by_cases hp : p
  · rw [if_neg (by simpa using hp), h hp]; simp [hp]
  · rw [if_pos (by simpa using hp)]; simp [hp]
theorem eq_call {p q : Prop} [Decidable p] [Decidable q] {K : Option Bool} (h : p → K = some (decide q)) : ((some (decide p)).bind fun R => if (!R) = true then (some false) else K) = some (decide (p ∧ q)) := eq_step h
theorem eq_end : some true = some (decide True) := rfl
/-! ### Marks -/
def mkL {α : Type} (mk : Int → α → α) (c : α → Nat) : Int → List α → List α
  | _, [] => []
  | k, x :: l => mk k x :: mkL mk c (k + c x) l
section
variable {α : Type} {mk : Int → α → α} {c : α → Nat}
theorem mkL_length : ∀ (l : List α) (k : Int), (mkL mk c k l).length = l.length
  | [], _ => rfl
  | _ :: l, k => by simp [mkL, mkL_length l]
theorem mkL_append : ∀ (l r : List α) (k : Int), mkL mk c k (l ++ r) = mkL mk c k l ++ mkL mk c (k + ((l.map c).sum : Nat)) r
  | [], _, k => by simp [mkL]
  | x :: l, r, k => by
    simp only [List.cons_append, mkL, List.map_cons, List.sum_cons]
    rw [mkL_append l r]
    congr 3
    omega
theorem mkL_get (l : List α) (k : Int) (i : Nat) (h : i < l.length) : (mkL mk c k l)[i]? = some (mk (k + (((l.take i).map c).sum : Nat)) l[i]) := by
  have hs : l = l.take i ++ l[i] :: l.drop (i + 1) := by rw [← List.drop_eq_getElem_cons h, List.take_append_drop]
  have hl : (mkL mk c k (l.take i)).length = i := by rw [mkL_length, List.length_take]; omega
  have : mkL mk c k l = mkL mk c k (l.take i) ++ mkL mk c (k + (((l.take i).map c).sum : Nat)) (l[i] :: l.drop (i + 1)) := by
    conv => lhs; rw [hs]
    rw [mkL_append]
  rw [this, List.getElem?_append_right (by omega), hl, Nat.sub_self]
  rfl
theorem sum_take_le (l : List α) (i : Nat) (h : i < l.length) : ((l.take i).map c).sum + c l[i] ≤ (l.map c).sum := by
  have hs : l = l.take i ++ l[i] :: l.drop (i + 1) := by rw [← List.drop_eq_getElem_cons h, List.take_append_drop]
  conv => rhs; rw [hs]
  rw [List.map_append, List.map_cons, List.sum_append, List.sum_cons]
  omega
theorem sum_take_succ (l : List α) (i : Nat) (h : i < l.length) : ((l.take (i + 1)).map c).sum = ((l.take i).map c).sum + c l[i] := by
  rw [List.take_add_one, List.getElem?_eq_getElem h]
  simp only [Option.toList_some, List.map_append, List.map_cons, List.map_nil, List.sum_append, List.sum_cons, List.sum_nil, Nat.add_zero]
theorem markV_loop {ρ : Type} {body : Int × Int × List α → Option (Ctl (Int × Int × List α) (Ctl (Int × List α) ρ))} (mk : Int → α → α) (c : α → Nat) (a : List α) (k : Int) (hk : 1 ≤ k) (hb : k + ((a.map c).sum : Nat) ≤ 4611686018427387904) (hl : a.length ≤ 4611686018427387904)
    (hbody : ∀ (q : Int) (i : Nat) (l : List α) (x : α), idx l (i : Int) = some x → x ∈ a → 1 ≤ q → q + c x ≤ 4611686018427387904 → l.length = a.length → i < a.length → body (q, (i : Int), l) = some (.go (q + c x, (i : Int) + 1, l.set i (mk q x))))
    (hdone : ∀ (q : Int) (l : List α), l.length = a.length → body (q, (l.length : Int), l) = some (.done (.go (q, l)))) :
    loopO body (k, (0 : Int), a) = some (.go (k + ((a.map c).sum : Nat), mkL mk c k a)) := by
  rw [loopO_count (fun j => (k + (((a.take j).map c).sum : Nat), (j : Int), mkL mk c k (a.take j) ++ a.drop j)) a.length (r := .go (k + ((a.map c).sum : Nat), mkL mk c k a)) ?h0]
  case h0 => simp [mkL]
  · intro j hj
    have h1 := sum_take_le (c := c) a j hj
    have hlen : (mkL mk c k (a.take j)).length = j := by rw [mkL_length, List.length_take]; omega
    have hx : idx (mkL mk c k (a.take j) ++ a.drop j) (j : Int) = some a[j] := by
      rw [idx_nat _ j (by rw [List.length_append, hlen, List.length_drop]; omega)]
      congr 1
      rw [List.getElem_append_right (by omega)]
      simp [hlen]
    rw [hbody _ j _ a[j] hx (List.getElem_mem _) (by omega) (by omega) (by rw [List.length_append, hlen, List.length_drop]; omega) hj, sum_take_succ a j hj]
    congr 3
    · omega
    congr 1
    rw [List.set_append_right _ _ (by omega), hlen, Nat.sub_self, List.drop_eq_getElem_cons hj, List.set_cons_zero]
    have ht : a.take (j + 1) = a.take j ++ [a[j]] := by rw [List.take_add_one, List.getElem?_eq_getElem hj]; rfl
    rw [ht, mkL_append, List.append_assoc]
    rfl
  · have := hdone (k + ((a.map c).sum : Nat)) (mkL mk c k a) (mkL_length a k)
    rw [mkL_length] at this
    simpa using this
theorem heldV_loop {ρ : Type} {body : Int × Int → Option (Ctl (Int × Int) ρ)} (mk : Int → α → α) (c : α → Nat) (a : List α) (k : Int) (r : ρ) (hk : 1 ≤ k) (hb : k + ((a.map c).sum : Nat) ≤ 4611686018427387904)
    (hbody : ∀ (q : Int) (i : Nat) (x : α), idx (mkL mk c k a) (i : Int) = some (mk q x) → x ∈ a → 1 ≤ q → q + c x ≤ 4611686018427387904 → i < a.length → body (q, (i : Int)) = some (.go (q + c x, (i : Int) + 1)))
    (hdone : body (k + ((a.map c).sum : Nat), (a.length : Int)) = some (.done r)) : loopO body (k, (0 : Int)) = some r := by
  rw [loopO_count (fun j => (k + (((a.take j).map c).sum : Nat), (j : Int))) a.length (r := r) ?h0]
  case h0 => simp
  · intro j hj
    have h1 := sum_take_le (c := c) a j hj
    have hx : idx (mkL mk c k a) (j : Int) = some (mk (k + (((a.take j).map c).sum : Nat)) a[j]) := by
      unfold idx
      rw [if_pos (by omega), Int.toNat_natCast, mkL_get a k j hj]
    rw [hbody _ j a[j] hx (List.getElem_mem _) (by omega) (by omega) hj, sum_take_succ a j hj]
    congr 3
    omega
  · simpa using hdone
end
end Go.Proofs.YtmigafjpdoeicaaGreat.Sl
