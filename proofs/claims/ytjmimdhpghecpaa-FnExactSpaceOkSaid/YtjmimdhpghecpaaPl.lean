/-
  Plain lemmas on what the loops and the limits of the pure functions come to. Generic: no statement about a given function.
-/
import Derived.Test.YtjmimdhpghecpaaSw
namespace Go.Proofs.Ytjmimdhpghecpaa.Sl
open Go

theorem wrap_ok {n : Int} (h1 : -9223372036854775808 ≤ n) (h2 : n ≤ 9223372036854775807) : IntKind.i64.wrap n = n := by
  rw [IntKind.wrap_i64]; omega

theorem idx_nat {α : Type} (l : List α) (k : Nat) (h : k < l.length) : idx l (k : Int) = some l[k] := by
  unfold idx; simp [h]
theorem idx_of {α : Type} (l : List α) (i : Int) (k : Nat) (hi : i = (k : Int)) (h : k < l.length) : idx l i = some l[k] := by
  subst hi; exact idx_nat l k h
theorem mkLen_ok {by_ : Nat} {n : Nat} (h1 : by_ * n ≤ 281474976710656) (h2 : n ≤ 9223372036854775807) : mkLen by_ (n : Int) = some n := by
  unfold mkLen
  have h3 : (by_ : Int) * (n : Int) ≤ 281474976710656 := by
    have : ((by_ * n : Nat) : Int) ≤ 281474976710656 := by omega
    rwa [Int.natCast_mul] at this
  rw [if_pos ⟨by omega, h3, by omega⟩, Int.toNat_natCast]
theorem app_ok {α : Type} {by_ : Nat} {l k : List α} (h1 : (l.length + k.length) * by_ ≤ 140737488355328) (h2 : l.length + k.length ≤ 9223372036854775807) : app by_ l k = some (l ++ k) := by
  unfold app; rw [if_pos ⟨h1, h2⟩]
theorem cat_ok {s u : List UInt8} (h : s.length + u.length ≤ 9223372036854775807) : cat s u = some (s ++ u) := by
  unfold cat; rw [if_pos h]

@[simp] theorem bindC_done {τ R : Type} (r : R) (k : τ → Option R) : bindC (some (.done r)) k = some r := rfl
@[simp] theorem bindC_go {τ R : Type} (t : τ) (k : τ → Option R) : bindC (some (.go t)) k = k t := rfl

/-- a loop whose rounds are known -/
theorem loopO_count {τ ρ : Type} {body : τ → Option (Ctl τ ρ)} {t0 : τ} (f : Nat → τ) (n : Nat) {r : ρ} (h0 : t0 = f 0) (h : ∀ k, k < n → body (f k) = some (.go (f (k + 1)))) (hn : body (f n) = some (.done r)) : loopO body t0 = some r := by
  subst h0
  have key : ∀ j, j ≤ n → loopO body (f (n - j)) = some r := by
    intro j
    induction j with
    | zero => intro _; rw [loopO_eq, Nat.sub_zero, hn]
    | succ j ih =>
      intro hj
      rw [loopO_eq, h (n - (j + 1)) (by omega)]
      simp only
      rw [show n - (j + 1) + 1 = n - j by omega]
      exact ih (by omega)
  have := key n (Nat.le_refl _)
  rwa [Nat.sub_self] at this

/-- a list gone through, with a way out -/
def runL {α σ ρ : Type} (step : Nat → α → σ → Option (Ctl σ ρ)) (fin : σ → Option ρ) : Nat → List α → σ → Option ρ
  | _, [], s => fin s
  | k, x :: l, s => match step k x s with
    | some (.go s') => runL step fin (k + 1) l s'
    | some (.done r) => some r
    | none => none

def Ctl.mapGo {σ τ ρ : Type} (f : σ → τ) : Ctl σ ρ → Ctl τ ρ
  | .go s => .go (f s)
  | .done r => .done r

theorem loopO_list {α σ τ ρ : Type} {body : τ → Option (Ctl τ ρ)} {t0 : τ} (a : List α) (mk : Nat → σ → τ) (step : Nat → α → σ → Option (Ctl σ ρ)) (fin : σ → Option ρ) (s0 : σ) (h0 : t0 = mk 0 s0)
    (hstep : ∀ k (h : k < a.length) s, body (mk k s) = (step k a[k] s).map (Ctl.mapGo (mk (k + 1)))) (hfin : ∀ s, body (mk a.length s) = (fin s).map .done) :
    loopO body t0 = runL step fin 0 a s0 := by
  subst h0
  have key : ∀ (r l : List α) (s : σ), a = l ++ r → loopO body (mk l.length s) = runL step fin l.length r s := by
    intro r
    induction r with
    | nil =>
      intro l s h
      rw [List.append_nil] at h
      subst h
      rw [loopO_eq, hfin, runL]
      cases fin s <;> rfl
    | cons x r ih =>
      intro l s h
      have hl : l.length < a.length := by rw [h]; simp
      have hx : a[l.length] = x := by simp [h]
      rw [loopO_eq, hstep l.length hl s, hx, runL]
      cases hs : step l.length x s with
      | none => rfl
      | some c =>
        cases c with
        | done r => rfl
        | go s' =>
          simp only [Option.map_some, Ctl.mapGo]
          have := ih (l ++ [x]) s' (by rw [h]; simp)
          simpa using this
  exact key a [] s0 rfl

/-- .. without a way out: a fold -/
theorem runL_fold {α σ ρ : Type} {step : Nat → α → σ → Option (Ctl σ ρ)} {fin : σ → Option ρ} (g : Nat → α → σ → σ) : ∀ (l : List α) (k : Nat) (s : σ), (∀ k x s, step k x s = some (.go (g k x s))) →
    runL step fin k l s = fin ((l.zipIdx k).foldl (fun s p => g p.2 p.1 s) s)
  | [], _, _, _ => rfl
  | x :: l, k, s, h => by
    rw [runL, h]
    simp only [List.zipIdx_cons, List.foldl_cons]
    exact runL_fold g l (k + 1) _ h

/-- .. with a test at each round and nothing kept -/
theorem runL_all {α ρ : Type} {step : Nat → α → Unit → Option (Ctl Unit ρ)} {fin : Unit → Option ρ} (p : α → Bool) (r0 : ρ) : ∀ (l : List α) (k : Nat), (∀ k x, x ∈ l → step k x () = if p x then some (.go ()) else some (.done r0)) →
    runL step fin k l () = if l.all p then fin () else some r0
  | [], _, _ => rfl
  | x :: l, k, h => by
    rw [runL, h k x (by simp)]
    cases hp : p x with
    | false => simp [hp]
    | true =>
      simp only [if_true]
      rw [runL_all p r0 l (k + 1) fun k y hy => h k y (by simp [hy])]
      simp [hp]

theorem set_take {α : Type} (a : List α) (k m : Nat) (z : α) (h : k < a.length) (hm : m = a.length) : (a.take k ++ List.replicate (m - k) z).set k a[k] = a.take (k + 1) ++ List.replicate (m - (k + 1)) z := by
  subst hm
  apply List.ext_getElem?
  intro j
  simp only [List.getElem?_set, List.getElem?_append, List.length_append, List.length_take, List.length_replicate, List.getElem?_take, List.getElem?_replicate]
  rcases Nat.lt_trichotomy j k with hj | hj | hj
  · simp [hj, show k ≠ j by omega, show min k a.length = k by omega, show j < min (k + 1) a.length by omega, show j < k + 1 by omega]
  · subst hj
    simp [show min j a.length = j by omega, show j < min (j + 1) a.length by omega, h]
    omega
  · simp only [show k ≠ j by omega, if_false, show min k a.length = k by omega, show min (k + 1) a.length = k + 1 by omega, show ¬ j < k by omega, show ¬ j < k + 1 by omega]
    by_cases h2 : j - k < a.length - k
    · rw [if_pos h2, if_pos (by omega)]
    · rw [if_neg h2, if_neg (by omega)]

end Go.Proofs.Ytjmimdhpghecpaa.Sl
