/-
  Plain lemmas on what the loops and the limits of the pure functions come to. Generic: no statement about a given function.
-/
import Derived.Test.YtkikmcdmklkdpaaGreatSw
namespace Go.Proofs.YtkikmcdmklkdpaaGreat.Sl
open Go
theorem wrap_ok {n : Int} (h1 : -9223372036854775808 ≤ n) (h2 : n ≤ 9223372036854775807) : IntKind.i64.wrap n = n := by
  rw [IntKind.wrap_i64]; omega
theorem idx_nat {α : Type} (l : List α) (k : Nat) (h : k < l.length) : idx l (k : Int) = some l[k] := by
  unfold idx; simp [h]
theorem app_ok {α : Type} {by_ : Nat} {l k : List α} (h1 : (l.length + k.length) * by_ ≤ 140737488355328) (h2 : l.length + k.length ≤ 9223372036854775807) : app by_ l k = some (l ++ k) := by
  unfold app; rw [if_pos ⟨h1, h2⟩]
theorem cat_ok {s u : List UInt8} (h : s.length + u.length ≤ 9223372036854775807) : cat s u = some (s ++ u) := by
  unfold cat; rw [if_pos h]
@[simp] theorem bindC_done {τ R : Type} (r : R) (k : τ → Option R) : bindC (some (.done r)) k = some r := rfl
@[simp] theorem bindC_go {τ R : Type} (t : τ) (k : τ → Option R) : bindC (some (.go t)) k = k t := rfl
theorem loopO_count {τ ρ : Type} {body : τ → Option (Ctl τ ρ)} {t0 : τ} (f : Nat → τ) (n : Nat) {r : ρ} (h0 : t0 = f 0) (h : ∀ k, k < n → body (f k) = some (.go (f (k + 1)))) (hn : body (f n) = some (.done r)) : loopO body t0 = some r := by
  subst h0
  have key : ∀ j, j ≤ n → loopO body (f (n - j)) = some r := by
    intro j
    induction j with
    | zero => intro _; rw [loopO_eq, Nat.sub_zero, hn]
    | succ j ih =>
      intro hj
      rw [loopO_eq, h (n - (j + 1)) (by omega)]
      simp only
      rw [show n - (j + 1) + 1 = n - j by omega]
      exact ih (by omega)
  have := key n (Nat.le_refl _)
  rwa [Nat.sub_self] at this
def runL {α σ ρ : Type} (step : Nat → α → σ → Option (Ctl σ ρ)) (fin : σ → Option ρ) : Nat → List α → σ → Option ρ
  | _, [], s => fin s
  | k, x :: l, s => match step k x s with
    | some (.go s') => runL step fin (k + 1) l s'
    | some (.done r) => some r
    | none => none
def Ctl.mapGo {σ τ ρ : Type} (f : σ → τ) : Ctl σ ρ → Ctl τ ρ
  | .go s => .go (f s)
  | .done r => .done r
theorem loopO_list {α σ τ ρ : Type} {body : τ → Option (Ctl τ ρ)} {t0 : τ} (a : List α) (mk : Nat → σ → τ) (step : Nat → α → σ → Option (Ctl σ ρ)) (fin : σ → Option ρ) (s0 : σ) (h0 : t0 = mk 0 s0)
    (hstep : ∀ k (h : k < a.length) s, body (mk k s) = (step k a[k] s).map (Ctl.mapGo (mk (k + 1)))) (hfin : ∀ s, body (mk a.length s) = (fin s).map .done) :
    loopO body t0 = runL step fin 0 a s0 := by
  subst h0
  have key : ∀ (r l : List α) (s : σ), a = l ++ r → loopO body (mk l.length s) = runL step fin l.length r s := by
    intro r
    induction r with
    | nil =>
      intro l s h
      rw [List.append_nil] at h
      subst h
      rw [loopO_eq, hfin, runL]
      cases fin s <;> rfl
    | cons x r ih =>
      intro l s h
      have hl : l.length < a.length := by rw [h]; simp
      have hx : a[l.length] = x := by simp [h]
      rw [loopO_eq, hstep l.length hl s, hx, runL]
      cases hs : step l.length x s with
      | none => rfl
      | some c =>
        cases c with
        | done r => rfl
        | go s' =>
          simp only [Option.map_some, Ctl.mapGo]
          have := ih (l ++ [x]) s' (by rw [h]; simp)
          simpa using this
  exact key a [] s0 rfl
theorem runL_all {α ρ : Type} {step : Nat → α → Unit → Option (Ctl Unit ρ)} {fin : Unit → Option ρ} (p : α → Bool) (r0 : ρ) : ∀ (l : List α) (k : Nat), (∀ k x, x ∈ l → step k x () = if p x then some (.go ()) else some (.done r0)) →
    runL step fin k l () = if l.all p then fin () else some r0
  | [], _, _ => rfl
  | x :: l, k, h => by
    rw [runL, h k x (by simp)]
    cases hp : p x with
    | false => simp [hp]
    | true =>
      simp only [if_true]
      rw [runL_all p r0 l (k + 1) fun k y hy => h k y (by simp [hy])]
      simp [hp]
/-! ### The loops of the laws: copies, comparisons, sums, marks -/
section
variable {α : Type}
theorem zip_all_eq [DecidableEq α] {a b : List α} (hl : a.length = b.length) : (a.zip b).all (fun x => decide (x.1 = x.2)) = decide (a = b) := by
  induction a generalizing b with
  | nil => cases b with | nil => rfl | cons y b => simp at hl
  | cons x a ih =>
    cases b with
    | nil => simp at hl
    | cons y b =>
      simp only [List.zip_cons_cons, List.all_cons, ih (by simpa using hl)]
      by_cases h : x = y <;> simp [h]
theorem eq_loop [DecidableEq α] (a b : List α) (f : α → α → Option Bool) (hf : ∀ x y, x ∈ a → y ∈ b → f x y = some (decide (x = y))) (hl : a.length = b.length) (h63 : a.length ≤ 4611686018427387904) :
    loopO (ρ := Ctl Unit Bool) (fun (S2 : Int) => if (decide (S2 < ((a.length : Nat) : Int))) = true then ((idx a S2).bind fun E7 => (idx b S2).bind fun E9 => (f E7 E9).bind fun R11 =>
      if (!R11) = true then (some (.done (.done false))) else (some (.go (IntKind.i64.wrap (S2 + (1 : Int)))))) else (some (.done (.go ())))) (0 : Int) = some (if a = b then .go () else .done false) := by
  rw [loopO_list (a.zip b) (fun k (_ : Unit) => (k : Int)) (fun _ x _ => if x.1 = x.2 then some (Ctl.go ()) else some (Ctl.done (Ctl.done false))) (fun _ => some (Ctl.go ())) () ?h0 ?hs ?hf]
  case h0 => rfl
  case hs =>
    intro k hk _
    have hk' : k < a.length := by simp at hk; omega
    simp only [idx_nat a k hk', idx_nat b k (by omega), Option.bind_some, List.getElem_zip, hf a[k] b[k] (List.getElem_mem _) (List.getElem_mem _)]
    rw [wrap_ok (by omega) (by omega)]
    by_cases he : a[k] = b[k]
    · simp [he, Ctl.mapGo, hk']
    · simp [he, Ctl.mapGo, hk']
  case hf => intro _; simp [hl]
  rw [runL_all (fun x => decide (x.1 = x.2)) (Ctl.done false) _ _ (by intro k x _; simp), zip_all_eq hl]
  by_cases he : a = b <;> simp [he]
theorem eqS_of [DecidableEq α] (a b : List α) (f : α → α → Option Bool) (hf : ∀ x y, x ∈ a → y ∈ b → f x y = some (decide (x = y))) (h63 : a.length ≤ 4611686018427387904) :
    (if (!(decide (((a.length : Nat) : Int) = ((b.length : Nat) : Int)))) = true then (some false) else (bindC (loopO (fun (S2 : Int) => if (decide (S2 < ((a.length : Nat) : Int))) = true then ((idx a S2).bind fun E7 => (idx b S2).bind fun E9 => (f E7 E9).bind fun R11 =>
      if (!R11) = true then (some (.done (.done false))) else (some (.go (IntKind.i64.wrap (S2 + (1 : Int)))))) else (some (.done (.go ())))) (0 : Int)) (fun (_ : Unit) => some true))) = some (decide (a = b)) := by
  by_cases hl : a.length = b.length
  · rw [if_neg (by simp [hl]), eq_loop a b f hf hl h63]
    by_cases he : a = b <;> simp [he]
  · have : a ≠ b := fun e => hl (by rw [e])
    rw [if_pos (by simp; omega)]
    simp [this]
end
theorem loopO_total {τ ρ : Type} {body : τ → Option (Ctl τ ρ)} {s0 : τ} (I : Nat → τ → Prop) (n : Nat) (Q : ρ → Prop) (h0 : I 0 s0)
    (h : ∀ k s, k < n → I k s → (∃ s', body s = some (.go s') ∧ I (k + 1) s') ∨ (∃ r, body s = some (.done r) ∧ Q r)) (hn : ∀ s, I n s → ∃ r, body s = some (.done r) ∧ Q r) : ∃ r, loopO body s0 = some r ∧ Q r := by
  have key : ∀ j k s, k + j = n → I k s → ∃ r, loopO body s = some r ∧ Q r := by
    intro j
    induction j with
    | zero =>
      intro k s hk hI
      obtain rfl : k = n := by omega
      obtain ⟨r, hr, hq⟩ := hn s hI
      exact ⟨r, by rw [loopO_eq, hr], hq⟩
    | succ j ih =>
      intro k s hk hI
      rcases h k s (by omega) hI with ⟨s', hs, hI'⟩ | ⟨r, hr, hq⟩
      · obtain ⟨r, hr, hq⟩ := ih (k + 1) s' (by omega) hI'
        exact ⟨r, by rw [loopO_eq, hs]; exact hr, hq⟩
      · exact ⟨r, by rw [loopO_eq, hr], hq⟩
  exact key n 0 s0 (by omega) h0
theorem loopO_is {τ ρ : Type} {body : τ → Option (Ctl τ ρ)} {s0 : τ} (I : Nat → τ → Prop) (n : Nat) (r : ρ) (h0 : I 0 s0)
    (h : ∀ k s, k < n → I k s → (∃ s', body s = some (.go s') ∧ I (k + 1) s') ∨ body s = some (.done r)) (hn : ∀ s, I n s → body s = some (.done r)) : loopO body s0 = some r := by
  obtain ⟨r', hr, rfl⟩ := loopO_total (ρ := ρ) I n (fun x => x = r) h0 (fun k s hk hI => (h k s hk hI).imp id fun h => ⟨r, h, rfl⟩) fun s hI => ⟨r, hn s hI, rfl⟩
  exact hr
end Go.Proofs.YtkikmcdmklkdpaaGreat.Sl
