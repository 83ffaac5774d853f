/-
  A small separation logic over the model's heap: what a value reads as, which blocks a call owns, and the rules by which a function's code is walked. Generic: no statement about a given function.
-/
import Derived.WalkKit
import Derived.WalkLawsBesides
namespace Go.Proofs.YtmigafjpdoeicaaGreat.Sl
open Go Go.RowKit
inductive C where
  | int (k : IntKind) (n : Int)
  | bool (b : Bool)
  | str (s : List UInt8)
  | sl (sz : Nat) (n : Nat) (cs : List C)
  | raw (v : Value)
  | any
def strV (s : List UInt8) : Value := .string ⟨s.toArray⟩
/-! ### Reading -/
mutual
inductive Rd (w : World) : Value → C → List Nat → Prop
  | int (k : IntKind) (n : Int) : Rd w (.int k n) (.int k n) []
  | bool (b : Bool) : Rd w (.bool b) (.bool b) []
  | str (s : List UInt8) : Rd w (strV s) (.str s) []
  | raw (v : Value) : v.oneCell' = true → Rd w v (.raw v) []
  | any (v : Value) : v.oneCell' = true → Rd w v .any []
  | nil (sz : Nat) : Rd w (.slice none 0 0) (.sl sz 0 []) []
  | row (a : Addr) (n cap sz : Nat) (vs : List Value) (cs : List C) (S : List Nat) : vs.length = n * sz → n ≤ cap → (∀ j, j < n * sz → w.cell? (a.add j) = vs[j]?) →
      Rds w vs cs S → Rd w (.slice (some a) n cap) (.sl sz n cs) ((if n * sz = 0 then [] else [a.block]) ++ S)
inductive Rds (w : World) : List Value → List C → List Nat → Prop
  | nil : Rds w [] [] []
  | cons (v : Value) (c : C) (S : List Nat) (vs : List Value) (cs : List C) (T : List Nat) : Rd w v c S → Rds w vs cs T → Rds w (v :: vs) (c :: cs) (S ++ T)
end
mutual
inductive Ow (w : World) : Value → C → List Nat → Prop
  | int (k : IntKind) (n : Int) : Ow w (.int k n) (.int k n) []
  | bool (b : Bool) : Ow w (.bool b) (.bool b) []
  | str (s : List UInt8) : Ow w (strV s) (.str s) []
  | raw (v : Value) : v.oneCell' = true → Ow w v (.raw v) []
  | any (v : Value) : v.oneCell' = true → Ow w v .any []
  | nil (sz : Nat) : Ow w (.slice none 0 0) (.sl sz 0 []) []
  | row (b n cap e sz : Nat) (cur : Array Value) (vs : List Value) (cs : List C) (S : List Nat) : w.heap[b]? = some (.cells cur e (0, 0)) → n ≤ cap → cap ≤ maxLen → cap * sz ≤ cur.size →
      cur.toList.take (n * sz) = vs → Ows w vs cs S → Ow w (.slice (some ⟨b, 0, none⟩) n cap) (.sl sz n cs) (b :: S)
inductive Ows (w : World) : List Value → List C → List Nat → Prop
  | nil : Ows w [] [] []
  | cons (v : Value) (c : C) (S : List Nat) (vs : List Value) (cs : List C) (T : List Nat) : Ow w v c S → Ows w vs cs T → Ows w (v :: vs) (c :: cs) (S ++ T)
end
theorem cell_of_heap {w w' : World} {a : Addr} (h : w'.heap[a.block]? = w.heap[a.block]?) : w'.cell? a = w.cell? a := World.cell?_of_block h
theorem add_block (a : Addr) (j : Nat) : (a.add j).block = a.block := by unfold Addr.add; split <;> rfl
mutual
theorem Rd.keep {w w' : World} {v : Value} {c : C} {S : List Nat} (h : Rd w v c S) (hk : ∀ b ∈ S, w'.heap[b]? = w.heap[b]?) : Rd w' v c S := by
  cases h with
  | int k n => exact .int k n
  | bool b => exact .bool b
  | str s => exact .str s
  | raw v h1 => exact .raw v h1
  | any v h1 => exact .any v h1
  | nil sz => exact .nil sz
  | row a n cap sz vs cs S hl hc hcell hr =>
    refine .row a n cap sz vs cs S hl hc ?_ (hr.keep fun b hb => hk b (List.mem_append.2 (.inr hb)))
    intro j hj
    rw [← hcell j hj]
    refine cell_of_heap ?_
    rw [add_block]
    exact hk _ (List.mem_append.2 (.inl (by rw [if_neg (by omega)]; exact List.mem_singleton.2 rfl)))
theorem Rds.keep {w w' : World} {vs : List Value} {cs : List C} {S : List Nat} (h : Rds w vs cs S) (hk : ∀ b ∈ S, w'.heap[b]? = w.heap[b]?) : Rds w' vs cs S := by
  cases h with
  | nil => exact .nil
  | cons v c S vs cs T h1 h2 => exact .cons v c S vs cs T (h1.keep fun b hb => hk b (List.mem_append.2 (.inl hb))) (h2.keep fun b hb => hk b (List.mem_append.2 (.inr hb)))
end
mutual
theorem Ow.keep {w w' : World} {v : Value} {c : C} {S : List Nat} (h : Ow w v c S) (hk : ∀ b ∈ S, w'.heap[b]? = w.heap[b]?) : Ow w' v c S := by
  cases h with
  | int k n => exact .int k n
  | bool b => exact .bool b
  | str s => exact .str s
  | raw v h1 => exact .raw v h1
  | any v h1 => exact .any v h1
  | nil sz => exact .nil sz
  | row b n cap e sz cur vs cs S hh hc hm hs ht hr =>
    exact .row b n cap e sz cur vs cs S ((hk b (List.mem_cons.2 (.inl rfl))).trans hh) hc hm hs ht (hr.keep fun b hb => hk b (List.mem_cons.2 (.inr hb)))
theorem Ows.keep {w w' : World} {vs : List Value} {cs : List C} {S : List Nat} (h : Ows w vs cs S) (hk : ∀ b ∈ S, w'.heap[b]? = w.heap[b]?) : Ows w' vs cs S := by
  cases h with
  | nil => exact .nil
  | cons v c S vs cs T h1 h2 => exact .cons v c S vs cs T (h1.keep fun b hb => hk b (List.mem_append.2 (.inl hb))) (h2.keep fun b hb => hk b (List.mem_append.2 (.inr hb)))
end
theorem Rds.length {w : World} {vs : List Value} {cs : List C} {S : List Nat} (h : Rds w vs cs S) : vs.length = cs.length := by
  induction cs generalizing vs S with
  | nil => cases h; rfl
  | cons c cs ih => cases h with | cons v c S vs cs T h1 h2 => simp [ih h2]
theorem Ows.length {w : World} {vs : List Value} {cs : List C} {S : List Nat} (h : Ows w vs cs S) : vs.length = cs.length := by
  induction cs generalizing vs S with
  | nil => cases h; rfl
  | cons c cs ih => cases h with | cons v c S vs cs T h1 h2 => simp [ih h2]
mutual
theorem Ow.rd {w : World} {v : Value} {c : C} {S : List Nat} (h : Ow w v c S) : ∃ T, Rd w v c T ∧ ∀ b ∈ T, b ∈ S := by
  cases h with
  | int k n => exact ⟨[], .int k n, by simp⟩
  | bool b => exact ⟨[], .bool b, by simp⟩
  | str s => exact ⟨[], .str s, by simp⟩
  | raw v h1 => exact ⟨[], .raw v h1, by simp⟩
  | any v h1 => exact ⟨[], .any v h1, by simp⟩
  | nil sz => exact ⟨[], .nil sz, by simp⟩
  | row b n cap e sz cur vs cs S hh hc hm hs ht hr =>
    obtain ⟨T, hT, hsub⟩ := hr.rds
    have hle : n * sz ≤ cap * sz := Nat.mul_le_mul_right _ hc
    refine ⟨_, .row ⟨b, 0, none⟩ n cap sz vs cs T ?_ hc ?_ hT, ?_⟩
    · rw [← ht, List.length_take, Array.length_toList]; omega
    · intro j hj
      have hadd : (⟨b, 0, none⟩ : Addr).add j = ⟨b, j, none⟩ := by unfold Addr.add; split <;> simp_all
      rw [hadd, cell_of_row w b j cur e (0, 0) hh, ← ht, List.getElem?_take, if_pos hj]
      simp
    · intro x hx
      rcases List.mem_append.1 hx with hx | hx
      · split at hx
        · cases hx
        · exact List.mem_cons.2 (.inl (by simpa using hx))
      · exact List.mem_cons.2 (.inr (hsub x hx))
theorem Ows.rds {w : World} {vs : List Value} {cs : List C} {S : List Nat} (h : Ows w vs cs S) : ∃ T, Rds w vs cs T ∧ ∀ b ∈ T, b ∈ S := by
  cases h with
  | nil => exact ⟨[], .nil, by simp⟩
  | cons v c S vs cs T h1 h2 =>
    obtain ⟨S', hS, hs⟩ := h1.rd
    obtain ⟨T', hT, ht⟩ := h2.rds
    refine ⟨_, .cons v c S' vs cs T' hS hT, ?_⟩
    intro x hx
    rcases List.mem_append.1 hx with hx | hx
    · exact List.mem_append.2 (.inl (hs x hx))
    · exact List.mem_append.2 (.inr (ht x hx))
end
theorem Rds.append {w : World} {vs us : List Value} {cs ds : List C} {S T : List Nat} (h : Rds w vs cs S) (k : Rds w us ds T) : Rds w (vs ++ us) (cs ++ ds) (S ++ T) := by
  induction cs generalizing vs S with
  | nil => cases h; exact k
  | cons c cs ih => cases h with | cons v c S vs cs U h1 h2 => rw [List.append_assoc]; exact .cons v c S _ _ _ h1 (ih h2)
theorem Ows.append {w : World} {vs us : List Value} {cs ds : List C} {S T : List Nat} (h : Ows w vs cs S) (k : Ows w us ds T) : Ows w (vs ++ us) (cs ++ ds) (S ++ T) := by
  induction cs generalizing vs S with
  | nil => cases h; exact k
  | cons c cs ih => cases h with | cons v c S vs cs U h1 h2 => rw [List.append_assoc]; exact .cons v c S _ _ _ h1 (ih h2)
theorem Rds.split {w : World} {vs : List Value} {cs ds : List C} {S : List Nat} (h : Rds w vs (cs ++ ds) S) :
    ∃ S1 S2, S = S1 ++ S2 ∧ Rds w (vs.take cs.length) cs S1 ∧ Rds w (vs.drop cs.length) ds S2 := by
  induction cs generalizing vs S with
  | nil => exact ⟨[], S, rfl, .nil, by simpa using h⟩
  | cons c cs ih =>
    cases h with
    | cons v c S vs cs' U h1 h2 =>
      obtain ⟨S1, S2, rfl, k1, k2⟩ := ih h2
      exact ⟨S ++ S1, S2, by simp, by simpa using Rds.cons v c S _ _ S1 h1 k1, by simpa using k2⟩
theorem Ows.split {w : World} {vs : List Value} {cs ds : List C} {S : List Nat} (h : Ows w vs (cs ++ ds) S) :
    ∃ S1 S2, S = S1 ++ S2 ∧ Ows w (vs.take cs.length) cs S1 ∧ Ows w (vs.drop cs.length) ds S2 := by
  induction cs generalizing vs S with
  | nil => exact ⟨[], S, rfl, .nil, by simpa using h⟩
  | cons c cs ih =>
    cases h with
    | cons v c S vs cs' U h1 h2 =>
      obtain ⟨S1, S2, rfl, k1, k2⟩ := ih h2
      exact ⟨S ++ S1, S2, by simp, by simpa using Ows.cons v c S _ _ S1 h1 k1, by simpa using k2⟩
mutual
theorem Rd.lt {w : World} {v : Value} {c : C} {S : List Nat} (h : Rd w v c S) : ∀ b ∈ S, b < w.heap.size := by
  cases h with
  | int k n => simp
  | bool b => simp
  | str s => simp
  | raw v h1 => simp
  | any v h1 => simp
  | nil sz => simp
  | row a n cap sz vs cs S hl hc hcell hr =>
    intro b hb
    rcases List.mem_append.1 hb with hb | hb
    · split at hb
      · cases hb
      · rename_i hne
        have h0 := hcell 0 (by omega)
        have hv : vs[0]? = some (vs[0]'(by omega)) := List.getElem?_eq_getElem (by omega)
        rw [hv] at h0
        have := World.block_lt_of_cell? w _ h0
        rw [add_block] at this
        simp only [List.mem_singleton] at hb
        omega
    · exact hr.lt b hb
theorem Rds.lt {w : World} {vs : List Value} {cs : List C} {S : List Nat} (h : Rds w vs cs S) : ∀ b ∈ S, b < w.heap.size := by
  cases h with
  | nil => simp
  | cons v c S vs cs T h1 h2 =>
    intro b hb
    rcases List.mem_append.1 hb with hb | hb
    · exact h1.lt b hb
    · exact h2.lt b hb
end
mutual
theorem Ow.lt {w : World} {v : Value} {c : C} {S : List Nat} (h : Ow w v c S) : ∀ b ∈ S, b < w.heap.size := by
  cases h with
  | int k n => simp
  | bool b => simp
  | str s => simp
  | raw v h1 => simp
  | any v h1 => simp
  | nil sz => simp
  | row b n cap e sz cur vs cs S hh hc hm hs ht hr =>
    intro x hx
    rcases List.mem_cons.1 hx with rfl | hx
    · exact (Array.getElem?_eq_some_iff.1 hh).1
    · exact hr.lt x hx
theorem Ows.lt {w : World} {vs : List Value} {cs : List C} {S : List Nat} (h : Ows w vs cs S) : ∀ b ∈ S, b < w.heap.size := by
  cases h with
  | nil => simp
  | cons v c S vs cs T h1 h2 =>
    intro b hb
    rcases List.mem_append.1 hb with hb | hb
    · exact h1.lt b hb
    · exact h2.lt b hb
end
/-! ### The items that a call owns, and what the heap holds -/
inductive Item where
  | box (b : Nat) (t : TypeId) (vs : List Value)
  | own (v : Value) (c : C)
  | ows (us : List Value) (cs : List C)
  | buf (v : Value) (e : TypeId) (l : List UInt8)
  | frz (v : Value) (e : TypeId) (l : List UInt8)
  | alt (v : Value) (c : C) (vp : Value) (cp : C)
  | pmap (b : Nat) (l : List (Value × Value)) (p : Prop)
def Buf (w : World) (v : Value) (e : TypeId) (l : List UInt8) (S : List Nat) : Prop :=
  (v = .slice none 0 0 ∧ l = [] ∧ S = []) ∨ ∃ g cap cur, v = .slice (some ⟨g, 0, none⟩) l.length cap ∧ w.heap[g]? = some (.cells cur e (0, 0)) ∧ l.length ≤ cap ∧ cap ≤ maxLen ∧ cur.size = cap ∧
    cur.toList.take l.length = l.map (fun x => Value.int .u8 x.toNat) ∧ S = [g]
def Frz (w : World) (v : Value) (e : TypeId) (l : List UInt8) (S : List Nat) : Prop :=
  ∃ g cap cur, v = .slice (some ⟨g, 0, none⟩) l.length cap ∧ w.heap[g]? = some (.cells cur e (cap, cap + 1)) ∧ l.length ≤ cap ∧ cur.size = cap ∧ cur.toList.take l.length = l.map (fun x => Value.int .u8 x.toNat) ∧ S = [g]
def Item.sat (w : World) : Item → List Nat → Prop
  | .box b t vs, S => S = [b] ∧ w.heap[b]? = some (.cells vs.toArray t (0, 0))
  | .own v c, S => Ow w v c S
  | .ows us cs, S => Ows w us cs S
  | .buf v e l, S => Buf w v e l S
  | .frz v e l, S => Frz w v e l S
  | .alt v c vp cp, S => Ow w v c S ∨ (S = [] ∧ v = vp ∧ c = cp)
  | .pmap b l p, S => S = [b] ∧ (∃ es clock, w.heap[b]? = some (.map es clock) ∧ es.toList.map (fun e => (e.key, e.val)) = l) ∧ p
theorem Item.sat_keep {w w' : World} {i : Item} {S : List Nat} (h : i.sat w S) (hk : ∀ b ∈ S, w'.heap[b]? = w.heap[b]?) : i.sat w' S := by
  cases i with
  | box b t vs => exact ⟨h.1, (hk b (by rw [h.1]; exact List.mem_singleton.2 rfl)).trans h.2⟩
  | own v c => exact Ow.keep h hk
  | ows us cs => exact Ows.keep h hk
  | buf v e l =>
    rcases h with h | ⟨g, cap, cur, h1, h2, h3, h4, h5, h6, h7⟩
    · exact .inl h
    · exact .inr ⟨g, cap, cur, h1, (hk g (by rw [h7]; exact List.mem_singleton.2 rfl)).trans h2, h3, h4, h5, h6, h7⟩
  | frz v e l =>
    obtain ⟨g, cap, cur, h1, h2, h3, h4, h5, h6⟩ := h
    exact ⟨g, cap, cur, h1, (hk g (by rw [h6]; exact List.mem_singleton.2 rfl)).trans h2, h3, h4, h5, h6⟩
  | alt v c vp cp => exact h.imp (fun h => Ow.keep h hk) id
  | pmap b l p =>
    obtain ⟨h1, ⟨es, clock, h2, h3⟩, h4⟩ := h
    exact ⟨h1, ⟨es, clock, (hk b (by rw [h1]; exact List.mem_singleton.2 rfl)).trans h2, h3⟩, h4⟩
theorem Item.sat_lt {w : World} {i : Item} {S : List Nat} (h : i.sat w S) : ∀ b ∈ S, b < w.heap.size := by
  cases i with
  | box b t vs =>
    intro x hx
    rw [h.1, List.mem_singleton] at hx
    subst hx
    exact (Array.getElem?_eq_some_iff.1 h.2).1
  | own v c => exact Ow.lt h
  | ows us cs => exact Ows.lt h
  | buf v e l =>
    rcases h with ⟨_, _, h⟩ | ⟨g, cap, cur, h1, h2, h3, h4, h5, h6, h7⟩
    · rw [h]; simp
    · intro x hx
      rw [h7, List.mem_singleton] at hx
      subst hx
      exact (Array.getElem?_eq_some_iff.1 h2).1
  | frz v e l =>
    obtain ⟨g, cap, cur, h1, h2, h3, h4, h5, h6⟩ := h
    intro x hx
    rw [h6, List.mem_singleton] at hx
    subst hx
    exact (Array.getElem?_eq_some_iff.1 h2).1
  | alt v c vp cp =>
    rcases h with h | h
    · exact Ow.lt h
    · rw [h.1]; simp
  | pmap b l p =>
    obtain ⟨h1, ⟨es, clock, h2, h3⟩, h4⟩ := h
    intro x hx
    rw [h1, List.mem_singleton] at hx
    subst hx
    exact (Array.getElem?_eq_some_iff.1 h2).1
def sats (w : World) : List Item → List Nat → Prop
  | [], S => S = []
  | i :: r, S => ∃ A B, S = A ++ B ∧ i.sat w A ∧ sats w r B
theorem sats_keep {w w' : World} : ∀ {is : List Item} {S : List Nat}, sats w is S → (∀ b ∈ S, w'.heap[b]? = w.heap[b]?) → sats w' is S
  | [], _, h, _ => h
  | _ :: _, _, ⟨A, B, hS, h1, h2⟩, hk =>
    ⟨A, B, hS, Item.sat_keep h1 (fun b hb => hk b (by rw [hS]; exact List.mem_append.2 (.inl hb))), sats_keep h2 (fun b hb => hk b (by rw [hS]; exact List.mem_append.2 (.inr hb)))⟩
theorem sats_lt {w : World} : ∀ {is : List Item} {S : List Nat}, sats w is S → ∀ b ∈ S, b < w.heap.size
  | [], _, h, b, hb => by rw [show _ = [] from h] at hb; cases hb
  | _ :: _, _, ⟨A, B, hS, h1, h2⟩, b, hb => by
    rw [hS] at hb
    rcases List.mem_append.1 hb with hb | hb
    · exact Item.sat_lt h1 b hb
    · exact sats_lt h2 b hb
theorem sats_append {w : World} : ∀ {is js : List Item} {S : List Nat}, sats w (is ++ js) S ↔ ∃ A B, S = A ++ B ∧ sats w is A ∧ sats w js B
  | [], js, S => ⟨fun h => ⟨[], S, rfl, rfl, h⟩, fun ⟨A, B, hS, h1, h2⟩ => by rw [show A = [] from h1] at hS; rw [hS]; exact h2⟩
  | i :: is, js, S => by
    constructor
    · rintro ⟨A, B, rfl, h1, h2⟩
      obtain ⟨A', B', rfl, h3, h4⟩ := sats_append.1 h2
      exact ⟨A ++ A', B', by simp, ⟨A, A', rfl, h1, h3⟩, h4⟩
    · rintro ⟨A, B, rfl, ⟨A1, A2, rfl, h1, h2⟩, h3⟩
      exact ⟨A1, A2 ++ B, by simp, h1, sats_append.2 ⟨A2, B, rfl, h2, h3⟩⟩
structure St (w0 : World) (S0 : List Nat) (is : List Item) (w : World) : Prop where
  os : w.os = w0.os
  tape : w.tape = w0.tape
  output : w.output = w0.output
  size : w0.heap.size ≤ w.heap.size
  base : ∀ b, b < w0.heap.size → b ∉ S0 → w.heap[b]? = w0.heap[b]?
  own : ∃ S, sats w is S ∧ S.Nodup ∧ ∀ b ∈ S, b ∈ S0 ∨ w0.heap.size ≤ b
theorem St.start {w0 : World} {S0 : List Nat} {is : List Item} (h : sats w0 is S0) (hn : S0.Nodup) : St w0 S0 is w0 :=
  ⟨rfl, rfl, rfl, Nat.le_refl _, fun _ _ _ => rfl, S0, h, hn, fun _ hb => .inl hb⟩
theorem St.nil (w0 : World) : St w0 [] [] w0 := St.start rfl List.nodup_nil
structure Chg (w w' : World) (A : List Nat) : Prop where
  os : w'.os = w.os
  tape : w'.tape = w.tape
  output : w'.output = w.output
  size : w.heap.size ≤ w'.heap.size
  keep : ∀ b, b < w.heap.size → b ∉ A → w'.heap[b]? = w.heap[b]?
theorem Chg.refl (w : World) (A : List Nat) : Chg w w A := ⟨rfl, rfl, rfl, Nat.le_refl _, fun _ _ _ => rfl⟩
theorem Chg.alloc (w : World) (o : Obj) (A : List Nat) : Chg w (w.alloc o) A :=
  ⟨rfl, rfl, rfl, by simp, fun _ hb _ => heap_alloc_old w o hb⟩
theorem Chg.drew (w : World) (A : List Nat) : Chg w w.drew A := ⟨rfl, rfl, rfl, Nat.le_refl _, fun _ _ _ => rfl⟩
theorem St.step {w0 w w' : World} {S0 : List Nat} {is js r : List Item} (h : St w0 S0 (is ++ r) w)
    (hs : ∀ A, sats w is A → A.Nodup → ∃ A', Chg w w' A ∧ sats w' js A' ∧ A'.Nodup ∧ ∀ b ∈ A', b ∈ A ∨ w.heap.size ≤ b) : St w0 S0 (js ++ r) w' := by
  obtain ⟨os, tape, output, size, base, S, hS, hnd, hin⟩ := h
  obtain ⟨A, B, rfl, h1, h2⟩ := sats_append.1 hS
  obtain ⟨hndA, hndB, hdis⟩ := List.nodup_append.1 hnd
  obtain ⟨A', hc, h3, hnd', hA'⟩ := hs A h1 hndA
  have hBlt := sats_lt h2
  have hAlt := sats_lt h1
  have hB : sats w' r B := sats_keep h2 fun b hb => hc.keep b (hBlt b hb) (fun hA => hdis b hA b hb rfl)
  refine ⟨hc.os.trans os, hc.tape.trans tape, hc.output.trans output, Nat.le_trans size hc.size, ?_, A' ++ B, sats_append.2 ⟨A', B, rfl, h3, hB⟩, ?_, ?_⟩
  · intro b hb hb0
    rw [hc.keep b (Nat.lt_of_lt_of_le hb size) ?_]
    · exact base b hb hb0
    · intro hA
      rcases hin b (List.mem_append.2 (.inl hA)) with h | h
      · exact hb0 h
      · omega
  · refine List.nodup_append.2 ⟨hnd', hndB, ?_⟩
    intro x hx y hy hxy
    subst hxy
    rcases hA' x hx with h | h
    · exact hdis x h x hy rfl
    · have := hBlt x hy; omega
  · intro b hb
    rcases List.mem_append.1 hb with hb | hb
    · rcases hA' b hb with h | h
      · exact hin b (List.mem_append.2 (.inl h))
      · right; omega
    · exact hin b (List.mem_append.2 (.inr hb))
theorem St.same {w0 w w' : World} {S0 : List Nat} {is : List Item} (h : St w0 S0 is w) (hc : Chg w w' []) : St w0 S0 is w' := by
  have := St.step (is := []) (js := []) (r := is) (w' := w') h (fun A hA _ => ⟨[], ⟨hc.os, hc.tape, hc.output, hc.size, fun b hb _ => hc.keep b hb (by simp)⟩, rfl, List.nodup_nil, by simp⟩)
  exact this
theorem St.add {w0 w w' : World} {S0 : List Nat} {is : List Item} (h : St w0 S0 is w) (hc : Chg w w' []) (i : Item) (A' : List Nat) (hi : i.sat w' A') (hn : A'.Nodup) (hA : ∀ b ∈ A', w.heap.size ≤ b) :
    St w0 S0 (i :: is) w' :=
  St.step (is := []) (js := [i]) (r := is) (w' := w') h (fun A _ _ => ⟨A', ⟨hc.os, hc.tape, hc.output, hc.size, fun b hb _ => hc.keep b hb (by simp)⟩, ⟨A', [], by simp, hi, rfl⟩, hn, fun b hb => .inr (hA b hb)⟩)
def pull : Nat → List Item → Option (Item × List Item)
  | _, [] => none
  | 0, i :: r => some (i, r)
  | k + 1, i :: r => match pull k r with
    | some (j, r') => some (j, i :: r')
    | none => none
theorem sats_pull {w : World} : ∀ {k : Nat} {is : List Item} {i : Item} {r : List Item} {S : List Nat}, pull k is = some (i, r) → sats w is S →
    ∃ A B, i.sat w A ∧ sats w r B ∧ (A ++ B).Perm S := by
  intro k
  induction k with
  | zero =>
    intro is i r S hp hs
    cases is with
    | nil => simp [pull] at hp
    | cons j is =>
      simp only [pull, Option.some.injEq, Prod.mk.injEq] at hp
      obtain ⟨rfl, rfl⟩ := hp
      obtain ⟨A, B, rfl, h1, h2⟩ := hs
      exact ⟨A, B, h1, h2, .refl _⟩
  | succ k ih =>
    intro is i r S hp hs
    cases is with
    | nil => simp [pull] at hp
    | cons j is =>
      obtain ⟨A, B, rfl, h1, h2⟩ := hs
      simp only [pull] at hp
      cases hq : pull k is with
      | none => rw [hq] at hp; simp at hp
      | some x =>
        obtain ⟨i', r'⟩ := x
        rw [hq] at hp
        simp only [Option.some.injEq, Prod.mk.injEq] at hp
        obtain ⟨rfl, rfl⟩ := hp
        obtain ⟨A', B', h3, h4, hperm⟩ := ih hq h2
        refine ⟨A', A ++ B', h3, ⟨A, B', rfl, h1, h4⟩, ?_⟩
        calc (A' ++ (A ++ B')).Perm ((A' ++ A) ++ B') := by rw [List.append_assoc]
          _ |>.Perm ((A ++ A') ++ B') := List.Perm.append_right _ List.perm_append_comm
          _ |>.Perm (A ++ (A' ++ B')) := by rw [List.append_assoc]
          _ |>.Perm (A ++ B) := List.Perm.append_left _ hperm
def pulls : List Nat → List Item → Option (List Item)
  | [], _ => some []
  | k :: ks, is => match pull k is with
    | some (i, r) => match pulls ks r with
      | some js => some (i :: js)
      | none => none
    | none => none
theorem sats_pulls {w : World} : ∀ {ks : List Nat} {is js : List Item} {S : List Nat}, pulls ks is = some js → sats w is S →
    ∃ A B, sats w js A ∧ (A ++ B).Perm S := by
  intro ks
  induction ks with
  | nil =>
    intro is js S hp hs
    simp only [pulls, Option.some.injEq] at hp
    subst hp
    exact ⟨[], S, rfl, .refl _⟩
  | cons k ks ih =>
    intro is js S hp hs
    simp only [pulls] at hp
    cases hq : pull k is with
    | none => rw [hq] at hp; simp at hp
    | some x =>
      obtain ⟨i, r⟩ := x
      rw [hq] at hp
      simp only at hp
      cases hq2 : pulls ks r with
      | none => rw [hq2] at hp; simp at hp
      | some js' =>
        rw [hq2] at hp
        simp only [Option.some.injEq] at hp
        subst hp
        obtain ⟨A, B, h1, h2, hperm⟩ := sats_pull hq hs
        obtain ⟨A', B', h3, hperm'⟩ := ih hq2 h2
        refine ⟨A ++ A', B', ⟨A, A', rfl, h1, h3⟩, ?_⟩
        rw [List.append_assoc]
        exact (List.Perm.append_left A hperm').trans hperm
theorem St.pulls {w0 w : World} {S0 : List Nat} {is js : List Item} (h : St w0 S0 is w) (ks : List Nat) (hp : Sl.pulls ks is = some js) : St w0 S0 js w := by
  obtain ⟨os, tape, output, size, base, S, hS, hnd, hin⟩ := h
  obtain ⟨A, B, h1, hperm⟩ := sats_pulls hp hS
  have hnd' : (A ++ B).Nodup := hperm.nodup_iff.2 hnd
  exact ⟨os, tape, output, size, base, A, h1, (List.nodup_append.1 hnd').1, fun b hb => hin b (hperm.mem_iff.1 (List.mem_append.2 (.inl hb)))⟩
/-! ### What can be read -/
def Base (w0 : World) (S0 : List Nat) (v : Value) (c : C) : Prop := ∃ F, Rd w0 v c F ∧ ∀ b ∈ F, b ∉ S0
def Can (w0 : World) (S0 : List Nat) (is : List Item) (v : Value) (c : C) : Prop :=
  ∀ w S, sats w is S → (∀ b, b < w0.heap.size → b ∉ S0 → w.heap[b]? = w0.heap[b]?) → ∃ F, Rd w v c F ∧ ∀ b ∈ F, (b < w0.heap.size ∧ b ∉ S0) ∨ b ∈ S
theorem Base.can {w0 : World} {S0 : List Nat} {is : List Item} {v : Value} {c : C} (h : Base w0 S0 v c) : Can w0 S0 is v c := by
  obtain ⟨F, hF, hn⟩ := h
  exact fun w S _ hb => ⟨F, hF.keep fun b hbF => hb b (hF.lt b hbF) (hn b hbF), fun b hbF => .inl ⟨hF.lt b hbF, hn b hbF⟩⟩
theorem sats_get {w : World} : ∀ {k : Nat} {is : List Item} {i : Item} {S : List Nat}, is[k]? = some i → sats w is S → ∃ A, i.sat w A ∧ ∀ b ∈ A, b ∈ S := by
  intro k
  induction k with
  | zero =>
    intro is i S hi hs
    cases is with
    | nil => simp at hi
    | cons j is =>
      simp only [List.getElem?_cons_zero, Option.some.injEq] at hi
      subst hi
      obtain ⟨A, B, rfl, h1, h2⟩ := hs
      exact ⟨A, h1, fun b hb => List.mem_append.2 (.inl hb)⟩
  | succ k ih =>
    intro is i S hi hs
    cases is with
    | nil => simp at hi
    | cons j is =>
      simp only [List.getElem?_cons_succ] at hi
      obtain ⟨A, B, rfl, h1, h2⟩ := hs
      obtain ⟨A', h3, h4⟩ := ih hi h2
      exact ⟨A', h3, fun b hb => List.mem_append.2 (.inr (h4 b hb))⟩
theorem Can.own {w0 : World} {S0 : List Nat} {is : List Item} {v : Value} {c : C} (k : Nat) (h : is[k]? = some (.own v c)) : Can w0 S0 is v c := by
  intro w S hs _
  obtain ⟨A, hA, hsub⟩ := sats_get h hs
  obtain ⟨T, hT, ht⟩ := Ow.rd hA
  exact ⟨T, hT, fun b hb => .inr (hsub b (ht b hb))⟩
theorem Can.alt {w0 : World} {S0 : List Nat} {is : List Item} {v vp : Value} {c cp : C} (k j : Nat) (h : is[k]? = some (.alt v c vp cp)) (hj : is[j]? = some (.own vp cp)) : Can w0 S0 is v c := by
  intro w S hs hb
  obtain ⟨A, hA, hsub⟩ := sats_get h hs
  rcases hA with hA | ⟨_, rfl, rfl⟩
  · obtain ⟨T, hT, ht⟩ := Ow.rd hA
    exact ⟨T, hT, fun b hb => .inr (hsub b (ht b hb))⟩
  · exact Can.own j hj w S hs hb
theorem Can.plain {w0 : World} {S0 : List Nat} {is : List Item} {v : Value} {c : C} (h : ∀ w, Rd w v c []) : Can w0 S0 is v c :=
  fun w _ _ _ => ⟨[], h w, by simp⟩
theorem Can.get {w0 w : World} {S0 : List Nat} {is : List Item} {v : Value} {c : C} (h : Can w0 S0 is v c) (hs : St w0 S0 is w) : ∃ F, Rd w v c F := by
  obtain ⟨_, _, _, _, base, S, hS, _, _⟩ := hs
  obtain ⟨F, hF, _⟩ := h w S hS base
  exact ⟨F, hF⟩
theorem Can.pulls {w0 : World} {S0 : List Nat} {is js : List Item} {v : Value} {c : C} (h : Can w0 S0 js v c) (ks : List Nat) (hp : Sl.pulls ks is = some js) : Can w0 S0 is v c := by
  intro w S hs hb
  obtain ⟨A, B, h1, hperm⟩ := sats_pulls hp hs
  obtain ⟨F, hF, hn⟩ := h w A h1 hb
  exact ⟨F, hF, fun b hbF => (hn b hbF).imp id fun h => hperm.mem_iff.1 (List.mem_append.2 (.inl h))⟩
/-! ### A frame: what the slots that still matter hold -/
abbrev Fr := List (Nat × Value)
def lk (k : Nat) : Fr → Option Value
  | [] => none
  | (j, v) :: r => bif Nat.beq k j then some v else lk k r
structure FrOk (n : Nat) (fr : Fr) (a : Act) : Prop where
  size : a.tmps.size = n
  defers : a.defers = []
  get : ∀ k v, lk k fr = some v → a.tmps[k]? = some v
def ev (fr : Fr) : Operand → Option Value
  | .tmp t => lk t fr
  | .const v => some v
  | .global g => some (.pointer (some ⟨g, 0, none⟩))
  | .func f => some (.func (.func f) #[] #[])
def evs (fr : Fr) : List Operand → Option (List Value)
  | [] => some []
  | o :: r => match ev fr o with
    | some v => match evs fr r with
      | some vs => some (v :: vs)
      | none => none
    | none => none
theorem FrOk.eval {n : Nat} {fr : Fr} {a : Act} {o : Operand} {v : Value} (h : FrOk n fr a) (e : ev fr o = some v) : a.eval o = v := by
  cases o with
  | tmp t =>
    have := h.get t v e
    simp [Act.eval, Array.getD_eq_getD_getElem?, this]
  | _=>simpa [ev, Act.eval] using e
theorem FrOk.evals {n : Nat} {fr : Fr} {a : Act} : ∀ {os : List Operand} {vs : List Value}, FrOk n fr a → evs fr os = some vs → os.map a.eval = vs
  | [], vs, _, e => by simpa [evs] using e
  | o :: os, vs, h, e => by
    unfold evs at e
    cases h1 : ev fr o with
    | none => rw [h1] at e; cases e
    | some v =>
      cases h2 : evs fr os with
      | none => rw [h1, h2] at e; cases e
      | some us =>
        rw [h1, h2] at e
        simp only [Option.some.injEq] at e
        subst e
        simp [h.eval h1, FrOk.evals h h2]
theorem FrOk.put {n : Nat} {fr : Fr} {a : Act} (h : FrOk n fr a) {d : Nat} (hd : Nat.blt d n = true) (v : Value) : FrOk n ((d, v) :: fr) (a.put (some d) v) := by
  have hd' : d < n := by simpa using hd
  refine ⟨by simp [Act.put, h.size], h.defers, ?_⟩
  intro k u hk
  simp only [lk] at hk
  by_cases e : k = d
  · subst e
    have : Nat.beq k k = true := by simp
    rw [this] at hk
    simp only [cond_true, Option.some.injEq] at hk
    subst hk
    have hs := h.size
    simp only [Act.put]
    rw [Array.getElem?_setIfInBounds]
    simp [hs, hd']
  · have : Nat.beq k d = false := by
      cases hb : Nat.beq k d with
      | false => rfl
      | true => exact absurd (by simpa using hb) e
    rw [this] at hk
    simp only [cond_false] at hk
    have := h.get k u hk
    simp only [Act.put]
    rw [Array.getElem?_setIfInBounds, if_neg (by omega)]
    exact this
def Sub : Fr → Fr → Prop
  | [], _ => True
  | (k, v) :: r, fr => lk k fr = some v ∧ Sub r fr
theorem FrOk.sub {n : Nat} {fr fr' : Fr} {a : Act} (h : FrOk n fr a) (hs : Sub fr' fr) : FrOk n fr' a := by
  refine ⟨h.size, h.defers, ?_⟩
  intro k v hk
  refine h.get k v ?_
  clear h
  induction fr' with
  | nil => simp [lk] at hk
  | cons x r ih =>
    obtain ⟨j, u⟩ := x
    obtain ⟨h1, h2⟩ := hs
    simp only [lk] at hk
    cases hb : Nat.beq k j with
    | true =>
      rw [hb] at hk
      simp only [cond_true, Option.some.injEq] at hk
      have : k = j := by simpa using hb
      subst this; subst hk; exact h1
    | false =>
      rw [hb] at hk
      exact ih h2 (by simpa using hk)
def argFr : Nat → List Value → Fr
  | _, [] => []
  | k, v :: r => (k, v) :: argFr (k + 1) r
theorem lk_argFr : ∀ (vs : List Value) (k j : Nat) (v : Value), lk j (argFr k vs) = some v → k ≤ j ∧ vs[j - k]? = some v
  | [], _, _, _, h => by simp [argFr, lk] at h
  | u :: r, k, j, v, h => by
    simp only [argFr, lk] at h
    cases hb : Nat.beq j k with
    | true =>
      rw [hb] at h
      have : j = k := by simpa using hb
      subst this
      simp only [cond_true, Option.some.injEq] at h
      subst h
      simp
    | false =>
      rw [hb] at h
      simp only [cond_false] at h
      obtain ⟨h1, h2⟩ := lk_argFr r (k + 1) j v h
      refine ⟨by omega, ?_⟩
      have : j - k = (j - (k + 1)) + 1 := by omega
      rw [this]
      simpa using h2
theorem FrOk.enter (args : List Value) (n : Nat) (h : args.length ≤ n) :
    FrOk n (argFr 0 args) { tmps := args.toArray ++ Array.replicate (n - args.toArray.size) undef, defers := [] } := by
  refine ⟨by simp; omega, rfl, ?_⟩
  intro k v hk
  have := (lk_argFr args 0 k v hk).2
  simp only [Nat.sub_zero] at this
  have hlt : k < args.length := by
    rcases Nat.lt_or_ge k args.length with h | h
    · exact h
    · rw [List.getElem?_eq_none h] at this; cases this
  show (args.toArray ++ Array.replicate (n - args.toArray.size) undef)[k]? = some v
  rw [Array.getElem?_append_left (by simpa using hlt)]
  simpa using this
/-! ### The judgements: 'm' is what the code computes -/
section
variable (P : Program) (w0 : World) (S0 : List Nat)
def TW {R : Type} (m : Option R) (n : Nat) (fr : Fr) (is : List Item) (c : Code) (Q : R → Exit → Act → World → Prop) : Prop :=
  ∀ r, m = some r → ∀ a w, FrOk n fr a → St w0 S0 is w → c.wp P (Q r) a w
def TO {R : Type} (m : Option R) (n : Nat) (fr : Fr) (is : List Item) (ops : Array Oper) (l : List Oper) (Q : R → Exit → Act → World → Prop) : Prop :=
  ∀ r, m = some r → ∀ a w, FrOk n fr a → St w0 S0 is w → wpList P ops (Q r) l a w
def TE {R : Type} (m : Option R) (n : Nat) (fr : Fr) (is : List Item) (e : Exit) (Q : R → Exit → Act → World → Prop) : Prop :=
  ∀ r, m = some r → ∀ a w, FrOk n fr a → St w0 S0 is w → Q r e a w
end
section
variable {P : Program} {w0 : World} {S0 : List Nat} {R : Type} {m : Option R} {n : Nat} {fr : Fr} {is : List Item} {Q : R → Exit → Act → World → Prop}
theorem TW.seq {x y : Code} (h : TW P w0 S0 m n fr is x (fun r => Exit.then (y.wp P (Q r)) (Q r))) : TW P w0 S0 m n fr is (.seq x y) Q :=
  fun r hr a w hf hs => wp_seq (h r hr a w hf hs)
theorem TW.region {id : Nat} {l : List Oper} (h : TO P w0 S0 m n fr is l.toArray l Q) : TW P w0 S0 m n fr is (.region id l.toArray false) Q :=
  fun r hr a w hf hs => wp_region_lit (h r hr a w hf hs)
theorem TO.nil {ops : Array Oper} (h : TE w0 S0 m n fr is .normal Q) : TO P w0 S0 m n fr is ops [] Q := h
theorem TE.next {y : Code} {Q' : R → Exit → Act → World → Prop} (h : TW P w0 S0 m n fr is y Q) : TE w0 S0 m n fr is .normal (fun r => Exit.then (y.wp P (Q r)) (Q' r)) := h
theorem TW.block {id : Nat} {c : Code} (h : TW P w0 S0 m n fr is c (fun r => Exit.inBlock id (Q r))) : TW P w0 S0 m n fr is (.block id c) Q :=
  fun r hr a w hf hs => wp_block (h r hr a w hf hs)
theorem TW.skip (h : TE w0 S0 m n fr is .normal Q) : TW P w0 S0 m n fr is .skip Q :=
  fun r hr a w hf hs => wp_skip (h r hr a w hf hs)
theorem TW.ret (h : TE w0 S0 m n fr is .ret Q) : TW P w0 S0 m n fr is .ret Q :=
  fun r hr a w hf hs => wp_ret (h r hr a w hf hs)
theorem TW.exit {id : Nat} (h : TE w0 S0 m n fr is (.exit id) Q) : TW P w0 S0 m n fr is (.exit id) Q :=
  fun r hr a w hf hs => wp_exit (h r hr a w hf hs)
theorem TW.cond {c : Operand} {x y : Code} {b : Bool} {m1 m2 : Option R} (hc : ev fr c = some (.bool b)) (h1 : b = true → TW P w0 S0 m1 n fr is x Q) (h2 : b = false → TW P w0 S0 m2 n fr is y Q) :
    TW P w0 S0 (if b = true then m1 else m2) n fr is (.cond c x y) Q := by
  intro r hr a w hf hs
  have he := hf.eval hc
  cases b with
  | true => exact wp_cond_true he (h1 rfl r (by simpa using hr) a w hf hs)
  | false => exact wp_cond_false he (h2 rfl r (by simpa using hr) a w hf hs)
theorem TW.cond_true {c : Operand} {x y : Code} (hc : ev fr c = some (.bool true)) (h1 : TW P w0 S0 m n fr is x Q) : TW P w0 S0 m n fr is (.cond c x y) Q :=
  fun r hr a w hf hs => wp_cond_true (hf.eval hc) (h1 r hr a w hf hs)
theorem TW.cond_false {c : Operand} {x y : Code} (hc : ev fr c = some (.bool false)) (h1 : TW P w0 S0 m n fr is y Q) : TW P w0 S0 m n fr is (.cond c x y) Q :=
  fun r hr a w hf hs => wp_cond_false (hf.eval hc) (h1 r hr a w hf hs)
theorem TO.bind {X : Type} {p : Option X} {k : X → Option R} {ops : Array Oper} {l : List Oper} (h : ∀ x, p = some x → TO P w0 S0 (k x) n fr is ops l Q) :
    TO P w0 S0 (p.bind k) n fr is ops l Q := by
  intro r hr a w hf hs
  cases p with
  | none => cases hr
  | some x => exact h x rfl r hr a w hf hs
theorem TW.bind {X : Type} {p : Option X} {k : X → Option R} {c : Code} (h : ∀ x, p = some x → TW P w0 S0 (k x) n fr is c Q) :
    TW P w0 S0 (p.bind k) n fr is c Q := by
  intro r hr a w hf hs
  cases p with
  | none => cases hr
  | some x => exact h x rfl r hr a w hf hs
theorem TE.leaf {r : R} {e : Exit} (h : ∀ a w, FrOk n fr a → St w0 S0 is w → Q r e a w) : TE w0 S0 (some r) n fr is e Q := by
  intro r' hr a w hf hs
  cases hr
  exact h a w hf hs
end
/-! ### Loops, and ways that meet again -/
inductive Ctl (σ ρ : Type) where
  | go (s : σ)
  | done (r : ρ)
def loopN {σ ρ : Type} (body : σ → Option (Ctl σ ρ)) : Nat → σ → Option ρ
  | 0, _ => none
  | k + 1, s => match body s with
    | some (.go s') => loopN body k s'
    | some (.done r) => some r
    | none => none
theorem loopN_mono {σ ρ : Type} {body : σ → Option (Ctl σ ρ)} : ∀ {k j : Nat} {s : σ} {r : ρ}, loopN body k s = some r → k ≤ j → loopN body j s = some r
  | 0, _, _, _, h, _ => by simp [loopN] at h
  | k + 1, 0, _, _, _, hj => by omega
  | k + 1, j + 1, s, r, h, hj => by
    unfold loopN at h ⊢
    split at h
    · exact loopN_mono h (by omega)
    · exact h
    · cases h
noncomputable def loopO {σ ρ : Type} (body : σ → Option (Ctl σ ρ)) (s : σ) : Option ρ :=
  open Classical in if h : ∃ k r, loopN body k s = some r then some h.choose_spec.choose else none
theorem loopO_some {σ ρ : Type} {body : σ → Option (Ctl σ ρ)} {s : σ} {r : ρ} : loopO body s = some r ↔ ∃ k, loopN body k s = some r := by
  constructor
  · intro h
    unfold loopO at h
    split at h
    · rename_i hx
      cases h
      exact ⟨hx.choose, hx.choose_spec.choose_spec⟩
    · cases h
  · rintro ⟨k, hk⟩
    unfold loopO
    have hx : ∃ k r, loopN body k s = some r := ⟨k, r, hk⟩
    rw [dif_pos hx]
    have h1 := loopN_mono hx.choose_spec.choose_spec (Nat.le_max_left hx.choose k)
    have h2 := loopN_mono hk (Nat.le_max_right hx.choose k)
    rw [h1] at h2
    exact h2
theorem loopO_eq {σ ρ : Type} (body : σ → Option (Ctl σ ρ)) (s : σ) :
    loopO body s = match body s with
      | some (.go s') => loopO body s'
      | some (.done r) => some r
      | none => none := by
  cases hb : body s with
  | none =>
    cases h1 : loopO body s with
    | none => rfl
    | some r =>
      obtain ⟨k, hk⟩ := loopO_some.1 h1
      cases k with
      | zero => simp [loopN] at hk
      | succ k => unfold loopN at hk; rw [hb] at hk; cases hk
  | some x =>
    cases x with
    | done r => exact loopO_some.2 ⟨1, by unfold loopN; rw [hb]⟩
    | go s' =>
      simp only
      cases h1 : loopO body s' with
      | some r =>
        obtain ⟨k, hk⟩ := loopO_some.1 h1
        exact loopO_some.2 ⟨k + 1, by unfold loopN; rw [hb]; exact hk⟩
      | none =>
        cases h2 : loopO body s with
        | none => rfl
        | some r =>
          obtain ⟨k, hk⟩ := loopO_some.1 h2
          cases k with
          | zero => simp [loopN] at hk
          | succ k =>
            unfold loopN at hk
            rw [hb] at hk
            rw [loopO_some.2 ⟨k, hk⟩] at h1
            cases h1
def bindC {τ R : Type} (m : Option (Ctl τ R)) (k : τ → Option R) : Option R :=
  m.bind fun | .go t => k t | .done r => some r
section
variable {P : Program} {w0 : World} {S0 : List Nat} {R : Type} {n : Nat} {fr : Fr} {is : List Item} {Q : R → Exit → Act → World → Prop}
theorem TW.join {τ : Type} {m : Option (Ctl τ R)} {k : τ → Option R} {c : Code} (Mid : τ → Act → World → Prop)
    (h1 : TW P w0 S0 m n fr is c (fun x e a w => match x with | .go t => e = .normal ∧ Mid t a w | .done r => Q r e a w))
    (h2 : ∀ t a w, Mid t a w → ∀ r, k t = some r → Q r .normal a w) : TW P w0 S0 (bindC m k) n fr is c Q := by
  intro r hr a w hf hs
  unfold bindC at hr
  cases hm : m with
  | none => rw [hm] at hr; cases hr
  | some x =>
    rw [hm] at hr
    simp only [Option.bind_some] at hr
    refine wp_mono (h1 x hm a w hf hs) ?_
    intro e a' w' hq
    cases x with
    | go t =>
      obtain ⟨rfl, hm'⟩ := hq
      exact h2 t a' w' hm' r hr
    | done r' =>
      cases hr
      exact hq
theorem TW.loop {σ ρ : Type} {body : σ → Option (Ctl σ ρ)} {s0 : σ} {c : Code} {Q : ρ → Exit → Act → World → Prop} (Inv : σ → Act → World → Prop)
    (h0 : ∀ a w, FrOk n fr a → St w0 S0 is w → Inv s0 a w)
    (h1 : ∀ s x, body s = some x → ∀ a w, Inv s a w → c.wp P (fun e a w => match x with | .go s' => e = .normal ∧ Inv s' a w | .done r => e ≠ .normal ∧ Q r e a w) a w) :
    TW P w0 S0 (loopO body s0) n fr is (.loop c) Q := by
  intro r hr a w hf hs
  obtain ⟨k, hk⟩ := loopO_some.1 hr
  clear hr
  have h0' := h0 a w hf hs
  clear h0 hf hs
  intro b kk cs
  have key : ∀ k s a w, loopN body k s = some r → Inv s a w →
      ∃ e a' w', Q r e a' w' ∧ Arrives P (lone (b.at a (.code c :: .inLoop c :: kk)) cs w) b kk cs e a' w' := by
    intro k
    induction k with
    | zero => intro s a w h; simp [loopN] at h
    | succ k ih =>
      intro s a w h hI
      unfold loopN at h
      cases hb : body s with
      | none => rw [hb] at h; cases h
      | some x =>
        rw [hb] at h
        obtain ⟨e, a₁, w₁, hq, harr⟩ := h1 s x hb a w hI b (.inLoop c :: kk) cs
        cases x with
        | go s' =>
          obtain ⟨rfl, hI₁⟩ := hq
          obtain ⟨e₂, a₂, w₂, hq₂, harr₂⟩ := ih s' a₁ w₁ h hI₁
          exact ⟨e₂, a₂, w₂, hq₂, .of_steps (Steps.trans harr (.one step_inLoop)) harr₂⟩
        | done r' =>
          simp only [Option.some.injEq] at h
          subst h
          obtain ⟨hne, hq⟩ := hq
          refine ⟨e, a₁, w₁, hq, ?_⟩
          cases e with
          | normal => exact absurd rfl hne
          | exit id => exact .pass (x := .inLoop c) rfl (fun _ _ => .inl (by simp)) harr
          | goto l => exact .pass (x := .inLoop c) rfl (fun _ _ => .inl (by simp)) harr
          | ret => exact .pass (x := .inLoop c) rfl (fun _ _ => .inl (by simp)) harr
          | panic ch => exact .pass (x := .inLoop c) rfl (fun _ _ => .inl (by simp)) harr
          | outgrown => exact .pass (x := .inLoop c) rfl (fun _ _ => .inl (by simp)) harr
  obtain ⟨e, a', w', hq, harr⟩ := key k s0 a w hk h0'
  exact ⟨e, a', w', hq, .of_steps (.one step_loop) harr⟩
end
/-! ### What the program says of a type: closed facts -/
def kindB (P : Program) (t : TypeId) : Option (Bool × Nat) :=
  match P.underlying t, P.info? t with
  | some (.struct _), some i | some (.array _ _), some i => some (true, i.size)
  | some _, some i => some (false, i.size)
  | _, _ => none
def fieldB (P : Program) (s i : Nat) : Option Nat :=
  match P.underlying s with
  | some (.struct fs) => match fs[i]? with
    | some f => match P.info? f.type with
      | some j => bif Nat.beq j.size 0 then none else some f.offset
      | none => none
    | none => none
  | _ => none
def elemB (P : Program) (t : TypeId) : Option (TypeId × Nat × Nat) :=
  match P.underlying t with
  | some (.slice e) => match P.info? e with
    | some i => some (e, i.size, i.bytes)
    | none => none
  | _ => none
def zeroB (P : Program) (t : TypeId) : Option Value := (P.info? t).bind (·.zero)
def isStrB (P : Program) (t : TypeId) : Bool := match P.underlying t with | some .string => true | _ => false
def intB (P : Program) (t : TypeId) : Option IntKind := match P.underlying t with | some (.int k) => some k | _ => none
theorem elemB_some {P : Program} {t e sz by_ : Nat} (h : elemB P t = some (e, sz, by_)) : P.underlying t = some (.slice e) ∧ ∃ i, P.info? e = some i ∧ i.size = sz ∧ i.bytes = by_ := by
  unfold elemB at h
  split at h
  · rename_i e' hu
    split at h
    · rename_i i hi
      simp only [Option.some.injEq, Prod.mk.injEq] at h
      obtain ⟨rfl, h2, h3⟩ := h
      exact ⟨hu, i, hi, h2, h3⟩
    · cases h
  · cases h
theorem kindB_some {P : Program} {t sz : Nat} {ag : Bool} (h : kindB P t = some (ag, sz)) :
    ∃ d i, P.underlying t = some d ∧ P.info? t = some i ∧ i.size = sz ∧ ∀ w, (isAgg t).run P w = .ok ag w := by
  unfold kindB at h
  split at h
  · rename_i fs i hu hi
    simp only [Option.some.injEq, Prod.mk.injEq] at h
    exact ⟨_, i, hu, hi, h.2, fun w => by simp [isAgg, run_underlying hu, ← h.1]⟩
  · rename_i a b i hu hi
    simp only [Option.some.injEq, Prod.mk.injEq] at h
    exact ⟨_, i, hu, hi, h.2, fun w => by simp [isAgg, run_underlying hu, ← h.1]⟩
  · rename_i d i h1 h2 hu hi
    simp only [Option.some.injEq, Prod.mk.injEq] at h
    refine ⟨d, i, hu, hi, h.2, fun w => ?_⟩
    simp only [isAgg, Sem.run_bind, run_underlying hu, Result.andThen_ok, ← h.1]
    cases d <;> first | rfl | exact absurd rfl (h1 _) | exact absurd rfl (h2 _ _)
  · cases h
/-! ### Operations that leave the world as it is -/
def Y (P : Program) (w0 : World) (S0 : List Nat) (n : Nat) (fr : Fr) (is : List Item) (o : Oper) (v : Value) : Prop :=
  ∀ a w, FrOk n fr a → St w0 S0 is w → (execOp a.eval o).run P w = .ok (.value v) w
section
variable {P : Program} {w0 : World} {S0 : List Nat} {R : Type} {m : Option R} {n : Nat} {fr : Fr} {is : List Item} {Q : R → Exit → Act → World → Prop}
variable {dst : Option Nat} {ty : TypeId} {pos : String} {aft : Array Edge} {gd : Option (Nat × Bool)}
def gdv (v : Value) (want : Bool) : Bool := match v with | .bool b => b == want | _ => false
def Gd (ops : Array Oper) (fr : Fr) (o : Oper) (q : Bool) : Prop :=
  match o.guard with
  | none => q = true
  | some (j, want) => ∃ d v, (ops[j]?).bind (·.dst) = some d ∧ lk d fr = some v ∧ gdv v want = q
theorem Gd.wanted {ops : Array Oper} {fr : Fr} {o : Oper} {q : Bool} {n : Nat} {a : Act} (h : Gd ops fr o q) (hf : FrOk n fr a) : Region.wanted o (yielded ops a.tmps) = q := by
  unfold Gd at h
  unfold Region.wanted
  split at h
  · rename_i hg; rw [hg, h]
  · rename_i j want hg
    obtain ⟨d, v, h1, h2, h3⟩ := h
    rw [hg]
    have hg2 := hf.get d _ h2
    simp only [yielded, h1, Option.bind_some, hg2]
    rw [← h3]
    clear h2 h3 hg2
    cases v <;> rfl
theorem beq_tt {b : Bool} (h : b = true) : (b == true) = true := by rw [h]; rfl
theorem beq_tf {b : Bool} (h : b = true) : (b == false) = false := by rw [h]; rfl
theorem beq_ft {b : Bool} (h : b = false) : (b == true) = false := by rw [h]; rfl
theorem beq_ff {b : Bool} (h : b = false) : (b == false) = true := by rw [h]; rfl
theorem Gd.at {ops : Array Oper} {fr : Fr} {o : Oper} {q : Bool} (j : Nat) (want : Bool) (d : Nat) (b : Bool) (hg : o.guard = some (j, want)) (h1 : (ops[j]?).bind (·.dst) = some d) (h2 : lk d fr = some (.bool b)) (h3 : (b == want) = q) : Gd ops fr o q := by
  unfold Gd; rw [hg]; exact ⟨d, .bool b, h1, h2, h3⟩
theorem Gd.un {ops : Array Oper} {fr : Fr} {o : Oper} (j : Nat) (want : Bool) (d : Nat) (hg : o.guard = some (j, want)) (h1 : (ops[j]?).bind (·.dst) = some d) (h2 : lk d fr = some undef) : Gd ops fr o false := by
  unfold Gd; rw [hg]; exact ⟨d, undef, h1, h2, rfl⟩
theorem wpList_on {ops : Array Oper} {Q : Exit → Act → World → Prop} {o : Oper} {rest : List Oper} {a : Act} {w : World} (hw : Region.wanted o (yielded ops a.tmps) = true)
    (h : ∀ K : Act → World → Prop, (∀ a w, wpList P ops Q rest a w → K a w) → o.wp P a w K Q) : wpList P ops Q (o :: rest) a w :=
  wpList_step fun K hK => by rw [hw]; exact h K hK
theorem TO.y {ops : Array Oper} {o : Oper} {rest : List Oper} {d : Nat} {v : Value} (h1 : Y P w0 S0 n fr is o v) (hg : Gd ops fr o true) (hd : o.dst = some d) (hn : Nat.blt d n = true)
    (h : TO P w0 S0 m n ((d, v) :: fr) is ops rest Q) : TO P w0 S0 m n fr is ops (o :: rest) Q := by
  intro r hr a w hf hs
  refine wpList_on (hg.wanted hf) fun K hK => ?_
  unfold Oper.wp
  rw [h1 a w hf hs]
  show K (a.put o.dst v) w
  rw [hd]
  exact hK _ _ (h r hr _ w (hf.put hn v) hs)
theorem TO.off {ops : Array Oper} {o : Oper} {rest : List Oper} {d : Nat} (hg : Gd ops fr o false) (hd : o.dst = some d) (hn : Nat.blt d n = true)
    (h : TO P w0 S0 m n ((d, undef) :: fr) is ops rest Q) : TO P w0 S0 m n fr is ops (o :: rest) Q := by
  intro r hr a w hf hs
  refine wpList_step fun K hK => ?_
  rw [hg.wanted hf, hd]
  exact hK _ _ (h r hr _ w (hf.put hn undef) hs)
theorem Y.move {x : Operand} {v : Value} (hx : ev fr x = some v) : Y P w0 S0 n fr is ⟨dst, .move x, ty, pos, aft, gd⟩ v := by
  intro a w hf _; simp [execOp, hf.eval hx]
theorem Y.assign {x : Operand} {v : Value} (hx : ev fr x = some v) : Y P w0 S0 n fr is ⟨dst, .assign x, ty, pos, aft, gd⟩ v := by
  intro a w hf _; simp [execOp, hf.eval hx]
theorem Y.pick {c x y : Operand} {b : Bool} {u v : Value} (hc : ev fr c = some (.bool b)) (hx : ev fr x = some u) (hy : ev fr y = some v) :
    Y P w0 S0 n fr is ⟨dst, .pick c x y, ty, pos, aft, gd⟩ (if b then u else v) := by
  intro a w hf _; simp [execOp, hf.eval hc, hf.eval hx, hf.eval hy, asBool]
theorem Y.pick_t {c x y : Operand} {b : Bool} {u : Value} (hb : b = true) (hc : ev fr c = some (.bool b)) (hx : ev fr x = some u) :
    Y P w0 S0 n fr is ⟨dst, .pick c x y, ty, pos, aft, gd⟩ u := by
  intro a w hf _; simp [execOp, hf.eval hc, hf.eval hx, asBool, hb]
theorem Y.pick_f {c x y : Operand} {b : Bool} {u : Value} (hb : b = false) (hc : ev fr c = some (.bool b)) (hy : ev fr y = some u) :
    Y P w0 S0 n fr is ⟨dst, .pick c x y, ty, pos, aft, gd⟩ u := by
  intro a w hf _; simp [execOp, hf.eval hc, hf.eval hy, asBool, hb]
/-! integers -/
section
variable {x y : Operand} {k : IntKind} {p q : Int} {t t' : TypeId}
theorem Y.add (hx : ev fr x = some (.int k p)) (hy : ev fr y = some (.int k q)) : Y P w0 S0 n fr is ⟨dst, .binOp .add t x y t', ty, pos, aft, gd⟩ (.int k (k.wrap (p + q))) := by
  intro a w hf _; simp [execOp, hf.eval hx, hf.eval hy, eqGuard, binOp, Op.intArith]
theorem Y.sub (hx : ev fr x = some (.int k p)) (hy : ev fr y = some (.int k q)) : Y P w0 S0 n fr is ⟨dst, .binOp .sub t x y t', ty, pos, aft, gd⟩ (.int k (k.wrap (p - q))) := by
  intro a w hf _; simp [execOp, hf.eval hx, hf.eval hy, eqGuard, binOp, Op.intArith]
theorem Y.mul (hx : ev fr x = some (.int k p)) (hy : ev fr y = some (.int k q)) : Y P w0 S0 n fr is ⟨dst, .binOp .mul t x y t', ty, pos, aft, gd⟩ (.int k (k.wrap (p * q))) := by
  intro a w hf _; simp [execOp, hf.eval hx, hf.eval hy, eqGuard, binOp, Op.intArith]
theorem Y.quo (h0 : q ≠ 0) (hx : ev fr x = some (.int k p)) (hy : ev fr y = some (.int k q)) : Y P w0 S0 n fr is ⟨dst, .binOp .quo t x y t', ty, pos, aft, gd⟩ (.int k (k.wrap (p.tdiv q))) := by
  intro a w hf _; simp [execOp, hf.eval hx, hf.eval hy, eqGuard, binOp, Op.intDiv, h0]
theorem Y.rem (h0 : q ≠ 0) (hx : ev fr x = some (.int k p)) (hy : ev fr y = some (.int k q)) : Y P w0 S0 n fr is ⟨dst, .binOp .rem t x y t', ty, pos, aft, gd⟩ (.int k (p.tmod q)) := by
  intro a w hf _; simp [execOp, hf.eval hx, hf.eval hy, eqGuard, binOp, Op.intDiv, h0]
theorem Y.lss (hx : ev fr x = some (.int k p)) (hy : ev fr y = some (.int k q)) : Y P w0 S0 n fr is ⟨dst, .binOp .lss t x y t', ty, pos, aft, gd⟩ (.bool (decide (p < q))) := by
  intro a w hf _; simp [execOp, hf.eval hx, hf.eval hy, eqGuard, binOp, Op.intCmp]
theorem Y.leq (hx : ev fr x = some (.int k p)) (hy : ev fr y = some (.int k q)) : Y P w0 S0 n fr is ⟨dst, .binOp .leq t x y t', ty, pos, aft, gd⟩ (.bool (decide (p ≤ q))) := by
  intro a w hf _; simp [execOp, hf.eval hx, hf.eval hy, eqGuard, binOp, Op.intCmp]
theorem Y.gtr (hx : ev fr x = some (.int k p)) (hy : ev fr y = some (.int k q)) : Y P w0 S0 n fr is ⟨dst, .binOp .gtr t x y t', ty, pos, aft, gd⟩ (.bool (decide (p > q))) := by
  intro a w hf _; simp [execOp, hf.eval hx, hf.eval hy, eqGuard, binOp, Op.intCmp]
theorem Y.geq (hx : ev fr x = some (.int k p)) (hy : ev fr y = some (.int k q)) : Y P w0 S0 n fr is ⟨dst, .binOp .geq t x y t', ty, pos, aft, gd⟩ (.bool (decide (p ≥ q))) := by
  intro a w hf _; simp [execOp, hf.eval hx, hf.eval hy, eqGuard, binOp, Op.intCmp]
theorem Y.eql (hx : ev fr x = some (.int k p)) (hy : ev fr y = some (.int k q)) : Y P w0 S0 n fr is ⟨dst, .binOp .eql t x y t', ty, pos, aft, gd⟩ (.bool (decide (p = q))) := by
  intro a w hf _; simp [execOp, hf.eval hx, hf.eval hy, eqGuard, binOp, Op.intCmp]; rfl
theorem Y.neq (hx : ev fr x = some (.int k p)) (hy : ev fr y = some (.int k q)) : Y P w0 S0 n fr is ⟨dst, .binOp .neq t x y t', ty, pos, aft, gd⟩ (.bool (!decide (p = q))) := by
  intro a w hf _; simp [execOp, hf.eval hx, hf.eval hy, eqGuard, binOp, Op.intCmp, bne]; rfl
def iand (k : IntKind) (p q : Int) : Int := k.wrap (BitVec.ofInt k.bits p &&& BitVec.ofInt k.bits q).toNat
def ior (k : IntKind) (p q : Int) : Int := k.wrap (BitVec.ofInt k.bits p ||| BitVec.ofInt k.bits q).toNat
def ixor (k : IntKind) (p q : Int) : Int := k.wrap (BitVec.ofInt k.bits p ^^^ BitVec.ofInt k.bits q).toNat
def ishl (k : IntKind) (p q : Int) : Int := k.wrap (p * 2 ^ (min q.toNat k.bits))
def ishr (k : IntKind) (p q : Int) : Int := p.fdiv (2 ^ (min q.toNat k.bits))
theorem Y.and (hx : ev fr x = some (.int k p)) (hy : ev fr y = some (.int k q)) : Y P w0 S0 n fr is ⟨dst, .binOp .and t x y t', ty, pos, aft, gd⟩ (.int k (iand k p q)) := by
  intro a w hf _; simp [execOp, hf.eval hx, hf.eval hy, eqGuard, binOp, Op.intBits, iand]
theorem Y.or (hx : ev fr x = some (.int k p)) (hy : ev fr y = some (.int k q)) : Y P w0 S0 n fr is ⟨dst, .binOp .or t x y t', ty, pos, aft, gd⟩ (.int k (ior k p q)) := by
  intro a w hf _; simp [execOp, hf.eval hx, hf.eval hy, eqGuard, binOp, Op.intBits, ior]
theorem Y.xor (hx : ev fr x = some (.int k p)) (hy : ev fr y = some (.int k q)) : Y P w0 S0 n fr is ⟨dst, .binOp .xor t x y t', ty, pos, aft, gd⟩ (.int k (ixor k p q)) := by
  intro a w hf _; simp [execOp, hf.eval hx, hf.eval hy, eqGuard, binOp, Op.intBits, ixor]
theorem Y.shl {k' : IntKind} (h0 : 0 ≤ q) (hx : ev fr x = some (.int k p)) (hy : ev fr y = some (.int k' q)) : Y P w0 S0 n fr is ⟨dst, .binOp .shl t x y t', ty, pos, aft, gd⟩ (.int k (ishl k p q)) := by
  intro a w hf _; simp [execOp, hf.eval hx, hf.eval hy, eqGuard, binOp, Op.shift, ishl, show ¬ q < 0 by omega]
theorem Y.shr {k' : IntKind} (h0 : 0 ≤ q) (hx : ev fr x = some (.int k p)) (hy : ev fr y = some (.int k' q)) : Y P w0 S0 n fr is ⟨dst, .binOp .shr t x y t', ty, pos, aft, gd⟩ (.int k (ishr k p q)) := by
  intro a w hf _; simp [execOp, hf.eval hx, hf.eval hy, eqGuard, binOp, Op.shift, ishr, show ¬ q < 0 by omega]
theorem Y.neg (hx : ev fr x = some (.int k p)) : Y P w0 S0 n fr is ⟨dst, .unOp .neg t x, ty, pos, aft, gd⟩ (.int k (k.wrap (0 - p))) := by
  intro a w hf _; simp [execOp, hf.eval hx, Op.unary, Op.intArith]
theorem Y.conv {src tgt : TypeId} {k' : IntKind} (hs : intB P src = some k) (ht : intB P tgt = some k') (hx : ev fr x = some (.int k p)) :
    Y P w0 S0 n fr is ⟨dst, .convert src tgt x, ty, pos, aft, gd⟩ (.int k' (k'.wrap p)) := by
  have hs' : P.underlying src = some (.int k) := by unfold intB at hs; split at hs <;> simp_all
  have ht' : P.underlying tgt = some (.int k') := by unfold intB at ht; split at ht <;> simp_all
  intro a w hf _; simp [execOp, hf.eval hx, convert, run_underlying hs', run_underlying ht', Conv.intToInt]
end
theorem wrap_u_nonneg {k : IntKind} (hk : k.signed = false) (n : Int) : 0 ≤ k.wrap n := by
  unfold IntKind.wrap
  have h2 : (0 : Int) < 2 ^ k.bits := by cases k <;> decide
  have := Int.emod_nonneg n (show (2 ^ k.bits : Int) ≠ 0 by omega)
  simp only [hk, Bool.false_and, Bool.false_eq_true, if_false]
  exact this
def toU8 (n : Int) : UInt8 := UInt8.ofNat (n % 256).toNat
theorem toU8_wrap (n : Int) : IntKind.u8.wrap n = ((toU8 n).toNat : Int) := by
  have h0 := Int.emod_nonneg n (show (256 : Int) ≠ 0 by decide)
  have h1 := Int.emod_lt_of_pos n (show (0 : Int) < 256 by decide)
  have h2 : (toU8 n).toNat = (n % 256).toNat := by
    unfold toU8
    rw [UInt8.toNat_ofNat']
    omega
  rw [h2]
  simp only [IntKind.wrap, IntKind.bits, IntKind.signed, Bool.false_and, Bool.false_eq_true, if_false]
  omega
theorem Y.conv8 {x : Operand} {k : IntKind} {p : Int} {src tgt : TypeId} (hs : intB P src = some k) (ht : intB P tgt = some .u8) (hx : ev fr x = some (.int k p)) :
    Y P w0 S0 n fr is ⟨dst, .convert src tgt x, ty, pos, aft, gd⟩ (.int .u8 ((toU8 p).toNat : Nat)) := by
  rw [← toU8_wrap]
  exact Y.conv hs ht hx
def goMax (p q : Int) : Int := if q > p then q else p
theorem Y.not {x : Operand} {b : Bool} {t : TypeId} (hx : ev fr x = some (.bool b)) : Y P w0 S0 n fr is ⟨dst, .unOp .not t x, ty, pos, aft, gd⟩ (.bool (!b)) := by
  intro a w hf _; simp [execOp, hf.eval hx, Op.unary]
theorem beq_dec (s u : List UInt8) : (s == u) = decide (s = u) := Bool.eq_iff_iff.2 (by simp)
/-! strings -/
def sLt (s t : List UInt8) : Bool := Op.bytesLess s t
section
variable {x y : Operand} {s u : List UInt8} {t t' : TypeId}
theorem toList_strV (s : List UInt8) : (ByteArray.mk s.toArray).toList = s := ByteArray.toList_mk s
theorem Y.seql (hx : ev fr x = some (strV s)) (hy : ev fr y = some (strV u)) : Y P w0 S0 n fr is ⟨dst, .binOp .eql t x y t', ty, pos, aft, gd⟩ (.bool (decide (s = u))) := by
  intro a w hf _; simp only [execOp, hf.eval hx, hf.eval hy, eqGuard, strV, binOp, Op.stringOp, ByteArray.toList_mk, beq_dec]; simp
theorem Y.sneq (hx : ev fr x = some (strV s)) (hy : ev fr y = some (strV u)) : Y P w0 S0 n fr is ⟨dst, .binOp .neq t x y t', ty, pos, aft, gd⟩ (.bool (!decide (s = u))) := by
  intro a w hf _; simp only [execOp, hf.eval hx, hf.eval hy, eqGuard, strV, binOp, Op.stringOp, ByteArray.toList_mk, beq_dec]; simp
theorem Y.slss (hx : ev fr x = some (strV s)) (hy : ev fr y = some (strV u)) : Y P w0 S0 n fr is ⟨dst, .binOp .lss t x y t', ty, pos, aft, gd⟩ (.bool (sLt s u)) := by
  intro a w hf _; simp [execOp, hf.eval hx, hf.eval hy, eqGuard, strV, binOp, Op.stringOp, sLt]
theorem Y.sleq (hx : ev fr x = some (strV s)) (hy : ev fr y = some (strV u)) : Y P w0 S0 n fr is ⟨dst, .binOp .leq t x y t', ty, pos, aft, gd⟩ (.bool (sLt s u || decide (s = u))) := by
  intro a w hf _; simp [execOp, hf.eval hx, hf.eval hy, eqGuard, strV, binOp, Op.stringOp, sLt, beq_dec]
theorem Y.sgtr (hx : ev fr x = some (strV s)) (hy : ev fr y = some (strV u)) : Y P w0 S0 n fr is ⟨dst, .binOp .gtr t x y t', ty, pos, aft, gd⟩ (.bool (!(sLt s u || decide (s = u)))) := by
  intro a w hf _; simp [execOp, hf.eval hx, hf.eval hy, eqGuard, strV, binOp, Op.stringOp, sLt, beq_dec]
theorem Y.sgeq (hx : ev fr x = some (strV s)) (hy : ev fr y = some (strV u)) : Y P w0 S0 n fr is ⟨dst, .binOp .geq t x y t', ty, pos, aft, gd⟩ (.bool (!sLt s u)) := by
  intro a w hf _; simp [execOp, hf.eval hx, hf.eval hy, eqGuard, strV, binOp, Op.stringOp, sLt]
def cat (s u : List UInt8) : Option (List UInt8) := if s.length + u.length ≤ 9223372036854775807 then some (s ++ u) else none
theorem Y.cat {z : List UInt8} (hz : cat s u = some z) (hx : ev fr x = some (strV s)) (hy : ev fr y = some (strV u)) : Y P w0 S0 n fr is ⟨dst, .binOp .add t x y t', ty, pos, aft, gd⟩ (strV z) := by
  intro a w hf _
  unfold Sl.cat at hz
  split at hz
  · rename_i hl
    cases hz
    simp only [execOp, hf.eval hx, hf.eval hy, eqGuard, strV, binOp_string_add, Sem.run_bind]
    simp [run_string_add_sum, hl, ByteArray.size_mk', ByteArray.mk_append_mk]
  · cases hz
theorem Y.slen {ty' : TypeId} (ht : isStrB P t = true) (hx : ev fr x = some (strV s)) : Y P w0 S0 n fr is ⟨dst, .call { callee := .builtin .len, args := #[x], argTypes := #[t] }, ty', pos, aft, gd⟩ (.int .i64 s.length) := by
  have ht' : P.underlying t = some .string := by unfold isStrB at ht; split at ht <;> simp_all
  intro a w hf _
  simp [execOp, resolve, invoke, builtin, hf.eval hx, strV, run_len_string, ht', goInt, ByteArray.size_mk']
def sidx (s : List UInt8) (i : Int) : Option UInt8 := if 0 ≤ i then s[i.toNat]? else none
theorem Y.sidx {k : IntKind} {i : Int} {b : UInt8} (hb : sidx s i = some b) (ht : isStrB P t = true) (hx : ev fr x = some (strV s)) (hy : ev fr y = some (.int k i)) :
    Y P w0 S0 n fr is ⟨dst, .index t x y, ty, pos, aft, gd⟩ (.int .u8 b.toNat) := by
  have ht' : P.underlying t = some .string := by unfold isStrB at ht; split at ht <;> simp_all
  unfold Sl.sidx at hb
  split at hb
  · rename_i h0
    have hlt : i.toNat < s.length := by
      rcases Nat.lt_or_ge i.toNat s.length with h | h
      · exact h
      · rw [List.getElem?_eq_none h] at hb; cases hb
    have hb' : s[i.toNat]'hlt = b := by rw [List.getElem?_eq_getElem hlt] at hb; cases hb; rfl
    intro a w hf _
    have hg : (ByteArray.mk s.toArray)[i.toNat]? = some b := by
      rw [ByteArray.getElem?_lt' _ _ (by simpa [ByteArray.size_mk'] using hlt)]
      congr 1
    simp only [execOp, hf.eval hx, hf.eval hy, strV, Instr.index, asIntOf, Sem.run_bind, Sem.run_pure, Result.andThen_ok, run_underlying ht', if_pos h0, hg]
  · cases hb
def ssub (s : List UInt8) (lo hi : Int) : Option (List UInt8) := if 0 ≤ lo ∧ lo ≤ hi ∧ hi ≤ s.length then some ((s.drop lo.toNat).take (hi.toNat - lo.toNat)) else none
end
end
end Go.Proofs.YtmigafjpdoeicaaGreat.Sl
