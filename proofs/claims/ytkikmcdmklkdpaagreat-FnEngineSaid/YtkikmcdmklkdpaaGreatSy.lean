/-
  A row of slices that share what they read: the row is the call's own, what its slices read lies in blocks that are owned and never changed. Generic: no statement about a given function.
-/
import Derived.Test.YtkikmcdmklkdpaaGreatSx
namespace Go.Proofs.YtkikmcdmklkdpaaGreat.Sl
open Go Go.RowKit
section
variable {P : Program} {w0 : World} {S0 : List Nat} {R : Type} {m : Option R} {n : Nat} {fr : Fr} {is : List Item} {Q : R → Exit → Act → World → Prop}
theorem Pool.more {w : World} {Ws : List Value} {cs : List C} {ps qs : List (Value × C)} {S T : List Nat} (h : Pool w Ws cs ps S) (hT : ∀ b ∈ T, b < w.heap.size) (hq : ∀ p ∈ qs, ∃ F, Rd w p.1 p.2 F ∧ ∀ b ∈ F, b ∈ S ++ T) : Pool w Ws cs qs (S ++ T) := by
  obtain ⟨F, h2, h3⟩ := h.rds
  exact ⟨fun b hb => (List.mem_append.1 hb).elim (h.lt b) (hT b), ⟨F, h2, fun b hb => List.mem_append.2 (.inl (h3 b hb))⟩, hq⟩
theorem Sm {α : Type} [Enc (List α)] {v x : Value} {d : C} {rest : List Item} (ks : List Nat) (hp : takeP ks is = some ([.own v (lc ([] : List (List α))), .own x d], rest)) (hz : Enc.sz (List α) = 1 := by exact r) :
    ∀ w, St w0 S0 is w → St w0 S0 (.shw v (lc ([] : List (List α))) [(x, d)] :: rest) w := by
  intro w h
  obtain ⟨os, tape, output, size, base, S, ⟨A, B0, rfl, hA, B, C', rfl, hB, hC⟩, hnd, hin⟩ := h.takeP hp
  obtain ⟨F, hF, hFB⟩ := Ow.rd hB
  have hA' : Ow w v (.sl 1 0 []) A := by
    have : Ow w v (.sl (Enc.sz (List α)) 0 []) A := hA
    rwa [hz] at this
  refine ⟨os, tape, output, size, base, A ++ (B ++ C'), ⟨A ++ B, C', by rw [List.append_assoc], ⟨[], [], A, B, ?_, rfl, hA', ⟨Ow.lt hB, ⟨[], .nil, by simp⟩, ?_⟩⟩, hC⟩, hnd, hin⟩
  · show C.sl (Enc.sz (List α)) 0 [] = _
    rw [hz]; rfl
  · intro p hp
    rw [List.mem_singleton] at hp
    subst hp
    exact ⟨F, hF, hFB⟩
variable {α : Type} [Enc α]
theorem Sa {v x : Value} {c d : C} {ps : List (Value × C)} {rest : List Item} (ks : List Nat) (hp : takeP ks is = some ([.shw v c ps, .own x d], rest)) :
    ∀ w, St w0 S0 is w → St w0 S0 (.shw v c [(x, d)] :: rest) w := by
  intro w h
  obtain ⟨os, tape, output, size, base, S, ⟨A, B0, rfl, ⟨Ws, cs, A1, A2, h1, rfl, h3, h4⟩, B, C', rfl, hB, hC⟩, hnd, hin⟩ := h.takeP hp
  obtain ⟨F, hF, hFB⟩ := Ow.rd hB
  refine ⟨os, tape, output, size, base, (A1 ++ A2) ++ (B ++ C'), ⟨A1 ++ (A2 ++ B), C', by simp only [List.append_assoc], ⟨Ws, cs, A1, A2 ++ B, h1, rfl, h3, h4.more (Ow.lt hB) ?_⟩, hC⟩, hnd, hin⟩
  intro p hp
  rw [List.mem_singleton] at hp
  subst hp
  exact ⟨F, hF, fun b hb => List.mem_append.2 (.inr (hFB b hb))⟩
theorem Sd {v : Value} {c : C} {p : Value × C} {ps : List (Value × C)} {rest : List Item} (ks : List Nat) (hp : takeP ks is = some ([.shw v c (p :: ps)], rest)) :
    ∀ w, St w0 S0 is w → St w0 S0 (.shw v c ps :: rest) w := by
  intro w h
  obtain ⟨os, tape, output, size, base, S, ⟨A, B0, rfl, ⟨Ws, cs, A1, A2, h1, h2, h3, h4⟩, hC⟩, hnd, hin⟩ := h.takeP hp
  exact ⟨os, tape, output, size, base, A ++ B0, ⟨A, B0, rfl, ⟨Ws, cs, A1, A2, h1, h2, h3, ⟨h4.lt, h4.rds, fun q hq => h4.prs q (List.mem_cons.2 (.inr hq))⟩⟩, hC⟩, hnd, hin⟩
theorem Ows.raw_eq {w : World} : ∀ {us Ws : List Value} {S : List Nat}, Ows w us (Ws.map .raw) S → us = Ws ∧ S = []
  | _, [], _, h => by cases h; exact ⟨rfl, rfl⟩
  | _, V :: Ws, _, h => by
    cases h with
    | cons v c S vs cs T h1 h2 =>
      cases h1
      obtain ⟨rfl, rfl⟩ := Ows.raw_eq h2
      exact ⟨rfl, rfl⟩
theorem Can.shw {v : Value} {c : C} {ps : List (Value × C)} (k : Nat) (h : is[k]? = some (.shw v c ps)) : Can w0 S0 is v c := by
  intro w S hs _
  obtain ⟨A, ⟨Ws, cs, A1, A2, rfl, rfl, h3, h4⟩, hsub⟩ := sats_get h hs
  obtain ⟨F, h5, h6⟩ := h4.rds
  have hlen : Ws.length = cs.length := h5.length
  rw [hlen] at h3
  generalize hn : cs.length = n at h3
  generalize hq : Ws.map C.raw = q at h3
  cases h3 with
  | nil =>
    have : cs = [] := List.length_eq_zero_iff.1 hn
    subst this
    exact ⟨[], .nil 1, by simp⟩
  | row b _ cap e sz cur vs cs' S' hh hc hm hz hv hr =>
    subst hq
    obtain ⟨rfl, rfl⟩ := Ows.raw_eq hr
    refine ⟨_, .row ⟨b, 0, none⟩ n cap 1 vs cs F (by omega) hc ?_ h5, ?_⟩
    · intro j hj
      have hadd : (⟨b, 0, none⟩ : Addr).add j = ⟨b, j, none⟩ := by unfold Addr.add; split <;> simp_all
      rw [hadd, cell_of_row w b j cur e (0, 0) hh, ← hv, List.getElem?_take, if_pos hj]
      simp
    · intro x hx
      refine .inr (hsub x ?_)
      rcases List.mem_append.1 hx with hx | hx
      · split at hx
        · cases hx
        · exact List.mem_append.2 (.inl (List.mem_cons.2 (.inl (by simpa using hx))))
      · exact List.mem_append.2 (.inr (h6 x hx))
theorem Cw' {v : Value} {c : C} {ps : List (Value × C)} (k : Nat) (h : is[k]? = some (.shw v c ps)) : Can w0 S0 is v c := Can.shw k h
theorem Cj {v : Value} {c : C} {ps : List (Value × C)} {x : Value} {d : C} (k j : Nat) (h : (is[k]?, ps[j]?) = (some (.shw v c ps), some (x, d))) : Can w0 S0 is x d := by
  simp only [Prod.mk.injEq] at h
  intro w S hs _
  obtain ⟨A, ⟨Ws, cs, A1, A2, rfl, rfl, h3, h4⟩, hsub⟩ := sats_get h.1 hs
  obtain ⟨F, h5, h6⟩ := h4.prs (x, d) (List.mem_of_getElem? h.2)
  exact ⟨F, h5, fun b hb => .inr (hsub b (List.mem_append.2 (.inr (h6 b hb))))⟩
theorem Cs {v : Value} {c : C} {ps : List (Value × C)} {x : Value} {d : C} (k j : Nat) (h : (is[k]?, ps[j]?) = (some (.shw v c ps), some (x, d)) := by exact r) : Cel w0 S0 is x [x] := Cel.one (One.can (Cj k j h))
theorem svs_of {w : World} : ∀ {Ws : List Value} {cs : List C} {F : List Nat}, Rds w Ws cs F → ∃ l : List Sv, l.map Sv.v = Ws ∧ l.flatMap Enc.enc = Ws.map C.raw ∧ l.length = Ws.length
  | _, [], _, h => by cases h; exact ⟨[], rfl, rfl, rfl⟩
  | _, c :: cs, _, h => by
    cases h with
    | cons v c S vs cs T h1 h2 =>
      obtain ⟨l, g1, g2, g3⟩ := svs_of h2
      exact ⟨⟨v, h1.oneCell⟩ :: l, by simp [g1], by rw [List.flatMap_cons, g2]; rfl, by simp [g3]⟩
theorem St.unshw {v : Value} {c : C} {ps : List (Value × C)} {rest : List Item} {w : World} (h : St w0 S0 (.shw v c ps :: rest) w) :
    ∃ (l : List Sv) (cs : List C), c = .sl 1 cs.length cs ∧ l.length = cs.length ∧ St w0 S0 (.own v (lc l) :: .pool (l.map Sv.v) cs ps :: rest) w := by
  obtain ⟨os, tape, output, size, base, S, ⟨A, B0, rfl, ⟨Ws, cs, A1, A2, h1, rfl, h3, h4⟩, hC⟩, hnd, hin⟩ := h
  obtain ⟨F, h5, h6⟩ := h4.rds
  obtain ⟨l, rfl, g2, g3⟩ := svs_of h5
  refine ⟨l, cs, h1, by rw [g3]; exact h5.length, os, tape, output, size, base, (A1 ++ A2) ++ B0, ⟨A1, A2 ++ B0, by rw [List.append_assoc], ?_, A2, B0, rfl, h4, hC⟩, hnd, hin⟩
  show Ow w v (.sl 1 l.length (l.flatMap Enc.enc)) A1
  rw [g2, g3]
  exact h3
theorem sv_enc : ∀ l : List Sv, l.flatMap (Enc.enc (α := Sv)) = (l.map Sv.v).map C.raw
  | [] => rfl
  | x :: l => by rw [List.flatMap_cons, sv_enc l]; rfl
theorem St.shw {v : Value} {cs : List C} {l : List Sv} {ps : List (Value × C)} {rest : List Item} {w : World} (h : St w0 S0 (.own v (lc l) :: .pool (l.map Sv.v) cs ps :: rest) w) :
    St w0 S0 (.shw v (.sl 1 cs.length cs) ps :: rest) w := by
  obtain ⟨os, tape, output, size, base, S, ⟨A, B0, rfl, hA, B, C', rfl, hB, hC⟩, hnd, hin⟩ := h
  refine ⟨os, tape, output, size, base, A ++ (B ++ C'), ⟨A ++ B, C', by rw [List.append_assoc], ⟨l.map Sv.v, cs, A, B, rfl, rfl, ?_, hB⟩, hC⟩, hnd, hin⟩
  have : Ow w v (.sl 1 l.length (l.flatMap Enc.enc)) A := hA
  rwa [sv_enc, show l.length = (l.map Sv.v).length by simp] at this
theorem St.pool_more {Ws : List Value} {cs : List C} {ps : List (Value × C)} {x : Value} {d : C} {i : Item} {rest : List Item} {w : World} (h : St w0 S0 (i :: .pool Ws cs ps :: rest) w) (hx : (x, d) ∈ ps) : St w0 S0 (i :: .pool (Ws ++ [x]) (cs ++ [d]) ps :: rest) w := by
  obtain ⟨os, tape, output, size, base, S, ⟨A, B0, rfl, hA, B, C', rfl, hB, hC⟩, hnd, hin⟩ := h
  obtain ⟨F, h5, h6⟩ := hB.rds
  obtain ⟨G, h7, h8⟩ := hB.prs _ hx
  refine ⟨os, tape, output, size, base, A ++ (B ++ C'), ⟨A, B ++ C', rfl, hA, B, C', rfl, ⟨hB.lt, ⟨F ++ (G ++ []), h5.append (.cons x d G [] [] [] h7 .nil), ?_⟩, hB.prs⟩, hC⟩, hnd, hin⟩
  intro b hb
  simp only [List.append_nil] at hb
  exact (List.mem_append.1 hb).elim (h6 b) (h8 b)
theorem St.drop1 {i j : Item} {rest : List Item} {w : World} (h : St w0 S0 (i :: j :: rest) w) : St w0 S0 (i :: rest) w := by
  obtain ⟨os, tape, output, size, base, S, ⟨A, B0, rfl, hA, B, C', rfl, hB, hC⟩, hnd, hin⟩ := h
  have hsub : (A ++ C').Sublist (A ++ (B ++ C')) := List.Sublist.append (List.Sublist.refl _) (List.sublist_append_right _ _)
  exact ⟨os, tape, output, size, base, A ++ C', ⟨A, C', rfl, hA, hC⟩, hsub.nodup hnd, fun b hb => hin b (hsub.mem hb)⟩
section
variable {ty : TypeId} {pos : String} {aft : Array Edge} {gd : Option (Nat × Bool)}
theorem app_len {γ β : Type} {by_ : Nat} {a : List γ} {x : γ} {z : List γ} {b : List β} {y : β} (h : app by_ a [x] = some z) (hl : b.length = a.length) : app by_ b [y] = some (b ++ [y]) := by
  obtain ⟨_, h1, h2⟩ := app_eq h
  unfold app
  rw [if_pos]
  rw [hl]
  exact ⟨h1, h2⟩
theorem As [Enc (List α)] {d : Option Nat} {t e by_ : Nat} {x y : Operand} {z : Value} {T q : List (List α)} {l : List α} {v u s : Value} {ps : List (Value × C)} {rest : List Item}
    (ks : List Nat) (hr : app by_ T [l] = some q) (he : elemB P t = some (e, 1, by_)) (hz : zeroB P e = some z) (h0 : (takeP ks is, ev fr x, ev fr y) = (some ([.shw v (lc T) ((s, lc l) :: ps), .own u (.sl 1 1 [.raw s])], rest), some v, some u))
    (hl : (Enc.enc l : List C) = [lc l]) (hzs : Nat.beq z.cells.size 1 = true := by exact r) (hsz : Enc.sz (List α) = 1 := by exact r) :
    Ef P w0 S0 n fr is ⟨d, .call { callee := .builtin .append, args := #[x, y], argTypes := #[t, t] }, ty, pos, aft, gd⟩ (fun v' : Value => v') (fun v' => .shw v' (lc q) ((s, lc l) :: ps) :: rest) := by
  simp only [Prod.mk.injEq] at h0
  obtain ⟨hp, hx, hy⟩ := h0
  intro a w K Q hf hs hK
  obtain ⟨Wl, cs, hc, hlen, hs2⟩ := (hs.takeP hp).unshw
  have hcs : T.length = cs.length ∧ T.flatMap Enc.enc = cs := by
    have : C.sl (Enc.sz (List α)) T.length (T.flatMap Enc.enc) = .sl 1 cs.length cs := hc
    injection this with _ h1 h2
    exact ⟨h1, h2⟩
  obtain ⟨hTl, rfl⟩ := hcs
  have hone : s.oneCell' = true := by
    obtain ⟨os, tape, output, size, base, S, ⟨A, B0, rfl, hA, B, C', rfl, hB, hC⟩, hnd, hin⟩ := hs2
    obtain ⟨F, g, _⟩ := hB.prs (s, lc l) (by simp)
    exact g.oneCell
  have hcan : Can w0 S0 (.own v (lc Wl) :: .pool (Wl.map Sv.v) (T.flatMap Enc.enc) ((s, lc l) :: ps) :: .own u (.sl 1 1 [.raw s]) :: rest) u (lc [Sv.mk s hone]) := Can.own 2 rfl
  have hap : app by_ Wl [Sv.mk s hone] = some (Wl ++ [Sv.mk s hone]) := app_len hr (by rw [hlen, hTl])
  obtain ⟨v', w', h1, h2⟩ := append_go (ty := ty) hs2 hap he hz hzs rfl hcan hs2
  have hrun : (execOp a.eval ⟨d, .call { callee := .builtin .append, args := #[x, y], argTypes := #[t, t] }, ty, pos, aft, gd⟩).run P w = .ok (.value v') w' := by
    simp [execOp, resolve, invoke, builtin, hf.eval hx, hf.eval hy, h1]
  unfold Oper.wp
  rw [hrun]
  refine hK v' w' ?_
  have h3 := St.pool_more h2 (x := s) (d := lc l) (by simp)
  have h4 : St w0 S0 (.own v' (lc (Wl ++ [Sv.mk s hone])) :: .pool ((Wl ++ [Sv.mk s hone]).map Sv.v) (T.flatMap Enc.enc ++ [lc l]) ((s, lc l) :: ps) :: .own u (.sl 1 1 [.raw s]) :: rest) w' := by
    rw [List.map_append]; exact h3
  have h5 := h4.shw
  have hq : (lc q : C) = .sl 1 (T.flatMap Enc.enc ++ [lc l]).length (T.flatMap Enc.enc ++ [lc l]) := by
    obtain ⟨rfl, _⟩ := app_eq hr
    unfold lc
    rw [hsz, List.flatMap_append, List.length_append, List.length_append, hTl]
    show C.sl 1 _ (_ ++ (Enc.enc l ++ [])) = _
    rw [hl]; rfl
  rw [hq]
  exact h5.drop1
theorem enc_row [Enc (List α)] (hT : ∀ l : List α, (Enc.enc l : List C) = [lc l]) : ∀ T : List (List α), T.flatMap Enc.enc = T.map fun l => lc l
  | [] => rfl
  | x :: T => by rw [List.flatMap_cons, hT x, List.map_cons, enc_row hT T]; rfl
theorem Ls [Enc (List α)] {d : Option Nat} {t : TypeId} {x : Operand} {T : List (List α)} {l : List α} {v : Value} {i : Int} {ps : List (Value × C)} {rest : List Item}
    (ks : List Nat) (hk : kindB P t = some (false, 1)) (hi : idx T i = some l) (h0 : (takeP ks is, ev fr x) = (some ([.shw v (lc T) ps], rest), some (elP v (i.toNat * 1 + 0))))
    (hT : ∀ l : List α, (Enc.enc l : List C) = [lc l] := by exact fun _ => r) :
    Ef P w0 S0 n fr is ⟨d, .load t x, ty, pos, aft, gd⟩ (fun u : Value => u) (fun u => .shw v (lc T) ((u, lc l) :: ps) :: rest) := by
  simp only [Prod.mk.injEq] at h0
  obtain ⟨hp, hx⟩ := h0
  intro a w K Q hf hs hK
  obtain ⟨Wl, cs, hc, hlen, hs2⟩ := (hs.takeP hp).unshw
  have hcs : T.length = cs.length ∧ T.flatMap Enc.enc = cs := by
    have : C.sl (Enc.sz (List α)) T.length (T.flatMap Enc.enc) = .sl 1 cs.length cs := hc
    injection this with _ h1 h2
    exact ⟨h1, h2⟩
  obtain ⟨hTl, rfl⟩ := hcs
  obtain ⟨-, hlt, hz⟩ := idx_get hi
  obtain ⟨s, hs3⟩ : ∃ s, Wl[i.toNat]? = some s := by
    have : i.toNat < T.length := (List.getElem?_eq_some_iff.1 hz).1
    exact ⟨_, List.getElem?_eq_getElem (by omega)⟩
  have hy : Y P w0 S0 n fr _ ⟨d, .load t x, ty, pos, aft, gd⟩ s.v := Y.load_el (is := .own v (lc Wl) :: .pool (Wl.map Sv.v) (T.flatMap Enc.enc) ps :: rest) (z := s) (us := [s.v]) hk rfl (Can.own 0 rfl) hs3 hx rfl rfl rfl rfl
  have hrun := hy a w hf hs2
  unfold Oper.wp
  rw [hrun]
  refine hK s.v w ?_
  obtain ⟨os, tape, output, size, base, S, ⟨A, B0, rfl, hA, B, C', rfl, hB, hC⟩, hnd, hin⟩ := hs2
  obtain ⟨F, h5, h6⟩ := hB.rds
  have hpr : ∃ F, Rd w s.v (lc l) F ∧ ∀ b ∈ F, b ∈ B := by
    have hm : (T.flatMap Enc.enc)[i.toNat]? = some (lc l) := by
      rw [enc_row hT, List.getElem?_map, hz]; rfl
    obtain ⟨V, G, g0, g1, g2⟩ := Rds.at h5 hm
    rw [List.getElem?_map, hs3] at g0
    cases g0
    exact ⟨G, g1, fun b hb => h6 b (g2 b hb)⟩
  have h7 : St w0 S0 (.own v (lc Wl) :: .pool (Wl.map Sv.v) (T.flatMap Enc.enc) ((s.v, lc l) :: ps) :: rest) w :=
    ⟨os, tape, output, size, base, A ++ (B ++ C'), ⟨A, B ++ C', rfl, hA, B, C', rfl, ⟨hB.lt, hB.rds, fun p hp => (List.mem_cons.1 hp).elim (fun e => e ▸ hpr) (hB.prs p)⟩, hC⟩, hnd, hin⟩
  have h8 := h7.shw
  rw [hc]
  exact h8
end
end
end Go.Proofs.YtkikmcdmklkdpaaGreat.Sl
