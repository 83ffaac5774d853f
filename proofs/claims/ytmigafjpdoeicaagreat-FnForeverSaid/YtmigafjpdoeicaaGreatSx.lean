/-
  Elements moved out of a slice, one by one: a list of which some places are empty. Pieces of such a list put behind another. Generic: no statement about a given function.
-/
import Derived.Test.YtmigafjpdoeicaaGreatSz
import Derived.Lib.Bytealg
namespace Go.Proofs.YtmigafjpdoeicaaGreat.Sl
open Go Go.RowKit
/-! ### A list some of whose elements were moved away -/
instance {α : Type} [Enc α] : Enc (Option α) := ⟨Enc.sz α, fun x => match x with | some x => Enc.enc x | none => List.replicate (Enc.sz α) .any, fun x => by cases x <;> simp [Enc.len], Enc.pos⟩
theorem enc_some {α : Type} [Enc α] (l : List α) : (l.map some).flatMap (Enc.enc (α := Option α)) = l.flatMap Enc.enc := by
  induction l with
  | nil => rfl
  | cons x l ih => rw [List.map_cons, List.flatMap_cons, List.flatMap_cons, ih]; rfl
theorem lc_some {α : Type} [Enc α] (l : List α) : lc (l.map some) = lc l := by
  unfold lc
  rw [enc_some, List.length_map]
  rfl
def allO {α : Type} : List (Option α) → Option (List α)
  | [] => some []
  | x :: l => x.bind fun x => (allO l).map fun l => x :: l
theorem allO_eq {α : Type} : ∀ {ls : List (Option α)} {l : List α}, allO ls = some l → ls = l.map some
  | [], l, h => by cases h; rfl
  | none :: ls, l, h => by cases h
  | some x :: ls, l, h => by
    simp only [allO, Option.bind_some] at h
    cases h1 : allO ls with
    | none => rw [h1] at h; cases h
    | some k => rw [h1] at h; cases h; rw [allO_eq h1]; rfl
theorem allO_some {α : Type} : ∀ (l : List α), allO (l.map some) = some l
  | [] => rfl
  | x :: l => by simp only [List.map_cons, allO, Option.bind_some, allO_some l, Option.map_some]
theorem idx_opt {α : Type} {ls : List (Option α)} {i : Int} {z : Option α} {x : α} (h : idx ls i = some z) (hz : z = some x) : idx ls i = some (some x) := by rw [h, hz]
section
variable {P : Program} {w0 : World} {S0 : List Nat} {R : Type} {m : Option R} {n : Nat} {fr : Fr} {is : List Item} {Q : R → Exit → Act → World → Prop} {α : Type}
variable {ty : TypeId} {pos : String} {aft : Array Edge}
theorem Cd {c : C} {cs : List C} {is : List Item} {ds : List C} (h : Cls cs is ds) (hg : goneC c = true := by exact r) : Cls (c :: cs) is (.any :: ds) := .drop hg h
theorem Hm [Enc α] {l : List α} {v : Value} {rest : List Item} (ks : List Nat) (hp : takeP ks is = some ([.own v (lc l)], rest)) : ∀ w, St w0 S0 is w → St w0 S0 (.own v (lc (l.map some)) :: rest) w := by
  intro w h
  rw [lc_some]
  exact h.takeP hp
theorem Hv [Enc α] {ls : List (Option α)} {l : List α} {v : Value} {rest : List Item} (ks : List Nat) (hz : allO ls = some l) (hp : takeP ks is = some ([.own v (lc ls)], rest)) : ∀ w, St w0 S0 is w → St w0 S0 (.own v (lc l) :: rest) w := by
  intro w h
  rw [← lc_some, ← allO_eq hz]
  exact h.takeP hp
def cmpS (s u : List UInt8) : Int := Lib.compareBytes s u
theorem Es {d : Option Nat} {gd : Option (Nat × Bool)} {f : FuncId} {fn : Func} {x y : Operand} {s u : List UInt8} {ats : Array TypeId} (hf0 : P.funcs[f]? = some fn) (hx : ev fr x = some (strV s)) (hy : ev fr y = some (strV u))
    (hname : (fn.name == "runtime.NumGoroutine") = false := by kernel_rfl) (hbody : fn.body.isNone = true := by kernel_rfl) (hnext : Extern.findNext fn = none := by kernel_rfl) (hext : Extern.find fn = some Extern.BytealgCompare.compare := by kernel_rfl) :
    Ef P w0 S0 n fr is ⟨d, .call { callee := .value (.func f), args := #[x, y], argTypes := ats }, ty, pos, aft, gd⟩ (fun _ : Unit => .int .i64 (cmpS s u)) (fun _ => is) := by
  intro a w K Q hf hst hK
  have hrun : (execOp a.eval ⟨d, .call { callee := .value (.func f), args := #[x, y], argTypes := ats }, ty, pos, aft, gd⟩).run P w = .ok (.value (.int .i64 (cmpS s u))) w := by
    have h1 := run_callFunc_extern hf0 hname hbody hnext hext #[strV s, strV u] w
    have h3 : (Extern.BytealgCompare.compare #[strV s, strV u]).run P w = .ok (.int .i64 (cmpS s u)) w := Lib.run_compareString ⟨s.toArray⟩ ⟨u.toArray⟩ w
    rw [h3] at h1
    simp only [Result.andThen_ok] at h1
    have h2 : a.eval (.func f) = .func (.func f) #[] #[] := rfl
    simp [execOp, resolve, h2, Deferred.ofValue, invoke, hf.eval hx, hf.eval hy]
    simpa using h1
  unfold Oper.wp
  rw [hrun]
  exact hK () w hst
theorem Nc {l : List α} {v : Value} {sz' c : Nat} {cs' : List C} {x : Operand} {i : Int} {z : α} {dst : Option Nat} {gd : Option (Nat × Bool)} (hc : Can w0 S0 is v (.sl sz' l.length cs')) (hz : idx l i = some z) (hx : ev fr x = some (elP v c)) :
    Y P w0 S0 n fr is ⟨dst, .nilCheck x, ty, pos, aft, gd⟩ (elP v c) := by
  intro a w hf hs
  obtain ⟨_, hlt, _⟩ := idx_get hz
  rcases hc.row hs with ⟨h1, _, rfl⟩ | ⟨a0, cap, vs, S, rfl, _⟩
  · omega
  · simp [execOp, hf.eval hx, elP]
def ptrOk (v : Value) : Prop := match v with
  | .slice (some _) _ _ => True
  | _ => False
theorem ptr_of {l : List α} {v : Value} {sz' : Nat} {cs' : List C} {i : Int} {z : α} (hc : Can w0 S0 is v (.sl sz' l.length cs')) (hz : idx l i = some z) : ∀ w, St w0 S0 is w → ptrOk v := by
  intro w hs
  obtain ⟨_, hlt, _⟩ := idx_get hz
  rcases hc.row hs with ⟨h1, _, rfl⟩ | ⟨a0, cap, vs, S, rfl, _⟩
  · omega
  · trivial
theorem Np {v : Value} {c : Nat} {x : Operand} {dst : Option Nat} {gd : Option (Nat × Bool)} (hp : ptrOk v) (hx : ev fr x = some (elP v c)) :
    Y P w0 S0 n fr is ⟨dst, .nilCheck x, ty, pos, aft, gd⟩ (elP v c) := by
  intro a w hf hs
  unfold ptrOk at hp
  split at hp
  · simp [execOp, hf.eval hx, elP]
  · cases hp
theorem Fp {v : Value} {x : Operand} {o sz s f c : Nat} {k : Nat} {dst : Option Nat} {gd : Option (Nat × Bool)} (hfd : fieldB P s f = some o) (hp : ptrOk v) (hx : ev fr x = some (elP v (k * sz + c))) :
    Y P w0 S0 n fr is ⟨dst, .fieldAddr s x f, ty, pos, aft, gd⟩ (elP v (k * sz + Nat.add c o)) := by
  intro a w hf hs
  unfold ptrOk at hp
  split at hp
  · unfold fieldB at hfd
    split at hfd
    · rename_i fs hu
      split at hfd
      · rename_i fd hfd1
        split at hfd
        · rename_i jt hjt
          cases h0 : Nat.beq jt.size 0 with
          | true => rw [h0] at hfd; cases hfd
          | false =>
            rw [h0] at hfd
            have hne : jt.size ≠ 0 := by intro h; rw [h] at h0; cases h0
            simp only [cond_false, Option.some.injEq] at hfd
            simp [execOp, hf.eval hx, Instr.fieldAt, run_underlying hu, hfd1, Instr.sureAddr, fieldPlace, sizeOf, typeInfo, hjt, hne, hfd, elP, add_add, Nat.add_assoc]
        · cases hfd
      · cases hfd
    · cases hfd
  · cases hp
def mayI {β : Type} [Enc β] (v : Value) (o : Option (List β)) : Item := match o with
  | some l => .own v (lc l)
  | none => .ows [] []
theorem Mb [Enc α] {o : Option (List α)} {l : List α} {v : Value} {rest : List Item} (ks : List Nat) (hz : o = some l) (hp : takeP ks is = some ([mayI v o], rest)) : ∀ w, St w0 S0 is w → St w0 S0 (.own v (lc l) :: rest) w := by
  intro w h
  subst hz
  exact h.takeP hp
theorem Mn : ∀ w, St w0 S0 is w → St w0 S0 (.ows [] [] :: is) w := by
  intro w ⟨os, tape, output, size, base, S, hS, hnd, hin⟩
  exact ⟨os, tape, output, size, base, S, ⟨[], S, rfl, .nil, hS⟩, hnd, hin⟩
theorem Ows.raws {w : World} : ∀ {us : List Value}, (∀ u ∈ us, u.oneCell' = true) → Ows w us (us.map .raw) []
  | [], _ => .nil
  | u :: us, h => .cons u (.raw u) [] us _ [] (.raw u (h u (by simp))) (Ows.raws fun v hv => h v (by simp [hv]))
theorem Ow.raws {w : World} {v : Value} {sz n : Nat} {pre cs post : List C} {A : List Nat} (h : Ow w v (.sl sz n (pre ++ (cs ++ post))) A) :
    ∃ (us : List Value) (A' : List Nat), us.length = cs.length ∧ Ow w v (.sl sz n (pre ++ (us.map .raw ++ post))) A' ∧ A'.Sublist A := by
  generalize hg : pre ++ (cs ++ post) = ds at h
  cases h with
  | nil =>
    have h1 : pre = [] := by cases pre <;> simp_all
    have h2 : cs = [] := by subst h1; cases cs <;> simp_all
    have h3 : post = [] := by subst h1 h2; simpa using hg
    subst h1 h2 h3
    exact ⟨[], [], rfl, .nil sz, .slnil⟩
  | row b n cap e sz cur vs _ S hh hc hm hs ht hr =>
    subst hg
    obtain ⟨S1, S2, rfl, h1, h2⟩ := hr.split
    obtain ⟨S3, S4, rfl, h3, h4⟩ := h2.split
    refine ⟨(vs.drop pre.length).take cs.length, b :: (S1 ++ ([] ++ S4)), h3.length, .row b n cap e sz cur vs _ _ hh hc hm hs ht ?_, ?_⟩
    · have := h1.append ((Ows.raws h3.oneCells).append h4)
      rwa [List.take_append_drop, List.take_append_drop] at this
    · refine List.Sublist.cons_cons _ (List.Sublist.append (List.Sublist.refl _) ?_)
      exact List.Sublist.append (List.nil_sublist _) (List.Sublist.refl _)
theorem Hw [Enc α] {l : List α} {x : α} {v : Value} {rest : List Item} {i : Int} (q : Nat) {isf : Tup q → List Item} (ks : List Nat) (hz : idx l i = some x) (hp : takeP ks is = some ([.own v (lc l)], rest))
    (h1 : ∀ X : Tup q, (.own v (hl l i.toNat ((tupL q X).map .raw)) :: rest) = isf X) (hq : Enc.sz α = q := by exact r) : Gh w0 S0 is isf := by
  intro w h
  obtain ⟨os, tape, output, size, base, S, hS, hnd, hin⟩ := h.takeP hp
  rw [List.singleton_append, hl_self (idx_get hz).2.2] at hS
  obtain ⟨A, B, rfl, hA, hB⟩ := hS
  obtain ⟨us, A', hlen, hO, hsub⟩ := Ow.raws hA
  obtain ⟨X, rfl⟩ := tupL_of q us (by rw [hlen, Enc.len, hq])
  have hs2 : (A' ++ B).Sublist (A ++ B) := hsub.append (List.Sublist.refl _)
  refine ⟨X, ?_⟩
  rw [← h1 X]
  exact ⟨os, tape, output, size, base, A' ++ B, ⟨A', B, rfl, hO, hB⟩, hs2.nodup hnd, fun b hb => hin b (hs2.subset hb)⟩
theorem Ows.anys {w : World} : ∀ {us : List Value}, (∀ u ∈ us, u.oneCell' = true) → Ows w us (List.replicate us.length .any) []
  | [], _ => .nil
  | u :: us, h => .cons u .any [] us _ [] (.any u (h u (by simp))) (Ows.anys fun v hv => h v (by simp [hv]))
theorem perm_mid (A B C D : List Nat) : (A ++ (B ++ (C ++ D))).Perm ((A ++ C) ++ (B ++ D)) := by
  rw [List.append_assoc]
  refine List.Perm.append_left _ ?_
  rw [← List.append_assoc, ← List.append_assoc]
  exact List.Perm.append_right _ List.perm_append_comm
theorem Ef.appendV {d : Option Nat} {gd : Option (Nat × Bool)} {t e sz by_ k lo j N : Nat} {x y : Operand} {z : Value} {cs as ds bs : List C} {v u : Value} {is' : List Item}
    (ks : List Nat) (hb1 : (k + j) * by_ ≤ 140737488355328) (hb2 : k + j ≤ 9223372036854775807) (he : elemB P t = some (e, sz, by_)) (hz : zeroB P e = some z) (hzs : Nat.beq z.cells.size sz = true) (hpos : Nat.blt 0 sz = true)
    (hp : pulls ks is = some (.own v (.sl sz k cs) :: .own u (.sl sz N (as ++ (ds ++ bs))) :: is')) (has : as.length = lo * sz) (hds : ds.length = j * sz) (hle : lo + j ≤ N) (hx : ev fr x = some v) (hy : ev fr y = some (subV u sz lo j)) :
    Ef P w0 S0 n fr is ⟨d, .call { callee := .builtin .append, args := #[x, y], argTypes := #[t, t] }, ty, pos, aft, gd⟩ (fun v' : Value => v')
      (fun v' => .own v' (.sl sz (k + j) (cs ++ ds)) :: .own u (.sl sz N (as ++ (List.replicate (j * sz) .any ++ bs))) :: is') := by
  obtain ⟨hu, ti, hti, hsz', hby⟩ := elemB_some he
  have hzi : ti.zero = some z := by unfold zeroB at hz; rw [hti] at hz; simpa using hz
  intro a w K Q hf hs hK
  have hs' : St w0 S0 ([.own v (.sl sz k cs), .own u (.sl sz N (as ++ (ds ++ bs)))] ++ is') w := hs.pulls ks hp
  have key : ∀ A, sats w [.own v (.sl sz k cs), .own u (.sl sz N (as ++ (ds ++ bs)))] A → A.Nodup →
      ∃ v' w', (Builtin.append_ #[t, t] ty #[v, subV u sz lo j]).run P w = .ok v' w' ∧ ∃ A', Chg w w' A ∧ sats w' [.own v' (.sl sz (k + j) (cs ++ ds)), .own u (.sl sz N (as ++ (List.replicate (j * sz) .any ++ bs)))] A' ∧ A'.Nodup ∧ ∀ b ∈ A', b ∈ A ∨ w.heap.size ≤ b := by
    rintro A ⟨A1, A2, rfl, h1, A3, A4, rfl, h2, h3⟩ hnd
    rw [show A4 = [] from h3, List.append_nil] at hnd ⊢
    obtain ⟨us, T1, e1, hown, ho1, rfl⟩ := Ow.ownsRow h1
    generalize hG : as ++ (ds ++ bs) = xs at h2
    cases h2 with
    | nil =>
      have hj : j = 0 := by omega
      have hlo : lo = 0 := by omega
      subst hj hlo
      have hd0 : ds = [] := List.eq_nil_of_length_eq_zero (by omega)
      subst hd0
      have hrun := append_none_any (P := P) (ty := ty) hu hti v k us hown
      refine ⟨v, w, by simpa [subV] using hrun, (v.ownBlock.toList ++ T1) ++ [], Chg.refl _ _, ⟨v.ownBlock.toList ++ T1, [], rfl, ?_, [], [], rfl, ?_, rfl⟩, by simpa using hnd, fun b hb => .inl (by simpa using hb)⟩
      · show Ow w v (.sl sz (k + 0) (cs ++ [])) _
        rw [List.append_nil]
        exact h1
      · rw [Nat.zero_mul, List.replicate_zero, hG]
        exact .nil sz
    | row b n2 cap2 e2 sz2 cur vs _ T2 hh hc hm hsz2 ht hr =>
      subst hG
      obtain ⟨S1, S23, rfl, hr1, hr23⟩ := hr.split
      obtain ⟨S2, S3, rfl, hr2, hr3⟩ := hr23.split
      have hmulN : (lo + j) * sz ≤ N * sz := Nat.mul_le_mul_right _ hle
      rw [Nat.add_mul] at hmulN
      have hleN : N * sz ≤ cap2 * sz := Nat.mul_le_mul_right _ hc
      have hvl : vs.length = N * sz := by rw [← ht, List.length_take, Array.length_toList]; omega
      rw [has] at hr1 hr2 hr3
      rw [hds] at hr2 hr3
      have hvs2 : ((vs.drop (lo * sz)).take (j * sz)).length = j * sz := by rw [List.length_take, List.length_drop]; omega
      have hcell : ∀ i q, ((vs.drop (lo * sz)).take (j * sz))[i]? = some q → w.cell? ((⟨b, lo * sz, none⟩ : Addr).add i) = some q := by
        intro i q hq
        have hi : i < j * sz := by rw [← hvs2]; exact (List.getElem?_eq_some_iff.1 hq).1
        rw [add_lit, cell_of_row w b (lo * sz + i) cur e2 (0, 0) hh]
        rw [List.getElem?_take, if_pos hi, List.getElem?_drop, ← ht, List.getElem?_take, if_pos (by omega)] at hq
        rw [← hq, Array.getElem?_toList]
      obtain ⟨adr, hadr, hcell'⟩ : ∃ adr : Addr, subV (.slice (some ⟨b, 0, none⟩) N cap2) sz lo j = .slice (some adr) j (cap2 - lo) ∧ ∀ i q, ((vs.drop (lo * sz)).take (j * sz))[i]? = some q → w.cell? (adr.add i) = some q := by
        by_cases hcl : cap2 = lo
        · refine ⟨⟨b, 0, none⟩, by simp only [subV, if_pos hcl], fun i q hq => ?_⟩
          have hi : i < j * sz := by rw [← hvs2]; exact (List.getElem?_eq_some_iff.1 hq).1
          have hj0 : j = 0 := by omega
          rw [hj0] at hi; omega
        · refine ⟨⟨b, lo * sz, none⟩, ?_, hcell⟩
          simp only [subV, if_neg hcl, Option.map_some, add_lit, Nat.zero_add]
      rw [hadr]
      obtain ⟨v', w', f, r1, r2, r3, r4⟩ := append_raw (P := P) (ty := ty) hu hti hzi hsz' hby (by simpa using hzs) (by simpa using hpos) hown adr j (cap2 - lo) _ hvs2 hcell' hr2.oneCells hb2 hb1
      obtain ⟨hndL, hndR, hdis⟩ := List.nodup_append.1 hnd
      obtain ⟨hndV, hndT, hdisV⟩ := List.nodup_append.1 hndL
      obtain ⟨hnb, hndT2⟩ := List.nodup_cons.1 hndR
      have hlt1 := ho1.lt
      have hltA := hr1.lt
      have hltB := hr2.lt
      have hltC := hr3.lt
      have hbn : b < w.heap.size := (Array.getElem?_eq_some_iff.1 hh).1
      have hkeep : ∀ q ∈ T1 ++ (b :: (S1 ++ (S2 ++ S3))), w'.heap[q]? = w.heap[q]? := by
        intro q hq
        refine r3.block q ?_ ?_
        · rcases List.mem_append.1 hq with h | h
          · exact hlt1 q h
          · rcases List.mem_cons.1 h with rfl | h
            · exact hbn
            · rcases List.mem_append.1 h with h | h
              · exact hltA q h
              · rcases List.mem_append.1 h with h | h
                · exact hltB q h
                · exact hltC q h
        · intro e
          have hqv : q ∈ v.ownBlock.toList := by rw [← e]; simp
          rcases List.mem_append.1 hq with h | h
          · exact hdisV q hqv q h rfl
          · exact hdis q (List.mem_append.2 (.inl hqv)) q h rfl
      have hO1 := ho1.keep (w' := w') fun q hq => hkeep q (List.mem_append.2 (.inl hq))
      have hO2 := hr2.keep (w' := w') fun q hq => hkeep q (by simp [hq])
      have hO3 := hr1.keep (w' := w') fun q hq => hkeep q (by simp [hq])
      have hO4 := hr3.keep (w' := w') fun q hq => hkeep q (by simp [hq])
      have hc' : Chg w w' ((v.ownBlock.toList ++ T1) ++ (b :: (S1 ++ (S2 ++ S3)))) := Chg.of_grown r3 _ fun q hq => by simp only [List.mem_append]; exact .inl (.inl hq)
      have hrest : Ow w' (.slice (some ⟨b, 0, none⟩) N cap2) (.sl sz N (as ++ (List.replicate (j * sz) .any ++ bs))) (b :: (S1 ++ S3)) := by
        refine .row b N cap2 e2 sz cur vs _ _ ((hkeep b (by simp)).trans hh) hc hm hsz2 ht ?_
        have h7 := hO3.append ((Ows.anys (w := w') hr2.oneCells).append hO4)
        rw [hvs2, List.take_append_drop, List.take_append_drop, List.nil_append] at h7
        exact h7
      refine ⟨v', w', r1, (v'.ownBlock.toList ++ (T1 ++ S2)) ++ (b :: (S1 ++ S3)), hc', ⟨_, _, rfl, Ow.of_ownsRow r2 (hO1.append hO2), _, [], by rw [List.append_nil], hrest, rfl⟩, ?_, ?_⟩
      · have hsub : ∀ q ∈ v'.ownBlock.toList, q ∈ v.ownBlock.toList ∨ w.heap.size ≤ q := r4
        have hndall : ((T1 ++ S2) ++ (b :: (S1 ++ S3))).Nodup := by
          have hp0 : (T1 ++ (b :: (S1 ++ (S2 ++ S3)))).Perm ((T1 ++ S2) ++ (b :: (S1 ++ S3))) := by
            rw [show b :: (S1 ++ (S2 ++ S3)) = (b :: S1) ++ (S2 ++ S3) by simp, show b :: (S1 ++ S3) = (b :: S1) ++ S3 by simp]
            exact perm_mid _ _ _ _
          refine hp0.nodup_iff.1 (List.nodup_append.2 ⟨hndT, hndR, fun x hx y hy e => hdis x (List.mem_append.2 (.inr hx)) y hy e⟩)
        rw [List.append_assoc]
        refine List.nodup_append.2 ⟨by cases v'.ownBlock <;> simp, hndall, ?_⟩
        intro q hq y hy e
        subst e
        have hy2 : q ∈ T1 ++ (b :: (S1 ++ (S2 ++ S3))) := by
          simp only [List.mem_append, List.mem_cons] at hy ⊢
          rcases hy with (h | h) | h | h | h <;> simp [h]
        rcases hsub q hq with h | h
        · rcases List.mem_append.1 hy2 with h5 | h5
          · exact hdisV q h q h5 rfl
          · exact hdis q (List.mem_append.2 (.inl h)) q h5 rfl
        · rcases List.mem_append.1 hy2 with h5 | h5
          · have := hlt1 q h5; omega
          · rcases List.mem_cons.1 h5 with rfl | h5
            · omega
            · rcases List.mem_append.1 h5 with h5 | h5
              · have := hltA q h5; omega
              · rcases List.mem_append.1 h5 with h5 | h5
                · have := hltB q h5; omega
                · have := hltC q h5; omega
      · intro q hq
        simp only [List.mem_append, List.mem_cons] at hq ⊢
        rcases hq with (h | h | h) | h | h | h
        · rcases r4 q h with h | h
          · exact .inl (by simp [h])
          · exact .inr h
        · exact .inl (by simp [h])
        · exact .inl (by simp [h])
        · exact .inl (by simp [h])
        · exact .inl (by simp [h])
        · exact .inl (by simp [h])
  obtain ⟨SA, hSA⟩ := hs'.own
  obtain ⟨A, B, rfl, hA, hB⟩ := sats_append.1 hSA.1
  obtain ⟨v', w', h1, _⟩ := key A hA (List.nodup_append.1 hSA.2.1).1
  have hst : St w0 S0 ([.own v' (.sl sz (k + j) (cs ++ ds)), .own u (.sl sz N (as ++ (List.replicate (j * sz) .any ++ bs)))] ++ is') w' := hs'.step fun A hA hn => by
    obtain ⟨v2, w2, h2, h3⟩ := key A hA hn
    rw [h1] at h2
    cases h2
    exact h3
  have hrun : (execOp a.eval ⟨d, .call { callee := .builtin .append, args := #[x, y], argTypes := #[t, t] }, ty, pos, aft, gd⟩).run P w = .ok (.value v') w' := by
    simp [execOp, resolve, invoke, builtin, hf.eval hx, hf.eval hy, h1]
  unfold Oper.wp
  rw [hrun]
  exact hK v' w' hst
def cutO {α : Type} (ls : List (Option α)) (lo hi : Int) : Option (List α × List (Option α)) :=
  if 0 ≤ lo ∧ lo ≤ hi ∧ hi ≤ ls.length then (allO ((ls.drop lo.toNat).take (hi.toNat - lo.toNat))).map fun z => (z, ls.take lo.toNat ++ (List.replicate (hi.toNat - lo.toNat) none ++ ls.drop hi.toNat)) else none
theorem cutO_eq {α : Type} {ls ks : List (Option α)} {z : List α} {lo hi : Int} (h : cutO ls lo hi = some (z, ks)) :
    0 ≤ lo ∧ lo ≤ hi ∧ hi ≤ ls.length ∧ (ls.drop lo.toNat).take (hi.toNat - lo.toNat) = z.map some ∧ ks = ls.take lo.toNat ++ (List.replicate (hi.toNat - lo.toNat) none ++ ls.drop hi.toNat) := by
  unfold cutO at h
  split at h
  · rename_i hc
    cases ha : allO ((ls.drop lo.toNat).take (hi.toNat - lo.toNat)) with
    | none => rw [ha] at h; cases h
    | some z' => rw [ha] at h; cases h; exact ⟨hc.1, hc.2.1, hc.2.2, allO_eq ha, rfl⟩
  · cases h
theorem enc_none {α : Type} [Enc α] (k : Nat) : (List.replicate k (none : Option α)).flatMap Enc.enc = List.replicate (k * Enc.sz α) .any := by
  induction k with
  | zero => simp
  | succ k ih => rw [List.replicate_succ, List.flatMap_cons, ih, Nat.succ_mul, Nat.add_comm, ← List.replicate_append_replicate]; rfl
theorem Av [Enc α] {d : Option Nat} {gd : Option (Nat × Bool)} {t e sz by_ : Nat} {x y : Operand} {z : Value} {l g q : List α} {ls ms : List (Option α)} {v u : Value} {lo hi : Int} {rest : List Item}
    (ks : List Nat) (hc : cutO ls lo hi = some (g, ms)) (hr : app by_ l g = some q) (he : elemB P t = some (e, sz, by_)) (hz : zeroB P e = some z)
    (h0 : (takeP ks is, ev fr x, ev fr y) = (some ([.own v (lc l), .own u (lc ls)], rest), some v, some (subV u sz lo.toNat (hi.toNat - lo.toNat))))
    (hzs : Nat.beq z.cells.size sz = true := by exact r) (hsz : Enc.sz α = sz := by exact r) :
    Ef P w0 S0 n fr is ⟨d, .call { callee := .builtin .append, args := #[x, y], argTypes := #[t, t] }, ty, pos, aft, gd⟩ (fun v' : Value => v') (fun v' => .own v' (lc q) :: .own u (lc ms) :: rest) := by
  subst hsz
  simp only [Prod.mk.injEq] at h0
  obtain ⟨c1, c2, c3, c4, rfl⟩ := cutO_eq hc
  obtain ⟨rfl, hb1, hb2⟩ := app_eq hr
  have hgl : g.length = hi.toNat - lo.toNat := by
    have := congrArg List.length c4
    rw [List.length_take, List.length_drop, List.length_map] at this
    omega
  have hls : ls = ls.take lo.toNat ++ (g.map some ++ ls.drop hi.toNat) := by
    conv => lhs; rw [← List.take_append_drop lo.toNat ls, ← List.take_append_drop (hi.toNat - lo.toNat) (ls.drop lo.toNat), c4, List.drop_drop]
    rw [show lo.toNat + (hi.toNat - lo.toNat) = hi.toNat by omega]
  have e1 : lc ls = .sl (Enc.sz α) ls.length ((ls.take lo.toNat).flatMap Enc.enc ++ (g.flatMap Enc.enc ++ (ls.drop hi.toNat).flatMap Enc.enc)) := by
    show C.sl (Enc.sz α) ls.length (ls.flatMap Enc.enc) = _
    conv => lhs; rw [show ls.flatMap (Enc.enc (α := Option α)) = (ls.take lo.toNat ++ (g.map some ++ ls.drop hi.toNat)).flatMap Enc.enc from congrArg _ hls]
    rw [List.flatMap_append, List.flatMap_append, enc_some]
  have e2 : lc (ls.take lo.toNat ++ (List.replicate (hi.toNat - lo.toNat) none ++ ls.drop hi.toNat)) = .sl (Enc.sz α) ls.length ((ls.take lo.toNat).flatMap Enc.enc ++ (List.replicate ((hi.toNat - lo.toNat) * Enc.sz α) .any ++ (ls.drop hi.toNat).flatMap Enc.enc)) := by
    unfold lc
    rw [List.flatMap_append, List.flatMap_append, enc_none, List.length_append, List.length_append, List.length_take, List.length_replicate, List.length_drop]
    rw [show min lo.toNat ls.length + (hi.toNat - lo.toNat + (ls.length - hi.toNat)) = ls.length by omega]
    rfl
  have e3 : lc (l ++ g) = .sl (Enc.sz α) (l.length + (hi.toNat - lo.toNat)) (l.flatMap Enc.enc ++ g.flatMap Enc.enc) := by
    unfold lc
    rw [List.length_append, List.flatMap_append, hgl]
  rw [hgl] at hb1 hb2
  intro a w K Q hf hs hK
  have hs2 := hs.takeP h0.1
  rw [List.cons_append, List.cons_append, List.nil_append, e1] at hs2
  refine Ef.appendV (P := P) (is' := rest) (by_ := by_) (lo := lo.toNat) (j := hi.toNat - lo.toNat) (k := l.length) (N := ls.length) _ hb1 hb2 he hz hzs (by simpa using Enc.pos (α := α)) (pulls_same _) ?_ ?_ (by omega) h0.2.1 h0.2.2 a w K Q hf hs2 (fun v' w' hw => ?_)
  · rw [flat_length, List.length_take]
    show min lo.toNat ls.length * Enc.sz α = _
    congr 1; omega
  · rw [flat_length, hgl]
  · rw [← e2, ← e3] at hw
    exact hK v' w' hw
end
end Go.Proofs.YtmigafjpdoeicaaGreat.Sl
