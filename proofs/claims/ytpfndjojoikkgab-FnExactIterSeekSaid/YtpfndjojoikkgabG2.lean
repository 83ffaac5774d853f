/-
  The functions that a law reaches, each as a pure function, with the proof that the program computes it, and the step from a pure law to the given statement. Conditions: none.
-/
import Derived.Test.YtpfndjojoikkgabG1
set_option linter.unusedVariables false
set_option maxRecDepth 100000
namespace Go.Proofs.Ytpfndjojoikkgab
open Go Sl

/-- loop.example/g00950/laws.eqIter -/
noncomputable def laws_eqIter (a : Iter) (b : Iter) : Option Bool :=
  (laws_eqKVS a.List b.List).bind fun R3 =>
  if (!R3) = true then (some false)
  else (if (!(decide (a.From = b.From))) = true then (some false)
  else (if (!(decide (a.To = b.To))) = true then (some false)
  else (if (!(decide (a.At = b.At))) = true then (some false)
  else (some true))))

theorem laws_eqIter_con (a : Iter) (b : Iter) (V_a0 : Value) (V_b0 : Value) (r : Bool) (hm : laws_eqIter a b = some r) :
    Con Try.prog 13 [.agg #[V_a0, strV a.From, strV a.To, .int .i64 a.At], .agg #[V_b0, strV b.From, strV b.To, .int .i64 b.At]] [] [(V_a0, lc 30 a.List), (V_b0, lc 30 b.List)] (fun _ : Unit => .bool r) (fun _ => []) := by
  refine Con.intro (args := [.agg #[V_a0, strV a.From, strV a.To, .int .i64 a.At], .agg #[V_b0, strV b.From, strV b.To, .int .i64 b.At]]) (n := 26) (val := fun r (_ : Unit) => .bool r) (post := fun _ _ => []) (m := laws_eqIter a b) Try.func13 rfl rfl rfl hm ?_
  intro w S hrd
  have HB_V_a0 := hrd _ (.head _)
  have HB_V_b0 := hrd _ (.tail _ (.head _))
  clear hrd
  unfold laws_eqIter
  refine TW.seq ?_
  refine TW.region ?_
  refine TO.ef (Ef.box rfl (Cel.agg ⟨(One.can (Base.can HB_V_a0)), (One.plain rfl), (One.plain rfl), (One.plain rfl), trivial⟩)) rfl rfl rfl (fun B1 => ?_)
  refine TO.ef (Ef.box rfl (Cel.agg ⟨(One.can (Base.can HB_V_b0)), (One.plain rfl), (One.plain rfl), (One.plain rfl), trivial⟩)) rfl rfl rfl (fun B2 => ?_)
  refine TO.y (Y.assign rfl) rfl rfl rfl ?_
  refine TO.nil ?_
  refine TE.next ?_
  refine TW.seq ?_
  refine TW.seq ?_
  refine TW.region ?_
  refine TO.y (Y.field_box kf28_0 rfl rfl) rfl rfl rfl ?_
  refine TO.y (Y.load_box (v := V_a0) 1 kk26 rfl rfl rfl) rfl rfl rfl ?_
  refine TO.y (Y.field_box kf28_0 rfl rfl) rfl rfl rfl ?_
  refine TO.y (Y.load_box (v := V_b0) 0 kk26 rfl rfl rfl) rfl rfl rfl ?_
  refine TO.bind fun R3 H4 => ?_
  refine TO.ef (Ef.call (rest := [.box B2 28 [V_b0, strV b.From, strV b.To, .int .i64 b.At], .box B1 28 [V_a0, strV a.From, strV a.To, .int .i64 a.At]]) [0, 0] (laws_eqKVS_con a.List b.List V_a0 V_b0 R3 H4) kc42 rfl rfl ⟨(Base.can HB_V_a0), (Base.can HB_V_b0), trivial⟩) rfl rfl rfl (fun _ => ?_)
  refine TO.y (Y.not rfl) rfl rfl rfl ?_
  refine TO.nil ?_
  refine TE.next ?_
  refine TW.cond rfl (fun H6 => ?_) (fun H6 => ?_)
  · refine TW.seq ?_
    refine TW.region ?_
    refine TO.y (Y.assign rfl) rfl rfl rfl ?_
    refine TO.nil ?_
    refine TE.next ?_
    refine TW.ret ?_
    refine TE.then_ret ?_
    exact TE.leaf fun _ _ hf_ hs_ => ret_any (rs := [.tmp 4]) (vs := [.bool false]) (.inl rfl) rfl ⟨rfl, trivial⟩ hf_ hs_ ⟨(), rfl, hs_.pulls [] rfl⟩
  · refine TW.skip ?_
    refine TE.next ?_
    refine TW.seq ?_
    refine TW.seq ?_
    refine TW.region ?_
    refine TO.y (Y.field_box kf28_1 rfl rfl) rfl rfl rfl ?_
    refine TO.y (Y.load_box (v := strV a.From) 1 kk9 rfl rfl rfl) rfl rfl rfl ?_
    refine TO.y (Y.field_box kf28_1 rfl rfl) rfl rfl rfl ?_
    refine TO.y (Y.load_box (v := strV b.From) 0 kk9 rfl rfl rfl) rfl rfl rfl ?_
    refine TO.y (Y.sneq rfl rfl) rfl rfl rfl ?_
    refine TO.nil ?_
    refine TE.next ?_
    refine TW.cond rfl (fun H7 => ?_) (fun H7 => ?_)
    · refine TW.seq ?_
      refine TW.region ?_
      refine TO.y (Y.assign rfl) rfl rfl rfl ?_
      refine TO.nil ?_
      refine TE.next ?_
      refine TW.ret ?_
      refine TE.then_ret ?_
      exact TE.leaf fun _ _ hf_ hs_ => ret_any (rs := [.tmp 4]) (vs := [.bool false]) (.inl rfl) rfl ⟨rfl, trivial⟩ hf_ hs_ ⟨(), rfl, hs_.pulls [] rfl⟩
    · refine TW.skip ?_
      refine TE.next ?_
      refine TW.seq ?_
      refine TW.seq ?_
      refine TW.region ?_
      refine TO.y (Y.field_box kf28_2 rfl rfl) rfl rfl rfl ?_
      refine TO.y (Y.load_box (v := strV a.To) 1 kk9 rfl rfl rfl) rfl rfl rfl ?_
      refine TO.y (Y.field_box kf28_2 rfl rfl) rfl rfl rfl ?_
      refine TO.y (Y.load_box (v := strV b.To) 0 kk9 rfl rfl rfl) rfl rfl rfl ?_
      refine TO.y (Y.sneq rfl rfl) rfl rfl rfl ?_
      refine TO.nil ?_
      refine TE.next ?_
      refine TW.cond rfl (fun H8 => ?_) (fun H8 => ?_)
      · refine TW.seq ?_
        refine TW.region ?_
        refine TO.y (Y.assign rfl) rfl rfl rfl ?_
        refine TO.nil ?_
        refine TE.next ?_
        refine TW.ret ?_
        refine TE.then_ret ?_
        exact TE.leaf fun _ _ hf_ hs_ => ret_any (rs := [.tmp 4]) (vs := [.bool false]) (.inl rfl) rfl ⟨rfl, trivial⟩ hf_ hs_ ⟨(), rfl, hs_.pulls [] rfl⟩
      · refine TW.skip ?_
        refine TE.next ?_
        refine TW.seq ?_
        refine TW.seq ?_
        refine TW.region ?_
        refine TO.y (Y.field_box kf28_3 rfl rfl) rfl rfl rfl ?_
        refine TO.y (Y.load_box (v := .int .i64 a.At) 1 kk3 rfl rfl rfl) rfl rfl rfl ?_
        refine TO.y (Y.field_box kf28_3 rfl rfl) rfl rfl rfl ?_
        refine TO.y (Y.load_box (v := .int .i64 b.At) 0 kk3 rfl rfl rfl) rfl rfl rfl ?_
        refine TO.y (Y.neq rfl rfl) rfl rfl rfl ?_
        refine TO.nil ?_
        refine TE.next ?_
        refine TW.cond rfl (fun H9 => ?_) (fun H9 => ?_)
        · refine TW.seq ?_
          refine TW.region ?_
          refine TO.y (Y.assign rfl) rfl rfl rfl ?_
          refine TO.nil ?_
          refine TE.next ?_
          refine TW.ret ?_
          refine TE.then_ret ?_
          exact TE.leaf fun _ _ hf_ hs_ => ret_any (rs := [.tmp 4]) (vs := [.bool false]) (.inl rfl) rfl ⟨rfl, trivial⟩ hf_ hs_ ⟨(), rfl, hs_.pulls [] rfl⟩
        · refine TW.skip ?_
          refine TE.next ?_
          refine TW.seq ?_
          refine TW.region ?_
          refine TO.y (Y.assign rfl) rfl rfl rfl ?_
          refine TO.nil ?_
          refine TE.next ?_
          refine TW.ret ?_
          exact TE.leaf fun _ _ hf_ hs_ => ret_any (rs := [.tmp 4]) (vs := [.bool true]) (.inl rfl) rfl ⟨rfl, trivial⟩ hf_ hs_ ⟨(), rfl, hs_.pulls [] rfl⟩

/-- loop.example/g00950/laws.markText -/
noncomputable def laws_markText (k : Int) : Option (List UInt8) :=
  if (decide (k ≤ (0 : Int))) = true then (some ([109, 48]))
  else (bindC (loopO (fun (S2 : Int × List UInt8) => if (decide (S2.1 > (0 : Int))) = true then ((cat ([toU8 (IntKind.i64.wrap ((48 : Int) + (Int.tmod S2.1 (10 : Int))))]) S2.2).bind fun E8 =>
  some (.go (IntKind.i64.wrap (Int.tdiv S2.1 (10 : Int)), E8)))
  else (some (.done (.go S2.2))))
  (k, []))
  (fun (T4 : List UInt8) => (cat ([109]) T4).bind fun E10 =>
  some E10))

theorem laws_markText_con (k : Int)  (r : List UInt8) (hm : laws_markText k = some r) :
    Con Try.prog 50 [.int .i64 k] [] [] (fun _ : Unit => strV r) (fun _ => []) := by
  refine Con.intro (args := [.int .i64 k]) (n := 20) (val := fun r (_ : Unit) => strV r) (post := fun _ _ => []) (m := laws_markText k) Try.func50 rfl rfl rfl hm ?_
  intro w S _
  unfold laws_markText
  refine TW.seq ?_
  refine TW.region ?_
  refine TO.y (Y.assign rfl) rfl rfl rfl ?_
  refine TO.nil ?_
  refine TE.next ?_
  refine TW.seq ?_
  refine TW.seq ?_
  refine TW.region ?_
  refine TO.y (Y.move rfl) rfl rfl rfl ?_
  refine TO.y (Y.leq rfl rfl) rfl rfl rfl ?_
  refine TO.nil ?_
  refine TE.next ?_
  refine TW.cond rfl (fun H1 => ?_) (fun H1 => ?_)
  · refine TW.seq ?_
    refine TW.region ?_
    refine TO.y (Y.assign rfl) rfl rfl rfl ?_
    refine TO.nil ?_
    refine TE.next ?_
    refine TW.ret ?_
    refine TE.then_ret ?_
    exact TE.leaf fun _ _ hf_ hs_ => ret_any (rs := [.tmp 2]) (vs := [strV ([109, 48])]) (.inl rfl) rfl ⟨rfl, trivial⟩ hf_ hs_ ⟨(), rfl, hs_.pulls [] rfl⟩
  · refine TW.skip ?_
    refine TE.next ?_
    refine TW.seq ?_
    refine TW.region ?_
    refine TO.y (Y.assign rfl) rfl rfl rfl ?_
    refine TO.nil ?_
    refine TE.next ?_
    refine TW.seq ?_
    refine TW.joinX (τ := List UInt8) (X := Unit) (fun T _ => [(3, strV T)]) (fun _ _ => []) ?_ (fun T4 X5 => ?_)
    · refine TW.block ?_
      refine TW.loopX (σ := Int × List UInt8) (X := Unit) (fun T _ => [(0, .int .i64 T.1), (3, strV T.2)]) (fun _ _ => []) () [] ⟨rfl, rfl, trivial⟩ rfl (fun S2 X3 => ?_)
      refine TW.seq ?_
      refine TW.seq ?_
      refine TW.region ?_
      refine TO.y (Y.move rfl) rfl rfl rfl ?_
      refine TO.y (Y.gtr rfl rfl) rfl rfl rfl ?_
      refine TO.nil ?_
      refine TE.next ?_
      refine TW.cond rfl (fun H6 => ?_) (fun H6 => ?_)
      · refine TW.skip ?_
        refine TE.next ?_
        refine TW.block ?_
        refine TW.seq ?_
        refine TW.region ?_
        refine TO.y (Y.move rfl) rfl rfl rfl ?_
        refine TO.y (Y.rem (by decide) rfl rfl) rfl rfl rfl ?_
        refine TO.y (Y.add rfl rfl) rfl rfl rfl ?_
        refine TO.y (Y.conv8 ki3 ki5 rfl) rfl rfl rfl ?_
        refine TO.ef (Ef.buildSlice (α := UInt8) (Vs := [.int .u8 (((toU8 (IntKind.i64.wrap ((48 : Int) + (Int.tmod S2.1 (10 : Int))))).toNat : Nat) : Int)]) [toU8 (IntKind.i64.wrap ((48 : Int) + (Int.tmod S2.1 (10 : Int))))] ke84 kz5 rfl rfl rfl rfl rfl) rfl rfl rfl (fun B7 => ?_)
        refine TO.y (Y.toStr ke84 ki5 ks9 (Can.own 0 rfl) rfl) rfl rfl rfl ?_
        refine TO.y (Y.move rfl) rfl rfl rfl ?_
        refine TO.bind fun E8 H9 => ?_
        refine TO.y (Y.cat H9 rfl rfl) rfl rfl rfl ?_
        refine TO.y (Y.assign rfl) rfl rfl rfl ?_
        refine TO.nil ?_
        refine TE.next ?_
        refine TW.region ?_
        refine TO.y (Y.move rfl) rfl rfl rfl ?_
        refine TO.y (Y.quo (by decide) rfl rfl) rfl rfl rfl ?_
        refine TO.y (Y.assign rfl) rfl rfl rfl ?_
        refine TO.nil ?_
        refine TE.block_normal ?_
        exact TE.lp_go () [] ⟨rfl, rfl, trivial⟩ rfl
      · refine TW.exit ?_
        refine TE.then_exit ?_
        refine TE.lp_exit ?_
        refine TE.block_exit ?_
        exact TE.jn_go () [] ⟨rfl, trivial⟩ rfl
    · refine TE.next ?_
      refine TW.seq ?_
      refine TW.region ?_
      refine TO.y (Y.move rfl) rfl rfl rfl ?_
      refine TO.bind fun E10 H11 => ?_
      refine TO.y (Y.cat H11 rfl rfl) rfl rfl rfl ?_
      refine TO.y (Y.assign rfl) rfl rfl rfl ?_
      refine TO.nil ?_
      refine TE.next ?_
      refine TW.ret ?_
      exact TE.leaf fun _ _ hf_ hs_ => ret_any (rs := [.tmp 2]) (vs := [strV E10]) (.inl rfl) rfl ⟨rfl, trivial⟩ hf_ hs_ ⟨(), rfl, hs_.pulls [] rfl⟩

/-- loop.example/g00950/laws.markKVS -/
noncomputable def laws_markKVS (a : List KV) (k : Int) : Option (Int × List KV) :=
  bindC (loopO (fun (S1 : Int × Int × List KV) => if (decide (S1.2.1 < ((S1.2.2.length : Nat) : Int))) = true then ((laws_markText S1.1).bind fun R6 =>
  (idx S1.2.2 S1.2.1).bind fun E9 =>
  (laws_markText (IntKind.i64.wrap (S1.1 + (1 : Int)))).bind fun R11 =>
  some (.go (IntKind.i64.wrap (IntKind.i64.wrap (S1.1 + (1 : Int)) + (1 : Int)), IntKind.i64.wrap (S1.2.1 + (1 : Int)), (S1.2.2.set S1.2.1.toNat ({ Key := R6, Val := R11 : KV })))))
  else (some (.done (.go (S1.1, S1.2.2)))))
  (k, (0 : Int), a))
  (fun (T3 : Int × List KV) => some (T3.1, T3.2))

theorem laws_markKVS_con (a : List KV) (k : Int) (V_a0 : Value) (r : Int × List KV) (hm : laws_markKVS a k = some r) :
    Con Try.prog 43 [V_a0, .int .i64 k] [.own V_a0 (lc 30 a)] [] (fun _ : Unit => .int .i64 r.1) (fun _ => [.own V_a0 (lc 30 r.2)]) := by
  refine Con.intro (args := [V_a0, .int .i64 k]) (n := 29) (val := fun r (_ : Unit) => .int .i64 r.1) (post := fun r _ => [.own V_a0 (lc 30 r.2)]) (m := laws_markKVS a k) Try.func43 rfl rfl rfl hm ?_
  intro w S _
  unfold laws_markKVS
  refine TW.seq ?_
  refine TW.region ?_
  refine TO.y (Y.assign rfl) rfl rfl rfl ?_
  refine TO.nil ?_
  refine TE.next ?_
  refine TW.seq ?_
  refine TW.seq ?_
  refine TW.region ?_
  refine TO.y (Y.assign rfl) rfl rfl rfl ?_
  refine TO.nil ?_
  refine TE.next ?_
  refine TW.joinX (τ := Int × List KV) (X := Unit) (fun T _ => [(1, .int .i64 T.1)]) (fun T _ => [.own V_a0 (lc 30 T.2)]) ?_ (fun T3 X4 => ?_)
  · refine TW.block ?_
    refine TW.loopX (σ := Int × Int × List KV) (X := Unit) (fun T _ => [(0, V_a0), (1, .int .i64 T.1), (5, .int .i64 T.2.1)]) (fun T _ => [.own V_a0 (lc 30 T.2.2)]) () [0] ⟨rfl, rfl, rfl, trivial⟩ rfl (fun S1 X2 => ?_)
    refine TW.seq ?_
    refine TW.seq ?_
    refine TW.region ?_
    refine TO.y (Y.move rfl) rfl rfl rfl ?_
    refine TO.y (Y.move rfl) rfl rfl rfl ?_
    refine TO.y (Y.len (l := S1.2.2) ke26 (Can.own 0 rfl) rfl) rfl rfl rfl ?_
    refine TO.y (Y.lss rfl rfl) rfl rfl rfl ?_
    refine TO.nil ?_
    refine TE.next ?_
    refine TW.cond rfl (fun H5 => ?_) (fun H5 => ?_)
    · refine TW.skip ?_
      refine TE.next ?_
      refine TW.seq ?_
      refine TW.block ?_
      refine TW.seq ?_
      refine TW.region ?_
      refine TO.y (Y.move rfl) rfl rfl rfl ?_
      refine TO.y (Y.move rfl) rfl rfl rfl ?_
      refine TO.y (Y.move rfl) rfl rfl rfl ?_
      refine TO.bind fun R6 H7 => ?_
      refine TO.ef (Ef.call (rest := [.own V_a0 (lc 30 S1.2.2)]) [0] (laws_markText_con S1.1  R6 H7) kc50 rfl rfl trivial) rfl rfl rfl (fun _ => ?_)
      refine TO.bind fun E9 H10 => ?_
      refine TO.y (Y.index ke26 (Can.own 0 rfl) H10 rfl rfl) rfl rfl rfl ?_
      refine TO.y (Y.field_el kf30_0 (Can.own 0 rfl) (idx_get H10).2.2 rfl rfl) rfl rfl rfl ?_
      refine TO.ef0 (Ef.store_el (us := [strV R6]) (is' := [.own V_a0 (lc 30 (S1.2.2.set S1.2.1.toNat ({ Key := R6, Val := E9.Val : KV })))]) ({ Key := R6, Val := E9.Val : KV }) 0 kk9 rfl rfl (idx_get H10).2.2 rfl rfl (Cel.plain rfl rfl) rfl rfl rfl rfl) rfl rfl (fun _ => ?_)
      refine TO.nil ?_
      refine TE.next ?_
      refine TW.seq ?_
      refine TW.region ?_
      refine TO.y (Y.move rfl) rfl rfl rfl ?_
      refine TO.y (Y.add rfl rfl) rfl rfl rfl ?_
      refine TO.y (Y.assign rfl) rfl rfl rfl ?_
      refine TO.nil ?_
      refine TE.next ?_
      refine TW.seq ?_
      refine TW.region ?_
      refine TO.y (Y.move rfl) rfl rfl rfl ?_
      refine TO.y (Y.move rfl) rfl rfl rfl ?_
      refine TO.y (Y.move rfl) rfl rfl rfl ?_
      refine TO.bind fun R11 H12 => ?_
      refine TO.ef (Ef.call (rest := [.own V_a0 (lc 30 (S1.2.2.set S1.2.1.toNat ({ Key := R6, Val := E9.Val : KV })))]) [0] (laws_markText_con (IntKind.i64.wrap (S1.1 + (1 : Int)))  R11 H12) kc50 rfl rfl trivial) rfl rfl rfl (fun _ => ?_)
      refine TO.y (Y.index ke26 (Can.own 0 rfl) (idx_set H10) rfl rfl) rfl rfl rfl ?_
      refine TO.y (Y.field_el kf30_1 (Can.own 0 rfl) (idx_get (idx_set H10)).2.2 rfl rfl) rfl rfl rfl ?_
      refine TO.ef0 (Ef.store_el (us := [strV R11]) (is' := [.own V_a0 (lc 30 (S1.2.2.set S1.2.1.toNat ({ Key := R6, Val := R11 : KV })))]) ({ Key := R6, Val := R11 : KV }) 0 kk9 rfl rfl (idx_get (idx_set H10)).2.2 rfl rfl (Cel.plain rfl rfl) rfl rfl rfl (by rw [List.set_set]; rfl)) rfl rfl (fun _ => ?_)
      refine TO.nil ?_
      refine TE.next ?_
      refine TW.region ?_
      refine TO.y (Y.move rfl) rfl rfl rfl ?_
      refine TO.y (Y.add rfl rfl) rfl rfl rfl ?_
      refine TO.y (Y.assign rfl) rfl rfl rfl ?_
      refine TO.nil ?_
      refine TE.block_normal ?_
      refine TE.next ?_
      refine TW.region ?_
      refine TO.y (Y.move rfl) rfl rfl rfl ?_
      refine TO.y (Y.add rfl rfl) rfl rfl rfl ?_
      refine TO.y (Y.assign rfl) rfl rfl rfl ?_
      refine TO.nil ?_
      exact TE.lp_go () [0] ⟨rfl, rfl, rfl, trivial⟩ rfl
    · refine TW.exit ?_
      refine TE.then_exit ?_
      refine TE.lp_exit ?_
      refine TE.block_exit ?_
      exact TE.jn_go () [0] ⟨rfl, trivial⟩ rfl
  · refine TE.next ?_
    refine TW.seq ?_
    refine TW.region ?_
    refine TO.y (Y.move rfl) rfl rfl rfl ?_
    refine TO.y (Y.assign rfl) rfl rfl rfl ?_
    refine TO.nil ?_
    refine TE.next ?_
    refine TW.ret ?_
    exact TE.leaf fun _ _ hf_ hs_ => ret_any (rs := [.tmp 4]) (vs := [.int .i64 T3.1]) (.inl rfl) rfl ⟨rfl, trivial⟩ hf_ hs_ ⟨(), rfl, hs_.pulls [0] rfl⟩

/-- loop.example/g00950/laws.markIter -/
noncomputable def laws_markIter (a : Iter) (k : Int) : Option (Int × List KV) :=
  (laws_markKVS a.List k).bind fun R2 =>
  some (R2.1, R2.2)

theorem laws_markIter_con (a : Iter) (k : Int) (V_a0 : Value) (r : Int × List KV) (hm : laws_markIter a k = some r) :
    Con Try.prog 15 [.agg #[V_a0, strV a.From, strV a.To, .int .i64 a.At], .int .i64 k] [.own V_a0 (lc 30 a.List)] [] (fun _ : Unit => .int .i64 r.1) (fun _ => [.own V_a0 (lc 30 r.2)]) := by
  refine Con.intro (args := [.agg #[V_a0, strV a.From, strV a.To, .int .i64 a.At], .int .i64 k]) (n := 10) (val := fun r (_ : Unit) => .int .i64 r.1) (post := fun r _ => [.own V_a0 (lc 30 r.2)]) (m := laws_markIter a k) Try.func15 rfl rfl rfl hm ?_
  intro w S _
  unfold laws_markIter
  refine TW.seq ?_
  refine TW.region ?_
  refine TO.ef (Ef.box rfl (Cel.agg ⟨(One.can (Can.own 0 rfl)), (One.plain rfl), (One.plain rfl), (One.plain rfl), trivial⟩)) rfl rfl rfl (fun B1 => ?_)
  refine TO.y (Y.assign rfl) rfl rfl rfl ?_
  refine TO.nil ?_
  refine TE.next ?_
  refine TW.seq ?_
  refine TW.region ?_
  refine TO.y (Y.field_box kf28_0 rfl rfl) rfl rfl rfl ?_
  refine TO.y (Y.load_box (v := V_a0) 0 kk26 rfl rfl rfl) rfl rfl rfl ?_
  refine TO.y (Y.move rfl) rfl rfl rfl ?_
  refine TO.bind fun R2 H3 => ?_
  refine TO.ef (Ef.call (rest := [.box B1 28 [V_a0, strV a.From, strV a.To, .int .i64 a.At]]) [1, 0] (laws_markKVS_con a.List k V_a0 R2 H3) kc43 rfl rfl trivial) rfl rfl rfl (fun _ => ?_)
  refine TO.y (Y.assign rfl) rfl rfl rfl ?_
  refine TO.nil ?_
  refine TE.next ?_
  refine TW.seq ?_
  refine TW.region ?_
  refine TO.y (Y.move rfl) rfl rfl rfl ?_
  refine TO.y (Y.assign rfl) rfl rfl rfl ?_
  refine TO.nil ?_
  refine TE.next ?_
  refine TW.ret ?_
  exact TE.leaf fun _ _ hf_ hs_ => ret_any (rs := [.tmp 4]) (vs := [.int .i64 R2.1]) (.inl rfl) rfl ⟨rfl, trivial⟩ hf_ hs_ ⟨(), rfl, hs_.pulls [0] rfl⟩

/-- loop.example/g00950/laws.heldKVS -/
noncomputable def laws_heldKVS (a : List KV) (k : Int) : Option Int :=
  bindC (loopO (fun (S1 : Int × Int) => if (decide (S1.2 < ((a.length : Nat) : Int))) = true then ((idx a S1.2).bind fun E6 =>
  (laws_markText S1.1).bind fun R8 =>
  if (!(decide (E6.Key = R8))) = true then (some (.done (.done (-1 : Int))))
  else ((laws_markText (IntKind.i64.wrap (S1.1 + (1 : Int)))).bind fun R12 =>
  if (!(decide (E6.Val = R12))) = true then (some (.done (.done (-1 : Int))))
  else (some (.go (IntKind.i64.wrap (IntKind.i64.wrap (S1.1 + (1 : Int)) + (1 : Int)), IntKind.i64.wrap (S1.2 + (1 : Int)))))))
  else (some (.done (.go S1.1))))
  (k, (0 : Int)))
  (fun (T3 : Int) => some T3)

theorem laws_heldKVS_con (a : List KV) (k : Int) (V_a0 : Value) (r : Int) (hm : laws_heldKVS a k = some r) :
    Con Try.prog 44 [V_a0, .int .i64 k] [] [(V_a0, lc 30 a)] (fun _ : Unit => .int .i64 r) (fun _ => []) := by
  refine Con.intro (args := [V_a0, .int .i64 k]) (n := 33) (val := fun r (_ : Unit) => .int .i64 r) (post := fun _ _ => []) (m := laws_heldKVS a k) Try.func44 rfl rfl rfl hm ?_
  intro w S hrd
  have HB_V_a0 := hrd _ (.head _)
  clear hrd
  unfold laws_heldKVS
  refine TW.seq ?_
  refine TW.region ?_
  refine TO.y (Y.assign rfl) rfl rfl rfl ?_
  refine TO.nil ?_
  refine TE.next ?_
  refine TW.seq ?_
  refine TW.seq ?_
  refine TW.region ?_
  refine TO.y (Y.assign rfl) rfl rfl rfl ?_
  refine TO.nil ?_
  refine TE.next ?_
  refine TW.joinX (τ := Int) (X := Unit) (fun T _ => [(1, .int .i64 T)]) (fun _ _ => []) ?_ (fun T3 X4 => ?_)
  · refine TW.block ?_
    refine TW.loopX (σ := Int × Int) (X := Unit) (fun T _ => [(0, V_a0), (1, .int .i64 T.1), (5, .int .i64 T.2)]) (fun _ _ => []) () [] ⟨rfl, rfl, rfl, trivial⟩ rfl (fun S1 X2 => ?_)
    refine TW.seq ?_
    refine TW.seq ?_
    refine TW.region ?_
    refine TO.y (Y.move rfl) rfl rfl rfl ?_
    refine TO.y (Y.move rfl) rfl rfl rfl ?_
    refine TO.y (Y.len (l := a) ke26 (Base.can HB_V_a0) rfl) rfl rfl rfl ?_
    refine TO.y (Y.lss rfl rfl) rfl rfl rfl ?_
    refine TO.nil ?_
    refine TE.next ?_
    refine TW.cond rfl (fun H5 => ?_) (fun H5 => ?_)
    · refine TW.skip ?_
      refine TE.next ?_
      refine TW.seq ?_
      refine TW.block ?_
      refine TW.seq ?_
      refine TW.seq ?_
      refine TW.draw (isH := []) hMix ?_
      refine TA.y (listed' := #[true, false, false, false, false, false, false, false]) 0 [] rfl (Y.move rfl) rfl rfl rfl (by kernel_rfl) (by kernel_rfl) (by kernel_rfl) rfl rfl ?_
      refine TA.y (listed' := #[true, true, false, false, false, false, false, false]) 1 [] rfl (Y.move rfl) rfl rfl rfl (by kernel_rfl) (by kernel_rfl) (by kernel_rfl) rfl rfl ?_
      refine TA.bind fun E6 H7 => ?_
      refine TA.y (listed' := #[true, true, true, false, false, false, false, false]) 2 [] rfl (Y.index ke26 (Base.can HB_V_a0) H7 rfl rfl) rfl rfl rfl (by kernel_rfl) (by kernel_rfl) (by kernel_rfl) rfl rfl ?_
      refine TA.y (listed' := #[true, true, true, true, false, false, false, false]) 3 [] rfl (Y.field_el kf30_0 (Base.can HB_V_a0) (idx_get H7).2.2 rfl rfl) rfl rfl rfl (by kernel_rfl) (by kernel_rfl) (by kernel_rfl) rfl rfl ?_
      refine TA.y (listed' := #[true, true, true, true, true, false, false, false]) 4 [] rfl (Y.load_el (us := [strV E6.Key]) (u := strV E6.Key) kk9 rfl (Base.can HB_V_a0) (idx_get H7).2.2 rfl rfl rfl rfl rfl) rfl rfl rfl (by kernel_rfl) (by kernel_rfl) (by kernel_rfl) rfl rfl ?_
      refine TA.y (listed' := #[true, true, true, true, true, true, false, false]) 5 [] rfl (Y.move rfl) rfl rfl rfl (by kernel_rfl) (by kernel_rfl) (by kernel_rfl) rfl rfl ?_
      refine TA.bind fun R8 H9 => ?_
      refine TA.one 6 (by kernel_rfl) ?_
      refine TX.ef (listed' := #[true, true, true, true, true, true, true, false]) [] rfl (Ef.call (rest := []) [] (laws_markText_con S1.1  R8 H9) kc50 rfl rfl trivial) rfl rfl rfl rfl (fun _ => rfl) (fun _ => ?_)
      refine TA.y (listed' := #[true, true, true, true, true, true, true, true]) 7 [] rfl (Y.sneq rfl rfl) rfl rfl rfl (by kernel_rfl) (by kernel_rfl) (by kernel_rfl) rfl rfl ?_
      refine TA.nil (by kernel_rfl) ?_
      refine TE.next ?_
      refine TW.cond rfl (fun H11 => ?_) (fun H11 => ?_)
      · refine TW.seq ?_
        refine TW.region ?_
        refine TO.y (Y.assign rfl) rfl rfl rfl ?_
        refine TO.nil ?_
        refine TE.next ?_
        refine TW.ret ?_
        refine TE.then_ret ?_
        refine TE.block_ret ?_
        refine TE.then_ret ?_
        refine TE.lp_ret ?_
        refine TE.block_ret ?_
        refine TE.jn_done ?_
        refine TE.then_ret ?_
        exact TE.leaf fun _ _ hf_ hs_ => ret_any (rs := [.tmp 4]) (vs := [.int .i64 (-1 : Int)]) (.inl rfl) rfl ⟨rfl, trivial⟩ hf_ hs_ ⟨(), rfl, hs_.pulls [] rfl⟩
      · refine TW.skip ?_
        refine TE.next ?_
        refine TW.seq ?_
        refine TW.region ?_
        refine TO.y (Y.move rfl) rfl rfl rfl ?_
        refine TO.y (Y.add rfl rfl) rfl rfl rfl ?_
        refine TO.y (Y.assign rfl) rfl rfl rfl ?_
        refine TO.nil ?_
        refine TE.next ?_
        refine TW.seq ?_
        refine TW.seq ?_
        refine TW.draw (isH := []) hMix ?_
        refine TA.y (listed' := #[true, false, false, false, false, false, false, false]) 0 [] rfl (Y.move rfl) rfl rfl rfl (by kernel_rfl) (by kernel_rfl) (by kernel_rfl) rfl rfl ?_
        refine TA.y (listed' := #[true, true, false, false, false, false, false, false]) 1 [] rfl (Y.move rfl) rfl rfl rfl (by kernel_rfl) (by kernel_rfl) (by kernel_rfl) rfl rfl ?_
        refine TA.y (listed' := #[true, true, true, false, false, false, false, false]) 2 [] rfl (Y.index ke26 (Base.can HB_V_a0) H7 rfl rfl) rfl rfl rfl (by kernel_rfl) (by kernel_rfl) (by kernel_rfl) rfl rfl ?_
        refine TA.y (listed' := #[true, true, true, true, false, false, false, false]) 3 [] rfl (Y.field_el kf30_1 (Base.can HB_V_a0) (idx_get H7).2.2 rfl rfl) rfl rfl rfl (by kernel_rfl) (by kernel_rfl) (by kernel_rfl) rfl rfl ?_
        refine TA.y (listed' := #[true, true, true, true, true, false, false, false]) 4 [] rfl (Y.load_el (us := [strV E6.Val]) (u := strV E6.Val) kk9 rfl (Base.can HB_V_a0) (idx_get H7).2.2 rfl rfl rfl rfl rfl) rfl rfl rfl (by kernel_rfl) (by kernel_rfl) (by kernel_rfl) rfl rfl ?_
        refine TA.y (listed' := #[true, true, true, true, true, true, false, false]) 5 [] rfl (Y.move rfl) rfl rfl rfl (by kernel_rfl) (by kernel_rfl) (by kernel_rfl) rfl rfl ?_
        refine TA.bind fun R12 H13 => ?_
        refine TA.one 6 (by kernel_rfl) ?_
        refine TX.ef (listed' := #[true, true, true, true, true, true, true, false]) [] rfl (Ef.call (rest := []) [] (laws_markText_con (IntKind.i64.wrap (S1.1 + (1 : Int)))  R12 H13) kc50 rfl rfl trivial) rfl rfl rfl rfl (fun _ => rfl) (fun _ => ?_)
        refine TA.y (listed' := #[true, true, true, true, true, true, true, true]) 7 [] rfl (Y.sneq rfl rfl) rfl rfl rfl (by kernel_rfl) (by kernel_rfl) (by kernel_rfl) rfl rfl ?_
        refine TA.nil (by kernel_rfl) ?_
        refine TE.next ?_
        refine TW.cond rfl (fun H15 => ?_) (fun H15 => ?_)
        · refine TW.seq ?_
          refine TW.region ?_
          refine TO.y (Y.assign rfl) rfl rfl rfl ?_
          refine TO.nil ?_
          refine TE.next ?_
          refine TW.ret ?_
          refine TE.then_ret ?_
          refine TE.block_ret ?_
          refine TE.then_ret ?_
          refine TE.lp_ret ?_
          refine TE.block_ret ?_
          refine TE.jn_done ?_
          refine TE.then_ret ?_
          exact TE.leaf fun _ _ hf_ hs_ => ret_any (rs := [.tmp 4]) (vs := [.int .i64 (-1 : Int)]) (.inl rfl) rfl ⟨rfl, trivial⟩ hf_ hs_ ⟨(), rfl, hs_.pulls [] rfl⟩
        · refine TW.skip ?_
          refine TE.next ?_
          refine TW.region ?_
          refine TO.y (Y.move rfl) rfl rfl rfl ?_
          refine TO.y (Y.add rfl rfl) rfl rfl rfl ?_
          refine TO.y (Y.assign rfl) rfl rfl rfl ?_
          refine TO.nil ?_
          refine TE.block_normal ?_
          refine TE.next ?_
          refine TW.region ?_
          refine TO.y (Y.move rfl) rfl rfl rfl ?_
          refine TO.y (Y.add rfl rfl) rfl rfl rfl ?_
          refine TO.y (Y.assign rfl) rfl rfl rfl ?_
          refine TO.nil ?_
          exact TE.lp_go () [] ⟨rfl, rfl, rfl, trivial⟩ rfl
    · refine TW.exit ?_
      refine TE.then_exit ?_
      refine TE.lp_exit ?_
      refine TE.block_exit ?_
      exact TE.jn_go () [] ⟨rfl, trivial⟩ rfl
  · refine TE.next ?_
    refine TW.seq ?_
    refine TW.region ?_
    refine TO.y (Y.move rfl) rfl rfl rfl ?_
    refine TO.y (Y.assign rfl) rfl rfl rfl ?_
    refine TO.nil ?_
    refine TE.next ?_
    refine TW.ret ?_
    exact TE.leaf fun _ _ hf_ hs_ => ret_any (rs := [.tmp 4]) (vs := [.int .i64 T3]) (.inl rfl) rfl ⟨rfl, trivial⟩ hf_ hs_ ⟨(), rfl, hs_.pulls [] rfl⟩

/-- loop.example/g00950/laws.heldIter -/
noncomputable def laws_heldIter (a : Iter) (k : Int) : Option Int :=
  (laws_heldKVS a.List k).bind fun R2 =>
  if (decide (R2 < (0 : Int))) = true then (some (-1 : Int))
  else (some R2)

theorem laws_heldIter_con (a : Iter) (k : Int) (V_a0 : Value) (r : Int) (hm : laws_heldIter a k = some r) :
    Con Try.prog 16 [.agg #[V_a0, strV a.From, strV a.To, .int .i64 a.At], .int .i64 k] [] [(V_a0, lc 30 a.List)] (fun _ : Unit => .int .i64 r) (fun _ => []) := by
  refine Con.intro (args := [.agg #[V_a0, strV a.From, strV a.To, .int .i64 a.At], .int .i64 k]) (n := 12) (val := fun r (_ : Unit) => .int .i64 r) (post := fun _ _ => []) (m := laws_heldIter a k) Try.func16 rfl rfl rfl hm ?_
  intro w S hrd
  have HB_V_a0 := hrd _ (.head _)
  clear hrd
  unfold laws_heldIter
  refine TW.seq ?_
  refine TW.region ?_
  refine TO.ef (Ef.box rfl (Cel.agg ⟨(One.can (Base.can HB_V_a0)), (One.plain rfl), (One.plain rfl), (One.plain rfl), trivial⟩)) rfl rfl rfl (fun B1 => ?_)
  refine TO.y (Y.assign rfl) rfl rfl rfl ?_
  refine TO.nil ?_
  refine TE.next ?_
  refine TW.seq ?_
  refine TW.region ?_
  refine TO.y (Y.field_box kf28_0 rfl rfl) rfl rfl rfl ?_
  refine TO.y (Y.load_box (v := V_a0) 0 kk26 rfl rfl rfl) rfl rfl rfl ?_
  refine TO.y (Y.move rfl) rfl rfl rfl ?_
  refine TO.bind fun R2 H3 => ?_
  refine TO.ef (Ef.call (rest := [.box B1 28 [V_a0, strV a.From, strV a.To, .int .i64 a.At]]) [0] (laws_heldKVS_con a.List k V_a0 R2 H3) kc44 rfl rfl ⟨(Base.can HB_V_a0), trivial⟩) rfl rfl rfl (fun _ => ?_)
  refine TO.y (Y.assign rfl) rfl rfl rfl ?_
  refine TO.nil ?_
  refine TE.next ?_
  refine TW.seq ?_
  refine TW.seq ?_
  refine TW.region ?_
  refine TO.y (Y.move rfl) rfl rfl rfl ?_
  refine TO.y (Y.lss rfl rfl) rfl rfl rfl ?_
  refine TO.nil ?_
  refine TE.next ?_
  refine TW.cond rfl (fun H5 => ?_) (fun H5 => ?_)
  · refine TW.seq ?_
    refine TW.region ?_
    refine TO.y (Y.assign rfl) rfl rfl rfl ?_
    refine TO.nil ?_
    refine TE.next ?_
    refine TW.ret ?_
    refine TE.then_ret ?_
    exact TE.leaf fun _ _ hf_ hs_ => ret_any (rs := [.tmp 4]) (vs := [.int .i64 (-1 : Int)]) (.inl rfl) rfl ⟨rfl, trivial⟩ hf_ hs_ ⟨(), rfl, hs_.pulls [] rfl⟩
  · refine TW.skip ?_
    refine TE.next ?_
    refine TW.seq ?_
    refine TW.region ?_
    refine TO.y (Y.move rfl) rfl rfl rfl ?_
    refine TO.y (Y.assign rfl) rfl rfl rfl ?_
    refine TO.nil ?_
    refine TE.next ?_
    refine TW.ret ?_
    exact TE.leaf fun _ _ hf_ hs_ => ret_any (rs := [.tmp 4]) (vs := [.int .i64 R2]) (.inl rfl) rfl ⟨rfl, trivial⟩ hf_ hs_ ⟨(), rfl, hs_.pulls [] rfl⟩

/-- loop.example/g00950/laws.FnExactIterNext -/
noncomputable def laws_FnExactIterNext (aX : Iter) : Option Bool :=
  (laws_szIter aX (1048576 : Int)).bind fun R2 =>
  if (decide (R2 < (0 : Int))) = true then (some true)
  else ((laws_toIter aX).bind fun R6 =>
  (spec_IterNext R6).bind fun R9 =>
  (impl_IterNext R6).bind fun R16 =>
  ((laws_eqIter R16.1 R9.1).bind fun R23 =>
  if (!R23) = true then (some true)
  else ((laws_eqKV R16.2.1 R9.2.1).bind fun R27 =>
  if (!R27) = true then (some true)
  else (some (!(decide (R16.2.2 = R9.2.2)))))).bind (fun (T21 : Bool) =>
  if T21 = true then (some false)
  else ((laws_eqIter R6 R6).bind fun R33 =>
  if (!R33) = true then (some false)
  else ((laws_markIter R6 (1 : Int)).bind fun R37 =>
  (if (decide (R37.1 < (0 : Int))) = true then (some true)
  else ((laws_eqIter R16.1 R9.1).bind fun R43 =>
  if (!R43) = true then (some true)
  else ((laws_eqKV R16.2.1 R9.2.1).bind fun R47 =>
  if (!R47) = true then (some true)
  else (some (!(decide (R16.2.2 = R9.2.2))))))).bind (fun (T40 : Bool) =>
  if T40 = true then (some false)
  else ((laws_markIter R16.1 (1 : Int)).bind fun R52 =>
  (laws_heldIter ({ List := R52.2, From := R16.1.From, To := R16.1.To, At := R16.1.At : Iter }) (1 : Int)).bind fun R55 =>
  if (decide (R55 < (0 : Int))) = true then (some false)
  else (if (!(decide (R55 = R52.1))) = true then (some false)
  else (((laws_eqIter R16.1 R9.1).bind fun R66 =>
  if (!R66) = true then (some true)
  else ((laws_eqKV R16.2.1 R9.2.1).bind fun R70 =>
  if (!R70) = true then (some true)
  else (some (!(decide (R16.2.2 = R9.2.2)))))).bind (fun (T64 : Bool) =>
  if T64 = true then (some false)
  else (if (decide (R55 < (0 : Int))) = true then (some false)
  else (if (!(decide (R55 = R52.1))) = true then (some false)
  else (some true))))))))))))

theorem laws_FnExactIterNext_con (aX : Iter) (V_aX0 : Value) (r : Bool) (hm : laws_FnExactIterNext aX = some r) :
    Con Try.prog 3 [.agg #[V_aX0, strV aX.From, strV aX.To, .int .i64 aX.At]] [] [(V_aX0, lc 75 aX.List)] (fun _ : Unit => .bool r) (fun _ => []) := by
  refine Con.intro (args := [.agg #[V_aX0, strV aX.From, strV aX.To, .int .i64 aX.At]]) (n := 120) (val := fun r (_ : Unit) => .bool r) (post := fun _ _ => []) (m := laws_FnExactIterNext aX) Try.func3 rfl rfl rfl hm ?_
  intro w S hrd
  have HB_V_aX0 := hrd _ (.head _)
  clear hrd
  unfold laws_FnExactIterNext
  refine TW.seq ?_
  refine TW.region ?_
  refine TO.ef (Ef.box rfl (Cel.agg ⟨(One.can (Base.can HB_V_aX0)), (One.plain rfl), (One.plain rfl), (One.plain rfl), trivial⟩)) rfl rfl rfl (fun B1 => ?_)
  refine TO.y (Y.assign rfl) rfl rfl rfl ?_
  refine TO.nil ?_
  refine TE.next ?_
  refine TW.seq ?_
  refine TW.region ?_
  refine TO.y (Y.assign rfl) rfl rfl rfl ?_
  refine TO.nil ?_
  refine TE.next ?_
  refine TW.seq ?_
  refine TW.region ?_
  refine TO.y (Y.load_box (v := .agg #[V_aX0, strV aX.From, strV aX.To, .int .i64 aX.At]) 0 kk24 rfl rfl rfl) rfl rfl rfl ?_
  refine TO.y (Y.move rfl) rfl rfl rfl ?_
  refine TO.bind fun R2 H3 => ?_
  refine TO.ef (Ef.call (rest := [.box B1 24 [V_aX0, strV aX.From, strV aX.To, .int .i64 aX.At]]) [0] (laws_szIter_con aX (1048576 : Int) V_aX0 R2 H3) kc9 rfl rfl ⟨(Base.can HB_V_aX0), trivial⟩) rfl rfl rfl (fun _ => ?_)
  refine TO.y (Y.assign rfl) rfl rfl rfl ?_
  refine TO.nil ?_
  refine TE.next ?_
  refine TW.seq ?_
  refine TW.seq ?_
  refine TW.region ?_
  refine TO.y (Y.move rfl) rfl rfl rfl ?_
  refine TO.y (Y.lss rfl rfl) rfl rfl rfl ?_
  refine TO.nil ?_
  refine TE.next ?_
  refine TW.cond rfl (fun H5 => ?_) (fun H5 => ?_)
  · refine TW.seq ?_
    refine TW.region ?_
    refine TO.y (Y.assign rfl) rfl rfl rfl ?_
    refine TO.nil ?_
    refine TE.next ?_
    refine TW.ret ?_
    refine TE.then_ret ?_
    exact TE.leaf fun _ _ hf_ hs_ => ret_any (rs := [.tmp 2]) (vs := [.bool true]) (.inl rfl) rfl ⟨rfl, trivial⟩ hf_ hs_ ⟨(), rfl, hs_.pulls [] rfl⟩
  · refine TW.skip ?_
    refine TE.next ?_
    refine TW.seq ?_
    refine TW.region ?_
    refine TO.y (Y.load_box (v := .agg #[V_aX0, strV aX.From, strV aX.To, .int .i64 aX.At]) 0 kk24 rfl rfl rfl) rfl rfl rfl ?_
    refine TO.bind fun R6 H7 => ?_
    refine TO.ef (Ef.call (rest := [.box B1 24 [V_aX0, strV aX.From, strV aX.To, .int .i64 aX.At]]) [0] (laws_toIter_con aX V_aX0 R6 H7) kc11 rfl rfl ⟨(Base.can HB_V_aX0), trivial⟩) rfl rfl rfl (fun Y8 => ?_)
    refine TO.bind fun R9 H10 => ?_
    refine TO.ef (Ef.call (rest := [.own Y8 (lc 30 R6.List), .box B1 24 [V_aX0, strV aX.From, strV aX.To, .int .i64 aX.At]]) [0, 0] (spec_IterNext_con R6 Y8 R9 H10) kc10 rfl rfl ⟨(Can.own 0 rfl), trivial⟩) rfl rfl rfl (fun Y11 => ?_)
    refine TO.y (Y.move rfl) rfl rfl rfl ?_
    refine TO.y (Y.extract rfl rfl) rfl rfl rfl ?_
    refine TO.y (Y.extract rfl rfl) rfl rfl rfl ?_
    refine TO.y (Y.extract rfl rfl) rfl rfl rfl ?_
    refine TO.ef (Ef.alloc kz28 rfl) rfl rfl rfl (fun B12 => ?_)
    refine TO.ef (Ef.alloc kz30 rfl) rfl rfl rfl (fun B13 => ?_)
    refine TO.ef0 (Ef.store_box (us := [Y11, strV R9.1.From, strV R9.1.To, .int .i64 R9.1.At]) (vs' := [Y11, strV R9.1.From, strV R9.1.To, .int .i64 R9.1.At]) (is' := [.box B13 30 [strV ([]), strV ([])], .box B12 28 [Y11, strV R9.1.From, strV R9.1.To, .int .i64 R9.1.At], .own Y11 (lc 30 R9.1.List), .own Y8 (lc 30 R6.List), .box B1 24 [V_aX0, strV aX.From, strV aX.To, .int .i64 aX.At]]) 1 kk28 rfl rfl rfl (Cel.agg ⟨(One.can (Can.own 2 rfl)), (One.plain rfl), (One.plain rfl), (One.plain rfl), trivial⟩) rfl rfl rfl rfl) rfl rfl (fun _ => ?_)
    refine TO.ef0 (Ef.store_box (us := [strV R9.2.1.Key, strV R9.2.1.Val]) (vs' := [strV R9.2.1.Key, strV R9.2.1.Val]) (is' := [.box B13 30 [strV R9.2.1.Key, strV R9.2.1.Val], .box B12 28 [Y11, strV R9.1.From, strV R9.1.To, .int .i64 R9.1.At], .own Y11 (lc 30 R9.1.List), .own Y8 (lc 30 R6.List), .box B1 24 [V_aX0, strV aX.From, strV aX.To, .int .i64 aX.At]]) 0 kk30 rfl rfl rfl (Cel.plain rfl rfl) rfl rfl rfl rfl) rfl rfl (fun _ => ?_)
    refine TO.y (Y.assign rfl) rfl rfl rfl ?_
    refine TO.nil ?_
    refine TE.next ?_
    refine TW.seq ?_
    refine TW.region ?_
    refine TO.y (Y.load_box (v := .agg #[V_aX0, strV aX.From, strV aX.To, .int .i64 aX.At]) 4 kk24 rfl rfl rfl) rfl rfl rfl ?_
    refine TO.ef (Ef.call (rest := [.box B13 30 [strV R9.2.1.Key, strV R9.2.1.Val], .box B12 28 [Y11, strV R9.1.From, strV R9.1.To, .int .i64 R9.1.At], .own Y11 (lc 30 R9.1.List), .own Y8 (lc 30 R6.List), .box B1 24 [V_aX0, strV aX.From, strV aX.To, .int .i64 aX.At]]) [0, 0, 0, 0, 0] (laws_toIter_con aX V_aX0 R6 H7) kc11 rfl rfl ⟨(Base.can HB_V_aX0), trivial⟩) rfl rfl rfl (fun Y14 => ?_)
    refine TO.ef (Ef.alloc kz28 rfl) rfl rfl rfl (fun B15 => ?_)
    refine TO.ef0 (Ef.store_box (us := [Y14, strV R6.From, strV R6.To, .int .i64 R6.At]) (vs' := [Y14, strV R6.From, strV R6.To, .int .i64 R6.At]) (is' := [.box B15 28 [Y14, strV R6.From, strV R6.To, .int .i64 R6.At], .own Y14 (lc 30 R6.List), .box B13 30 [strV R9.2.1.Key, strV R9.2.1.Val], .box B12 28 [Y11, strV R9.1.From, strV R9.1.To, .int .i64 R9.1.At], .own Y11 (lc 30 R9.1.List), .own Y8 (lc 30 R6.List), .box B1 24 [V_aX0, strV aX.From, strV aX.To, .int .i64 aX.At]]) 0 kk28 rfl rfl rfl (Cel.agg ⟨(One.can (Can.own 1 rfl)), (One.plain rfl), (One.plain rfl), (One.plain rfl), trivial⟩) rfl rfl rfl rfl) rfl rfl (fun _ => ?_)
    refine TO.nil ?_
    refine TE.next ?_
    refine TW.seq ?_
    refine TW.region ?_
    refine TO.y (Y.load_box (v := .agg #[Y14, strV R6.From, strV R6.To, .int .i64 R6.At]) 0 kk28 rfl rfl rfl) rfl rfl rfl ?_
    refine TO.bind fun R16 H17 => ?_
    refine TO.ef (Ef.call (rest := [.box B15 28 [Y14, strV R6.From, strV R6.To, .int .i64 R6.At], .own Y14 (lc 30 R6.List), .box B13 30 [strV R9.2.1.Key, strV R9.2.1.Val], .box B12 28 [Y11, strV R9.1.From, strV R9.1.To, .int .i64 R9.1.At], .own Y11 (lc 30 R9.1.List), .own Y8 (lc 30 R6.List), .box B1 24 [V_aX0, strV aX.From, strV aX.To, .int .i64 aX.At]]) [0, 0, 0, 0, 0, 0, 0] (impl_IterNext_con R6 Y14 R16 H17) kc12 rfl rfl ⟨(Can.own 1 rfl), trivial⟩) rfl rfl rfl (fun Y18 => ?_)
    refine TO.y (Y.move rfl) rfl rfl rfl ?_
    refine TO.y (Y.extract rfl rfl) rfl rfl rfl ?_
    refine TO.y (Y.extract rfl rfl) rfl rfl rfl ?_
    refine TO.y (Y.extract rfl rfl) rfl rfl rfl ?_
    refine TO.ef (Ef.alloc kz28 rfl) rfl rfl rfl (fun B19 => ?_)
    refine TO.ef (Ef.alloc kz30 rfl) rfl rfl rfl (fun B20 => ?_)
    refine TO.ef0 (Ef.store_box (us := [Y18, strV R16.1.From, strV R16.1.To, .int .i64 R16.1.At]) (vs' := [Y18, strV R16.1.From, strV R16.1.To, .int .i64 R16.1.At]) (is' := [.box B20 30 [strV ([]), strV ([])], .box B19 28 [Y18, strV R16.1.From, strV R16.1.To, .int .i64 R16.1.At], .own Y18 (lc 30 R16.1.List), .box B15 28 [Y14, strV R6.From, strV R6.To, .int .i64 R6.At], .own Y14 (lc 30 R6.List), .box B13 30 [strV R9.2.1.Key, strV R9.2.1.Val], .box B12 28 [Y11, strV R9.1.From, strV R9.1.To, .int .i64 R9.1.At], .own Y11 (lc 30 R9.1.List), .own Y8 (lc 30 R6.List), .box B1 24 [V_aX0, strV aX.From, strV aX.To, .int .i64 aX.At]]) 1 kk28 rfl rfl rfl (Cel.agg ⟨(One.can (Can.own 2 rfl)), (One.plain rfl), (One.plain rfl), (One.plain rfl), trivial⟩) rfl rfl rfl rfl) rfl rfl (fun _ => ?_)
    refine TO.ef0 (Ef.store_box (us := [strV R16.2.1.Key, strV R16.2.1.Val]) (vs' := [strV R16.2.1.Key, strV R16.2.1.Val]) (is' := [.box B20 30 [strV R16.2.1.Key, strV R16.2.1.Val], .box B19 28 [Y18, strV R16.1.From, strV R16.1.To, .int .i64 R16.1.At], .own Y18 (lc 30 R16.1.List), .box B15 28 [Y14, strV R6.From, strV R6.To, .int .i64 R6.At], .own Y14 (lc 30 R6.List), .box B13 30 [strV R9.2.1.Key, strV R9.2.1.Val], .box B12 28 [Y11, strV R9.1.From, strV R9.1.To, .int .i64 R9.1.At], .own Y11 (lc 30 R9.1.List), .own Y8 (lc 30 R6.List), .box B1 24 [V_aX0, strV aX.From, strV aX.To, .int .i64 aX.At]]) 0 kk30 rfl rfl rfl (Cel.plain rfl rfl) rfl rfl rfl rfl) rfl rfl (fun _ => ?_)
    refine TO.y (Y.assign rfl) rfl rfl rfl ?_
    refine TO.nil ?_
    refine TE.next ?_
    refine TW.seq ?_
    refine TW.seq ?_
    refine TW.joinBX (τ := Bool) (X := Unit) (fun T _ => [(1, .pointer (some ⟨B1, 0, none⟩)), (4, .pointer (some ⟨B12, 0, none⟩)), (5, .pointer (some ⟨B13, 0, none⟩)), (6, .bool R9.2.2), (7, .pointer (some ⟨B15, 0, none⟩)), (8, .pointer (some ⟨B19, 0, none⟩)), (9, .pointer (some ⟨B20, 0, none⟩)), (10, .bool R16.2.2), (51, .bool T)]) (fun _ _ => [.box B1 24 [V_aX0, strV aX.From, strV aX.To, .int .i64 aX.At], .box B12 28 [Y11, strV R9.1.From, strV R9.1.To, .int .i64 R9.1.At], .box B13 30 [strV R9.2.1.Key, strV R9.2.1.Val], .box B15 28 [Y14, strV R6.From, strV R6.To, .int .i64 R6.At], .box B19 28 [Y18, strV R16.1.From, strV R16.1.To, .int .i64 R16.1.At], .box B20 30 [strV R16.2.1.Key, strV R16.2.1.Val], .own Y11 (lc 30 R9.1.List), .own Y14 (lc 30 R6.List), .own Y18 (lc 30 R16.1.List)]) ?_ (fun T21 X22 => ?_)
    · refine TW.region ?_
      refine TO.y (Y.load_box (v := .agg #[Y18, strV R16.1.From, strV R16.1.To, .int .i64 R16.1.At]) 1 kk28 rfl rfl rfl) rfl rfl rfl ?_
      refine TO.y (Y.load_box (v := .agg #[Y11, strV R9.1.From, strV R9.1.To, .int .i64 R9.1.At]) 6 kk28 rfl rfl rfl) rfl rfl rfl ?_
      refine TO.bind fun R23 H24 => ?_
      refine TO.ef (Ef.call (rest := [.box B20 30 [strV R16.2.1.Key, strV R16.2.1.Val], .box B19 28 [Y18, strV R16.1.From, strV R16.1.To, .int .i64 R16.1.At], .own Y18 (lc 30 R16.1.List), .box B15 28 [Y14, strV R6.From, strV R6.To, .int .i64 R6.At], .own Y14 (lc 30 R6.List), .box B13 30 [strV R9.2.1.Key, strV R9.2.1.Val], .box B12 28 [Y11, strV R9.1.From, strV R9.1.To, .int .i64 R9.1.At], .own Y11 (lc 30 R9.1.List), .own Y8 (lc 30 R6.List), .box B1 24 [V_aX0, strV aX.From, strV aX.To, .int .i64 aX.At]]) [0, 0, 0, 0, 0, 0, 0, 0, 0, 0] (laws_eqIter_con R16.1 R9.1 Y18 Y11 R23 H24) kc13 rfl rfl ⟨(Can.own 2 rfl), (Can.own 7 rfl), trivial⟩) rfl rfl rfl (fun _ => ?_)
      refine TO.y (Y.not rfl) rfl rfl rfl ?_
      refine TO.y (Y.move rfl) rfl rfl rfl ?_
      refine TO.ite (b := !R23) (fun H26 => ?_) (fun H26 => ?_)
      · refine TO.off (Gd.at 4 false 41 (!R23) rfl rfl rfl (beq_tf H26)) rfl rfl ?_
        refine TO.off (Gd.at 4 false 41 (!R23) rfl rfl rfl (beq_tf H26)) rfl rfl ?_
        refine TO.off (Gd.at 4 false 41 (!R23) rfl rfl rfl (beq_tf H26)) rfl rfl ?_
        refine TO.off (Gd.at 4 false 41 (!R23) rfl rfl rfl (beq_tf H26)) rfl rfl ?_
        refine TO.y (Y.pick_t H26 rfl rfl) rfl rfl rfl ?_
        refine TO.y (Y.move rfl) rfl rfl rfl ?_
        refine TO.off (Gd.at 10 false 47 true rfl rfl rfl rfl) rfl rfl ?_
        refine TO.off (Gd.at 10 false 47 true rfl rfl rfl rfl) rfl rfl ?_
        refine TO.off (Gd.at 10 false 47 true rfl rfl rfl rfl) rfl rfl ?_
        refine TO.y (Y.pick_t rfl rfl rfl) rfl rfl rfl ?_
        refine TO.nil ?_
        exact TE.jb_go () [9, 6, 5, 3, 1, 0, 2, 1, 0] ⟨rfl, rfl, rfl, rfl, rfl, rfl, rfl, rfl, rfl, trivial⟩ rfl
      · refine TO.y (Y.load_box (v := .agg #[strV R16.2.1.Key, strV R16.2.1.Val]) 0 kk30 rfl rfl rfl) (Gd.at 4 false 41 (!R23) rfl rfl rfl (beq_ff H26)) rfl rfl ?_
        refine TO.y (Y.load_box (v := .agg #[strV R9.2.1.Key, strV R9.2.1.Val]) 5 kk30 rfl rfl rfl) (Gd.at 4 false 41 (!R23) rfl rfl rfl (beq_ff H26)) rfl rfl ?_
        refine TO.bind fun R27 H28 => ?_
        refine TO.ef (Ef.call (rest := [.box B20 30 [strV R16.2.1.Key, strV R16.2.1.Val], .box B19 28 [Y18, strV R16.1.From, strV R16.1.To, .int .i64 R16.1.At], .own Y18 (lc 30 R16.1.List), .box B15 28 [Y14, strV R6.From, strV R6.To, .int .i64 R6.At], .own Y14 (lc 30 R6.List), .box B13 30 [strV R9.2.1.Key, strV R9.2.1.Val], .box B12 28 [Y11, strV R9.1.From, strV R9.1.To, .int .i64 R9.1.At], .own Y11 (lc 30 R9.1.List), .own Y8 (lc 30 R6.List), .box B1 24 [V_aX0, strV aX.From, strV aX.To, .int .i64 aX.At]]) [0, 0, 0, 0, 0, 0, 0, 0, 0, 0] (laws_eqKV_con R16.2.1 R9.2.1  R27 H28) kc14 rfl rfl trivial) (Gd.at 4 false 41 (!R23) rfl rfl rfl (beq_ff H26)) rfl rfl (fun _ => ?_)
        refine TO.y (Y.not rfl) (Gd.at 4 false 41 (!R23) rfl rfl rfl (beq_ff H26)) rfl rfl ?_
        refine TO.y (Y.pick_f H26 rfl rfl) rfl rfl rfl ?_
        refine TO.y (Y.move rfl) rfl rfl rfl ?_
        refine TO.ite (b := !R27) (fun H30 => ?_) (fun H30 => ?_)
        · refine TO.off (Gd.at 10 false 47 (!R27) rfl rfl rfl (beq_tf H30)) rfl rfl ?_
          refine TO.off (Gd.at 10 false 47 (!R27) rfl rfl rfl (beq_tf H30)) rfl rfl ?_
          refine TO.off (Gd.at 10 false 47 (!R27) rfl rfl rfl (beq_tf H30)) rfl rfl ?_
          refine TO.y (Y.pick_t H30 rfl rfl) rfl rfl rfl ?_
          refine TO.nil ?_
          exact TE.jb_go () [9, 6, 5, 3, 1, 0, 2, 1, 0] ⟨rfl, rfl, rfl, rfl, rfl, rfl, rfl, rfl, rfl, trivial⟩ rfl
        · refine TO.y (Y.move rfl) (Gd.at 10 false 47 (!R27) rfl rfl rfl (beq_ff H30)) rfl rfl ?_
          refine TO.y (Y.move rfl) (Gd.at 10 false 47 (!R27) rfl rfl rfl (beq_ff H30)) rfl rfl ?_
          refine TO.y (Y.neb kb4 rfl rfl) (Gd.at 10 false 47 (!R27) rfl rfl rfl (beq_ff H30)) rfl rfl ?_
          refine TO.y (Y.pick_f H30 rfl rfl) rfl rfl rfl ?_
          refine TO.nil ?_
          exact TE.jb_go () [9, 6, 5, 3, 1, 0, 2, 1, 0] ⟨rfl, rfl, rfl, rfl, rfl, rfl, rfl, rfl, rfl, trivial⟩ rfl
    · refine TE.next ?_
      refine TW.cond rfl (fun H31 => ?_) (fun H31 => ?_)
      · refine TW.seq ?_
        refine TW.region ?_
        refine TO.y (Y.assign rfl) rfl rfl rfl ?_
        refine TO.nil ?_
        refine TE.next ?_
        refine TW.ret ?_
        refine TE.then_ret ?_
        exact TE.leaf fun _ _ hf_ hs_ => ret_any (rs := [.tmp 2]) (vs := [.bool false]) (.inl rfl) rfl ⟨rfl, trivial⟩ hf_ hs_ ⟨(), rfl, hs_.pulls [] rfl⟩
      · refine TW.skip ?_
        refine TE.next ?_
        refine TW.seq ?_
        refine TW.seq ?_
        refine TW.draw (isH := [.box B1 24 [V_aX0, strV aX.From, strV aX.To, .int .i64 aX.At], .box B12 28 [Y11, strV R9.1.From, strV R9.1.To, .int .i64 R9.1.At], .box B13 30 [strV R9.2.1.Key, strV R9.2.1.Val], .box B15 28 [Y14, strV R6.From, strV R6.To, .int .i64 R6.At], .box B19 28 [Y18, strV R16.1.From, strV R16.1.To, .int .i64 R16.1.At], .box B20 30 [strV R16.2.1.Key, strV R16.2.1.Val], .own Y11 (lc 30 R9.1.List), .own Y14 (lc 30 R6.List), .own Y18 (lc 30 R16.1.List)]) hMix ?_
        refine TA.y (listed' := #[true, false, false, false, false]) 0 [0, 0, 0, 0, 0, 0, 0, 0, 0] rfl (Y.load_box (v := .agg #[Y14, strV R6.From, strV R6.To, .int .i64 R6.At]) 3 kk28 rfl rfl rfl) rfl rfl rfl (by kernel_rfl) (by kernel_rfl) (by kernel_rfl) rfl rfl ?_
        refine TA.y (listed' := #[true, true, false, false, false]) 1 [0, 0, 0, 0, 0, 0, 0, 0, 0] rfl (Y.load_box (v := .agg #[V_aX0, strV aX.From, strV aX.To, .int .i64 aX.At]) 0 kk24 rfl rfl rfl) rfl rfl rfl (by kernel_rfl) (by kernel_rfl) (by kernel_rfl) rfl rfl ?_
        refine TA.one 2 (by kernel_rfl) ?_
        refine TX.ef (listed' := #[true, true, true, false, false]) [1, 1, 1, 1, 1, 1, 1, 1, 1] rfl (Ef.call (rest := [.box B1 24 [V_aX0, strV aX.From, strV aX.To, .int .i64 aX.At], .box B12 28 [Y11, strV R9.1.From, strV R9.1.To, .int .i64 R9.1.At], .box B13 30 [strV R9.2.1.Key, strV R9.2.1.Val], .box B15 28 [Y14, strV R6.From, strV R6.To, .int .i64 R6.At], .box B19 28 [Y18, strV R16.1.From, strV R16.1.To, .int .i64 R16.1.At], .box B20 30 [strV R16.2.1.Key, strV R16.2.1.Val], .own Y11 (lc 30 R9.1.List), .own Y14 (lc 30 R6.List), .own Y18 (lc 30 R16.1.List)]) [0, 0, 0, 0, 0, 0, 0, 0, 0] (laws_toIter_con aX V_aX0 R6 H7) kc11 rfl rfl ⟨(Base.can HB_V_aX0), trivial⟩) rfl rfl rfl rfl (fun _ => rfl) (fun Y32 => ?_)
        refine TA.bind fun R33 H34 => ?_
        refine TA.one 3 (by kernel_rfl) ?_
        refine TX.ef (listed' := #[true, true, true, true, false]) [1, 1, 1, 1, 1, 1, 1, 1, 1] rfl (Ef.call (rest := [.own Y32 (lc 30 R6.List), .box B1 24 [V_aX0, strV aX.From, strV aX.To, .int .i64 aX.At], .box B12 28 [Y11, strV R9.1.From, strV R9.1.To, .int .i64 R9.1.At], .box B13 30 [strV R9.2.1.Key, strV R9.2.1.Val], .box B15 28 [Y14, strV R6.From, strV R6.To, .int .i64 R6.At], .box B19 28 [Y18, strV R16.1.From, strV R16.1.To, .int .i64 R16.1.At], .box B20 30 [strV R16.2.1.Key, strV R16.2.1.Val], .own Y11 (lc 30 R9.1.List), .own Y14 (lc 30 R6.List), .own Y18 (lc 30 R16.1.List)]) [0, 0, 0, 0, 0, 0, 0, 0, 0, 0] (laws_eqIter_con R6 R6 Y14 Y32 R33 H34) kc13 rfl rfl ⟨(Can.own 8 rfl), (Can.own 0 rfl), trivial⟩) rfl rfl rfl rfl (fun _ => rfl) (fun _ => ?_)
        refine TA.y (listed' := #[true, true, true, true, true]) 4 [1, 1, 1, 1, 1, 1, 1, 1, 1] rfl (Y.not rfl) rfl rfl rfl (by kernel_rfl) (by kernel_rfl) (by kernel_rfl) rfl rfl ?_
        refine TA.nil (by kernel_rfl) ?_
        refine TE.next ?_
        refine TW.cond rfl (fun H36 => ?_) (fun H36 => ?_)
        · refine TW.seq ?_
          refine TW.region ?_
          refine TO.y (Y.assign rfl) rfl rfl rfl ?_
          refine TO.nil ?_
          refine TE.next ?_
          refine TW.ret ?_
          refine TE.then_ret ?_
          exact TE.leaf fun _ _ hf_ hs_ => ret_any (rs := [.tmp 2]) (vs := [.bool false]) (.inl rfl) rfl ⟨rfl, trivial⟩ hf_ hs_ ⟨(), rfl, hs_.pulls [] rfl⟩
        · refine TW.skip ?_
          refine TE.next ?_
          refine TW.seq ?_
          refine TW.region ?_
          refine TO.y (Y.assign rfl) rfl rfl rfl ?_
          refine TO.nil ?_
          refine TE.next ?_
          refine TW.seq ?_
          refine TW.region ?_
          refine TO.y (Y.load_box (v := .agg #[Y14, strV R6.From, strV R6.To, .int .i64 R6.At]) 4 kk28 rfl rfl rfl) rfl rfl rfl ?_
          refine TO.y (Y.move rfl) rfl rfl rfl ?_
          refine TO.bind fun R37 H38 => ?_
          refine TO.ef (Ef.call (rest := [.own Y32 (lc 30 R6.List), .box B1 24 [V_aX0, strV aX.From, strV aX.To, .int .i64 aX.At], .box B12 28 [Y11, strV R9.1.From, strV R9.1.To, .int .i64 R9.1.At], .box B13 30 [strV R9.2.1.Key, strV R9.2.1.Val], .box B15 28 [Y14, strV R6.From, strV R6.To, .int .i64 R6.At], .box B19 28 [Y18, strV R16.1.From, strV R16.1.To, .int .i64 R16.1.At], .box B20 30 [strV R16.2.1.Key, strV R16.2.1.Val], .own Y11 (lc 30 R9.1.List), .own Y18 (lc 30 R16.1.List)]) [8, 0, 0, 0, 0, 0, 0, 0, 0, 0] (laws_markIter_con R6 (1 : Int) Y14 R37 H38) kc15 rfl rfl trivial) rfl rfl rfl (fun _ => ?_)
          refine TO.y (Y.assign rfl) rfl rfl rfl ?_
          refine TO.nil ?_
          refine TE.next ?_
          refine TW.seq ?_
          refine TW.seq ?_
          refine TW.joinBX (τ := Bool) (X := Unit) (fun T _ => [(1, .pointer (some ⟨B1, 0, none⟩)), (4, .pointer (some ⟨B12, 0, none⟩)), (5, .pointer (some ⟨B13, 0, none⟩)), (6, .bool R9.2.2), (8, .pointer (some ⟨B19, 0, none⟩)), (78, .bool T)]) (fun _ _ => [.box B1 24 [V_aX0, strV aX.From, strV aX.To, .int .i64 aX.At], .box B12 28 [Y11, strV R9.1.From, strV R9.1.To, .int .i64 R9.1.At], .box B13 30 [strV R9.2.1.Key, strV R9.2.1.Val], .box B19 28 [Y18, strV R16.1.From, strV R16.1.To, .int .i64 R16.1.At], .own Y11 (lc 30 R9.1.List), .own Y18 (lc 30 R16.1.List)]) ?_ (fun T40 X41 => ?_)
          · refine TW.region ?_
            refine TO.y (Y.move rfl) rfl rfl rfl ?_
            refine TO.y (Y.lss rfl rfl) rfl rfl rfl ?_
            refine TO.y (Y.move rfl) rfl rfl rfl ?_
            refine TO.ite (b := decide (R37.1 < (0 : Int))) (fun H42 => ?_) (fun H42 => ?_)
            · refine TO.off (Gd.at 2 false 62 (decide (R37.1 < (0 : Int))) rfl rfl rfl (beq_tf H42)) rfl rfl ?_
              refine TO.off (Gd.at 2 false 62 (decide (R37.1 < (0 : Int))) rfl rfl rfl (beq_tf H42)) rfl rfl ?_
              refine TO.off (Gd.at 2 false 62 (decide (R37.1 < (0 : Int))) rfl rfl rfl (beq_tf H42)) rfl rfl ?_
              refine TO.off (Gd.at 2 false 62 (decide (R37.1 < (0 : Int))) rfl rfl rfl (beq_tf H42)) rfl rfl ?_
              refine TO.y (Y.pick_t H42 rfl rfl) rfl rfl rfl ?_
              refine TO.y (Y.move rfl) rfl rfl rfl ?_
              refine TO.off (Gd.at 8 false 68 true rfl rfl rfl rfl) rfl rfl ?_
              refine TO.off (Gd.at 8 false 68 true rfl rfl rfl rfl) rfl rfl ?_
              refine TO.off (Gd.at 8 false 68 true rfl rfl rfl rfl) rfl rfl ?_
              refine TO.off (Gd.at 8 false 68 true rfl rfl rfl rfl) rfl rfl ?_
              refine TO.y (Y.pick_t rfl rfl rfl) rfl rfl rfl ?_
              refine TO.y (Y.move rfl) rfl rfl rfl ?_
              refine TO.off (Gd.at 14 false 74 true rfl rfl rfl rfl) rfl rfl ?_
              refine TO.off (Gd.at 14 false 74 true rfl rfl rfl rfl) rfl rfl ?_
              refine TO.off (Gd.at 14 false 74 true rfl rfl rfl rfl) rfl rfl ?_
              refine TO.y (Y.pick_t rfl rfl rfl) rfl rfl rfl ?_
              refine TO.nil ?_
              exact TE.jb_go () [2, 2, 2, 3, 4, 4] ⟨rfl, rfl, rfl, rfl, rfl, rfl, trivial⟩ rfl
            · refine TO.y (Y.load_box (v := .agg #[Y18, strV R16.1.From, strV R16.1.To, .int .i64 R16.1.At]) 6 kk28 rfl rfl rfl) (Gd.at 2 false 62 (decide (R37.1 < (0 : Int))) rfl rfl rfl (beq_ff H42)) rfl rfl ?_
              refine TO.y (Y.load_box (v := .agg #[Y11, strV R9.1.From, strV R9.1.To, .int .i64 R9.1.At]) 3 kk28 rfl rfl rfl) (Gd.at 2 false 62 (decide (R37.1 < (0 : Int))) rfl rfl rfl (beq_ff H42)) rfl rfl ?_
              refine TO.bind fun R43 H44 => ?_
              refine TO.ef (Ef.call (rest := [.own Y14 (lc 30 R37.2), .own Y32 (lc 30 R6.List), .box B1 24 [V_aX0, strV aX.From, strV aX.To, .int .i64 aX.At], .box B12 28 [Y11, strV R9.1.From, strV R9.1.To, .int .i64 R9.1.At], .box B13 30 [strV R9.2.1.Key, strV R9.2.1.Val], .box B15 28 [Y14, strV R6.From, strV R6.To, .int .i64 R6.At], .box B19 28 [Y18, strV R16.1.From, strV R16.1.To, .int .i64 R16.1.At], .box B20 30 [strV R16.2.1.Key, strV R16.2.1.Val], .own Y11 (lc 30 R9.1.List), .own Y18 (lc 30 R16.1.List)]) [0, 0, 0, 0, 0, 0, 0, 0, 0, 0] (laws_eqIter_con R16.1 R9.1 Y18 Y11 R43 H44) kc13 rfl rfl ⟨(Can.own 9 rfl), (Can.own 8 rfl), trivial⟩) (Gd.at 2 false 62 (decide (R37.1 < (0 : Int))) rfl rfl rfl (beq_ff H42)) rfl rfl (fun _ => ?_)
              refine TO.y (Y.not rfl) (Gd.at 2 false 62 (decide (R37.1 < (0 : Int))) rfl rfl rfl (beq_ff H42)) rfl rfl ?_
              refine TO.y (Y.pick_f H42 rfl rfl) rfl rfl rfl ?_
              refine TO.y (Y.move rfl) rfl rfl rfl ?_
              refine TO.ite (b := !R43) (fun H46 => ?_) (fun H46 => ?_)
              · refine TO.off (Gd.at 8 false 68 (!R43) rfl rfl rfl (beq_tf H46)) rfl rfl ?_
                refine TO.off (Gd.at 8 false 68 (!R43) rfl rfl rfl (beq_tf H46)) rfl rfl ?_
                refine TO.off (Gd.at 8 false 68 (!R43) rfl rfl rfl (beq_tf H46)) rfl rfl ?_
                refine TO.off (Gd.at 8 false 68 (!R43) rfl rfl rfl (beq_tf H46)) rfl rfl ?_
                refine TO.y (Y.pick_t H46 rfl rfl) rfl rfl rfl ?_
                refine TO.y (Y.move rfl) rfl rfl rfl ?_
                refine TO.off (Gd.at 14 false 74 true rfl rfl rfl rfl) rfl rfl ?_
                refine TO.off (Gd.at 14 false 74 true rfl rfl rfl rfl) rfl rfl ?_
                refine TO.off (Gd.at 14 false 74 true rfl rfl rfl rfl) rfl rfl ?_
                refine TO.y (Y.pick_t rfl rfl rfl) rfl rfl rfl ?_
                refine TO.nil ?_
                exact TE.jb_go () [2, 2, 2, 3, 4, 4] ⟨rfl, rfl, rfl, rfl, rfl, rfl, trivial⟩ rfl
              · refine TO.y (Y.load_box (v := .agg #[strV R16.2.1.Key, strV R16.2.1.Val]) 7 kk30 rfl rfl rfl) (Gd.at 8 false 68 (!R43) rfl rfl rfl (beq_ff H46)) rfl rfl ?_
                refine TO.y (Y.load_box (v := .agg #[strV R9.2.1.Key, strV R9.2.1.Val]) 4 kk30 rfl rfl rfl) (Gd.at 8 false 68 (!R43) rfl rfl rfl (beq_ff H46)) rfl rfl ?_
                refine TO.bind fun R47 H48 => ?_
                refine TO.ef (Ef.call (rest := [.own Y14 (lc 30 R37.2), .own Y32 (lc 30 R6.List), .box B1 24 [V_aX0, strV aX.From, strV aX.To, .int .i64 aX.At], .box B12 28 [Y11, strV R9.1.From, strV R9.1.To, .int .i64 R9.1.At], .box B13 30 [strV R9.2.1.Key, strV R9.2.1.Val], .box B15 28 [Y14, strV R6.From, strV R6.To, .int .i64 R6.At], .box B19 28 [Y18, strV R16.1.From, strV R16.1.To, .int .i64 R16.1.At], .box B20 30 [strV R16.2.1.Key, strV R16.2.1.Val], .own Y11 (lc 30 R9.1.List), .own Y18 (lc 30 R16.1.List)]) [0, 0, 0, 0, 0, 0, 0, 0, 0, 0] (laws_eqKV_con R16.2.1 R9.2.1  R47 H48) kc14 rfl rfl trivial) (Gd.at 8 false 68 (!R43) rfl rfl rfl (beq_ff H46)) rfl rfl (fun _ => ?_)
                refine TO.y (Y.not rfl) (Gd.at 8 false 68 (!R43) rfl rfl rfl (beq_ff H46)) rfl rfl ?_
                refine TO.y (Y.pick_f H46 rfl rfl) rfl rfl rfl ?_
                refine TO.y (Y.move rfl) rfl rfl rfl ?_
                refine TO.ite (b := !R47) (fun H50 => ?_) (fun H50 => ?_)
                · refine TO.off (Gd.at 14 false 74 (!R47) rfl rfl rfl (beq_tf H50)) rfl rfl ?_
                  refine TO.off (Gd.at 14 false 74 (!R47) rfl rfl rfl (beq_tf H50)) rfl rfl ?_
                  refine TO.off (Gd.at 14 false 74 (!R47) rfl rfl rfl (beq_tf H50)) rfl rfl ?_
                  refine TO.y (Y.pick_t H50 rfl rfl) rfl rfl rfl ?_
                  refine TO.nil ?_
                  exact TE.jb_go () [2, 2, 2, 3, 4, 4] ⟨rfl, rfl, rfl, rfl, rfl, rfl, trivial⟩ rfl
                · refine TO.y (Y.move rfl) (Gd.at 14 false 74 (!R47) rfl rfl rfl (beq_ff H50)) rfl rfl ?_
                  refine TO.y (Y.move rfl) (Gd.at 14 false 74 (!R47) rfl rfl rfl (beq_ff H50)) rfl rfl ?_
                  refine TO.y (Y.neb kb4 rfl rfl) (Gd.at 14 false 74 (!R47) rfl rfl rfl (beq_ff H50)) rfl rfl ?_
                  refine TO.y (Y.pick_f H50 rfl rfl) rfl rfl rfl ?_
                  refine TO.nil ?_
                  exact TE.jb_go () [2, 2, 2, 3, 4, 4] ⟨rfl, rfl, rfl, rfl, rfl, rfl, trivial⟩ rfl
          · refine TE.next ?_
            refine TW.cond rfl (fun H51 => ?_) (fun H51 => ?_)
            · refine TW.seq ?_
              refine TW.region ?_
              refine TO.y (Y.assign rfl) rfl rfl rfl ?_
              refine TO.nil ?_
              refine TE.next ?_
              refine TW.ret ?_
              refine TE.then_ret ?_
              exact TE.leaf fun _ _ hf_ hs_ => ret_any (rs := [.tmp 2]) (vs := [.bool false]) (.inl rfl) rfl ⟨rfl, trivial⟩ hf_ hs_ ⟨(), rfl, hs_.pulls [] rfl⟩
            · refine TW.skip ?_
              refine TE.next ?_
              refine TW.seq ?_
              refine TW.region ?_
              refine TO.y (Y.assign rfl) rfl rfl rfl ?_
              refine TO.nil ?_
              refine TE.next ?_
              refine TW.seq ?_
              refine TW.region ?_
              refine TO.y (Y.load_box (v := .agg #[Y18, strV R16.1.From, strV R16.1.To, .int .i64 R16.1.At]) 3 kk28 rfl rfl rfl) rfl rfl rfl ?_
              refine TO.y (Y.move rfl) rfl rfl rfl ?_
              refine TO.bind fun R52 H53 => ?_
              refine TO.ef (Ef.call (rest := [.box B1 24 [V_aX0, strV aX.From, strV aX.To, .int .i64 aX.At], .box B12 28 [Y11, strV R9.1.From, strV R9.1.To, .int .i64 R9.1.At], .box B13 30 [strV R9.2.1.Key, strV R9.2.1.Val], .box B19 28 [Y18, strV R16.1.From, strV R16.1.To, .int .i64 R16.1.At], .own Y11 (lc 30 R9.1.List)]) [5, 0, 0, 0, 0, 0] (laws_markIter_con R16.1 (1 : Int) Y18 R52 H53) kc15 rfl rfl trivial) rfl rfl rfl (fun _ => ?_)
              refine TO.y (Y.assign rfl) rfl rfl rfl ?_
              refine TO.nil ?_
              refine TE.next ?_
              refine TW.seq ?_
              refine TW.region ?_
              refine TO.y (Y.assign rfl) rfl rfl rfl ?_
              refine TO.nil ?_
              refine TE.next ?_
              refine TW.seq ?_
              refine TW.region ?_
              refine TO.y (Y.load_box (v := .agg #[Y18, strV R16.1.From, strV R16.1.To, .int .i64 R16.1.At]) 4 kk28 rfl rfl rfl) rfl rfl rfl ?_
              refine TO.y (Y.move rfl) rfl rfl rfl ?_
              refine TO.bind fun R55 H56 => ?_
              refine TO.ef (Ef.call (rest := [.own Y18 (lc 30 R52.2), .box B1 24 [V_aX0, strV aX.From, strV aX.To, .int .i64 aX.At], .box B12 28 [Y11, strV R9.1.From, strV R9.1.To, .int .i64 R9.1.At], .box B13 30 [strV R9.2.1.Key, strV R9.2.1.Val], .box B19 28 [Y18, strV R16.1.From, strV R16.1.To, .int .i64 R16.1.At], .own Y11 (lc 30 R9.1.List)]) [0, 0, 0, 0, 0, 0] (laws_heldIter_con ({ List := R52.2, From := R16.1.From, To := R16.1.To, At := R16.1.At : Iter }) (1 : Int) Y18 R55 H56) kc16 rfl rfl ⟨(Can.own 0 rfl), trivial⟩) rfl rfl rfl (fun _ => ?_)
              refine TO.y (Y.assign rfl) rfl rfl rfl ?_
              refine TO.nil ?_
              refine TE.next ?_
              refine TW.seq ?_
              refine TW.seq ?_
              refine TW.region ?_
              refine TO.y (Y.move rfl) rfl rfl rfl ?_
              refine TO.y (Y.lss rfl rfl) rfl rfl rfl ?_
              refine TO.nil ?_
              refine TE.next ?_
              refine TW.cond rfl (fun H58 => ?_) (fun H58 => ?_)
              · refine TW.seq ?_
                refine TW.region ?_
                refine TO.y (Y.assign rfl) rfl rfl rfl ?_
                refine TO.nil ?_
                refine TE.next ?_
                refine TW.ret ?_
                refine TE.then_ret ?_
                exact TE.leaf fun _ _ hf_ hs_ => ret_any (rs := [.tmp 2]) (vs := [.bool false]) (.inl rfl) rfl ⟨rfl, trivial⟩ hf_ hs_ ⟨(), rfl, hs_.pulls [] rfl⟩
              · refine TW.skip ?_
                refine TE.next ?_
                refine TW.seq ?_
                refine TW.seq ?_
                refine TW.region ?_
                refine TO.y (Y.move rfl) rfl rfl rfl ?_
                refine TO.y (Y.move rfl) rfl rfl rfl ?_
                refine TO.y (Y.neq rfl rfl) rfl rfl rfl ?_
                refine TO.nil ?_
                refine TE.next ?_
                refine TW.cond rfl (fun H59 => ?_) (fun H59 => ?_)
                · refine TW.seq ?_
                  refine TW.region ?_
                  refine TO.y (Y.assign rfl) rfl rfl rfl ?_
                  refine TO.nil ?_
                  refine TE.next ?_
                  refine TW.ret ?_
                  refine TE.then_ret ?_
                  exact TE.leaf fun _ _ hf_ hs_ => ret_any (rs := [.tmp 2]) (vs := [.bool false]) (.inl rfl) rfl ⟨rfl, trivial⟩ hf_ hs_ ⟨(), rfl, hs_.pulls [] rfl⟩
                · refine TW.skip ?_
                  refine TE.next ?_
                  refine TW.seq ?_
                  refine TW.region ?_
                  refine TO.y (Y.load_box (v := .agg #[V_aX0, strV aX.From, strV aX.To, .int .i64 aX.At]) 1 kk24 rfl rfl rfl) rfl rfl rfl ?_
                  refine TO.ef (Ef.call (rest := [.own Y18 (lc 30 R52.2), .box B1 24 [V_aX0, strV aX.From, strV aX.To, .int .i64 aX.At], .box B12 28 [Y11, strV R9.1.From, strV R9.1.To, .int .i64 R9.1.At], .box B13 30 [strV R9.2.1.Key, strV R9.2.1.Val], .box B19 28 [Y18, strV R16.1.From, strV R16.1.To, .int .i64 R16.1.At], .own Y11 (lc 30 R9.1.List)]) [0, 0, 0, 0, 0, 0] (laws_toIter_con aX V_aX0 R6 H7) kc11 rfl rfl ⟨(Base.can HB_V_aX0), trivial⟩) rfl rfl rfl (fun Y60 => ?_)
                  refine TO.ef (Ef.call (rest := [.own Y60 (lc 30 R6.List), .own Y18 (lc 30 R52.2), .box B1 24 [V_aX0, strV aX.From, strV aX.To, .int .i64 aX.At], .box B12 28 [Y11, strV R9.1.From, strV R9.1.To, .int .i64 R9.1.At], .box B13 30 [strV R9.2.1.Key, strV R9.2.1.Val], .box B19 28 [Y18, strV R16.1.From, strV R16.1.To, .int .i64 R16.1.At], .own Y11 (lc 30 R9.1.List)]) [0, 0, 0, 0, 0, 0, 0] (impl_IterNext_con R6 Y60 R16 H17) kc12 rfl rfl ⟨(Can.own 0 rfl), trivial⟩) rfl rfl rfl (fun Y61 => ?_)
                  refine TO.y (Y.move rfl) rfl rfl rfl ?_
                  refine TO.y (Y.extract rfl rfl) rfl rfl rfl ?_
                  refine TO.y (Y.extract rfl rfl) rfl rfl rfl ?_
                  refine TO.y (Y.extract rfl rfl) rfl rfl rfl ?_
                  refine TO.ef (Ef.alloc kz28 rfl) rfl rfl rfl (fun B62 => ?_)
                  refine TO.ef (Ef.alloc kz30 rfl) rfl rfl rfl (fun B63 => ?_)
                  refine TO.ef0 (Ef.store_box (us := [Y61, strV R16.1.From, strV R16.1.To, .int .i64 R16.1.At]) (vs' := [Y61, strV R16.1.From, strV R16.1.To, .int .i64 R16.1.At]) (is' := [.box B63 30 [strV ([]), strV ([])], .box B62 28 [Y61, strV R16.1.From, strV R16.1.To, .int .i64 R16.1.At], .own Y61 (lc 30 R16.1.List), .own Y60 (lc 30 R6.List), .own Y18 (lc 30 R52.2), .box B1 24 [V_aX0, strV aX.From, strV aX.To, .int .i64 aX.At], .box B12 28 [Y11, strV R9.1.From, strV R9.1.To, .int .i64 R9.1.At], .box B13 30 [strV R9.2.1.Key, strV R9.2.1.Val], .box B19 28 [Y18, strV R16.1.From, strV R16.1.To, .int .i64 R16.1.At], .own Y11 (lc 30 R9.1.List)]) 1 kk28 rfl rfl rfl (Cel.agg ⟨(One.can (Can.own 2 rfl)), (One.plain rfl), (One.plain rfl), (One.plain rfl), trivial⟩) rfl rfl rfl rfl) rfl rfl (fun _ => ?_)
                  refine TO.ef0 (Ef.store_box (us := [strV R16.2.1.Key, strV R16.2.1.Val]) (vs' := [strV R16.2.1.Key, strV R16.2.1.Val]) (is' := [.box B63 30 [strV R16.2.1.Key, strV R16.2.1.Val], .box B62 28 [Y61, strV R16.1.From, strV R16.1.To, .int .i64 R16.1.At], .own Y61 (lc 30 R16.1.List), .own Y60 (lc 30 R6.List), .own Y18 (lc 30 R52.2), .box B1 24 [V_aX0, strV aX.From, strV aX.To, .int .i64 aX.At], .box B12 28 [Y11, strV R9.1.From, strV R9.1.To, .int .i64 R9.1.At], .box B13 30 [strV R9.2.1.Key, strV R9.2.1.Val], .box B19 28 [Y18, strV R16.1.From, strV R16.1.To, .int .i64 R16.1.At], .own Y11 (lc 30 R9.1.List)]) 0 kk30 rfl rfl rfl (Cel.plain rfl rfl) rfl rfl rfl rfl) rfl rfl (fun _ => ?_)
                  refine TO.y (Y.assign rfl) rfl rfl rfl ?_
                  refine TO.nil ?_
                  refine TE.next ?_
                  refine TW.seq ?_
                  refine TW.seq ?_
                  refine TW.joinBX (τ := Bool) (X := Unit) (fun T _ => [(8, .pointer (some ⟨B19, 0, none⟩)), (12, .int .i64 R52.1), (111, .bool T)]) (fun _ _ => [.box B19 28 [Y18, strV R16.1.From, strV R16.1.To, .int .i64 R16.1.At], .own Y18 (lc 30 R52.2)]) ?_ (fun T64 X65 => ?_)
                  · refine TW.region ?_
                    refine TO.y (Y.load_box (v := .agg #[Y61, strV R16.1.From, strV R16.1.To, .int .i64 R16.1.At]) 1 kk28 rfl rfl rfl) rfl rfl rfl ?_
                    refine TO.y (Y.load_box (v := .agg #[Y11, strV R9.1.From, strV R9.1.To, .int .i64 R9.1.At]) 6 kk28 rfl rfl rfl) rfl rfl rfl ?_
                    refine TO.bind fun R66 H67 => ?_
                    refine TO.ef (Ef.call (rest := [.box B63 30 [strV R16.2.1.Key, strV R16.2.1.Val], .box B62 28 [Y61, strV R16.1.From, strV R16.1.To, .int .i64 R16.1.At], .own Y61 (lc 30 R16.1.List), .own Y60 (lc 30 R6.List), .own Y18 (lc 30 R52.2), .box B1 24 [V_aX0, strV aX.From, strV aX.To, .int .i64 aX.At], .box B12 28 [Y11, strV R9.1.From, strV R9.1.To, .int .i64 R9.1.At], .box B13 30 [strV R9.2.1.Key, strV R9.2.1.Val], .box B19 28 [Y18, strV R16.1.From, strV R16.1.To, .int .i64 R16.1.At], .own Y11 (lc 30 R9.1.List)]) [0, 0, 0, 0, 0, 0, 0, 0, 0, 0] (laws_eqIter_con R16.1 R9.1 Y61 Y11 R66 H67) kc13 rfl rfl ⟨(Can.own 2 rfl), (Can.own 9 rfl), trivial⟩) rfl rfl rfl (fun _ => ?_)
                    refine TO.y (Y.not rfl) rfl rfl rfl ?_
                    refine TO.y (Y.move rfl) rfl rfl rfl ?_
                    refine TO.ite (b := !R66) (fun H69 => ?_) (fun H69 => ?_)
                    · refine TO.off (Gd.at 4 false 101 (!R66) rfl rfl rfl (beq_tf H69)) rfl rfl ?_
                      refine TO.off (Gd.at 4 false 101 (!R66) rfl rfl rfl (beq_tf H69)) rfl rfl ?_
                      refine TO.off (Gd.at 4 false 101 (!R66) rfl rfl rfl (beq_tf H69)) rfl rfl ?_
                      refine TO.off (Gd.at 4 false 101 (!R66) rfl rfl rfl (beq_tf H69)) rfl rfl ?_
                      refine TO.y (Y.pick_t H69 rfl rfl) rfl rfl rfl ?_
                      refine TO.y (Y.move rfl) rfl rfl rfl ?_
                      refine TO.off (Gd.at 10 false 107 true rfl rfl rfl rfl) rfl rfl ?_
                      refine TO.off (Gd.at 10 false 107 true rfl rfl rfl rfl) rfl rfl ?_
                      refine TO.off (Gd.at 10 false 107 true rfl rfl rfl rfl) rfl rfl ?_
                      refine TO.y (Y.pick_t rfl rfl rfl) rfl rfl rfl ?_
                      refine TO.nil ?_
                      exact TE.jb_go () [8, 4] ⟨rfl, rfl, rfl, trivial⟩ rfl
                    · refine TO.y (Y.load_box (v := .agg #[strV R16.2.1.Key, strV R16.2.1.Val]) 0 kk30 rfl rfl rfl) (Gd.at 4 false 101 (!R66) rfl rfl rfl (beq_ff H69)) rfl rfl ?_
                      refine TO.y (Y.load_box (v := .agg #[strV R9.2.1.Key, strV R9.2.1.Val]) 7 kk30 rfl rfl rfl) (Gd.at 4 false 101 (!R66) rfl rfl rfl (beq_ff H69)) rfl rfl ?_
                      refine TO.bind fun R70 H71 => ?_
                      refine TO.ef (Ef.call (rest := [.box B63 30 [strV R16.2.1.Key, strV R16.2.1.Val], .box B62 28 [Y61, strV R16.1.From, strV R16.1.To, .int .i64 R16.1.At], .own Y61 (lc 30 R16.1.List), .own Y60 (lc 30 R6.List), .own Y18 (lc 30 R52.2), .box B1 24 [V_aX0, strV aX.From, strV aX.To, .int .i64 aX.At], .box B12 28 [Y11, strV R9.1.From, strV R9.1.To, .int .i64 R9.1.At], .box B13 30 [strV R9.2.1.Key, strV R9.2.1.Val], .box B19 28 [Y18, strV R16.1.From, strV R16.1.To, .int .i64 R16.1.At], .own Y11 (lc 30 R9.1.List)]) [0, 0, 0, 0, 0, 0, 0, 0, 0, 0] (laws_eqKV_con R16.2.1 R9.2.1  R70 H71) kc14 rfl rfl trivial) (Gd.at 4 false 101 (!R66) rfl rfl rfl (beq_ff H69)) rfl rfl (fun _ => ?_)
                      refine TO.y (Y.not rfl) (Gd.at 4 false 101 (!R66) rfl rfl rfl (beq_ff H69)) rfl rfl ?_
                      refine TO.y (Y.pick_f H69 rfl rfl) rfl rfl rfl ?_
                      refine TO.y (Y.move rfl) rfl rfl rfl ?_
                      refine TO.ite (b := !R70) (fun H73 => ?_) (fun H73 => ?_)
                      · refine TO.off (Gd.at 10 false 107 (!R70) rfl rfl rfl (beq_tf H73)) rfl rfl ?_
                        refine TO.off (Gd.at 10 false 107 (!R70) rfl rfl rfl (beq_tf H73)) rfl rfl ?_
                        refine TO.off (Gd.at 10 false 107 (!R70) rfl rfl rfl (beq_tf H73)) rfl rfl ?_
                        refine TO.y (Y.pick_t H73 rfl rfl) rfl rfl rfl ?_
                        refine TO.nil ?_
                        exact TE.jb_go () [8, 4] ⟨rfl, rfl, rfl, trivial⟩ rfl
                      · refine TO.y (Y.move rfl) (Gd.at 10 false 107 (!R70) rfl rfl rfl (beq_ff H73)) rfl rfl ?_
                        refine TO.y (Y.move rfl) (Gd.at 10 false 107 (!R70) rfl rfl rfl (beq_ff H73)) rfl rfl ?_
                        refine TO.y (Y.neb kb4 rfl rfl) (Gd.at 10 false 107 (!R70) rfl rfl rfl (beq_ff H73)) rfl rfl ?_
                        refine TO.y (Y.pick_f H73 rfl rfl) rfl rfl rfl ?_
                        refine TO.nil ?_
                        exact TE.jb_go () [8, 4] ⟨rfl, rfl, rfl, trivial⟩ rfl
                  · refine TE.next ?_
                    refine TW.cond rfl (fun H74 => ?_) (fun H74 => ?_)
                    · refine TW.seq ?_
                      refine TW.region ?_
                      refine TO.y (Y.assign rfl) rfl rfl rfl ?_
                      refine TO.nil ?_
                      refine TE.next ?_
                      refine TW.ret ?_
                      refine TE.then_ret ?_
                      exact TE.leaf fun _ _ hf_ hs_ => ret_any (rs := [.tmp 2]) (vs := [.bool false]) (.inl rfl) rfl ⟨rfl, trivial⟩ hf_ hs_ ⟨(), rfl, hs_.pulls [] rfl⟩
                    · refine TW.skip ?_
                      refine TE.next ?_
                      refine TW.seq ?_
                      refine TW.region ?_
                      refine TO.y (Y.assign rfl) rfl rfl rfl ?_
                      refine TO.nil ?_
                      refine TE.next ?_
                      refine TW.seq ?_
                      refine TW.region ?_
                      refine TO.y (Y.load_box (v := .agg #[Y18, strV R16.1.From, strV R16.1.To, .int .i64 R16.1.At]) 0 kk28 rfl rfl rfl) rfl rfl rfl ?_
                      refine TO.y (Y.move rfl) rfl rfl rfl ?_
                      refine TO.ef (Ef.call (rest := [.box B19 28 [Y18, strV R16.1.From, strV R16.1.To, .int .i64 R16.1.At], .own Y18 (lc 30 R52.2)]) [0, 0] (laws_heldIter_con ({ List := R52.2, From := R16.1.From, To := R16.1.To, At := R16.1.At : Iter }) (1 : Int) Y18 R55 H56) kc16 rfl rfl ⟨(Can.own 1 rfl), trivial⟩) rfl rfl rfl (fun _ => ?_)
                      refine TO.y (Y.assign rfl) rfl rfl rfl ?_
                      refine TO.nil ?_
                      refine TE.next ?_
                      refine TW.seq ?_
                      refine TW.seq ?_
                      refine TW.region ?_
                      refine TO.y (Y.move rfl) rfl rfl rfl ?_
                      refine TO.y (Y.lss rfl rfl) rfl rfl rfl ?_
                      refine TO.nil ?_
                      refine TE.next ?_
                      refine TW.cond rfl (fun H76 => ?_) (fun H76 => ?_)
                      · refine TW.seq ?_
                        refine TW.region ?_
                        refine TO.y (Y.assign rfl) rfl rfl rfl ?_
                        refine TO.nil ?_
                        refine TE.next ?_
                        refine TW.ret ?_
                        refine TE.then_ret ?_
                        exact TE.leaf fun _ _ hf_ hs_ => ret_any (rs := [.tmp 2]) (vs := [.bool false]) (.inl rfl) rfl ⟨rfl, trivial⟩ hf_ hs_ ⟨(), rfl, hs_.pulls [] rfl⟩
                      · refine TW.skip ?_
                        refine TE.next ?_
                        refine TW.seq ?_
                        refine TW.seq ?_
                        refine TW.region ?_
                        refine TO.y (Y.move rfl) rfl rfl rfl ?_
                        refine TO.y (Y.move rfl) rfl rfl rfl ?_
                        refine TO.y (Y.neq rfl rfl) rfl rfl rfl ?_
                        refine TO.nil ?_
                        refine TE.next ?_
                        refine TW.cond rfl (fun H77 => ?_) (fun H77 => ?_)
                        · refine TW.seq ?_
                          refine TW.region ?_
                          refine TO.y (Y.assign rfl) rfl rfl rfl ?_
                          refine TO.nil ?_
                          refine TE.next ?_
                          refine TW.ret ?_
                          refine TE.then_ret ?_
                          exact TE.leaf fun _ _ hf_ hs_ => ret_any (rs := [.tmp 2]) (vs := [.bool false]) (.inl rfl) rfl ⟨rfl, trivial⟩ hf_ hs_ ⟨(), rfl, hs_.pulls [] rfl⟩
                        · refine TW.skip ?_
                          refine TE.next ?_
                          refine TW.seq ?_
                          refine TW.region ?_
                          refine TO.y (Y.assign rfl) rfl rfl rfl ?_
                          refine TO.nil ?_
                          refine TE.next ?_
                          refine TW.ret ?_
                          exact TE.leaf fun _ _ hf_ hs_ => ret_any (rs := [.tmp 2]) (vs := [.bool true]) (.inl rfl) rfl ⟨rfl, trivial⟩ hf_ hs_ ⟨(), rfl, hs_.pulls [] rfl⟩

/-- loop.example/g00950/spec.IterPrev -/
noncomputable def spec_IterPrev (x : Iter) : Option (Iter × KV × Bool) :=
  (spec_IterOk x).bind fun R4 =>
  if (!R4) = true then (some ({ List := ([] : List KV), From := [], To := [], At := (0 : Int) : Iter }, { Key := [], Val := [] : KV }, false))
  else ((spec_l14Go x (IntKind.i64.wrap (x.At - (1 : Int))) (-1 : Int) ([])).bind fun R9 =>
  some (R9.1, R9.2.1, R9.2.2))

theorem spec_IterPrev_con (x : Iter) (V_x0 : Value) (r : Iter × KV × Bool) (hm : spec_IterPrev x = some r) :
    Con Try.prog 17 [.agg #[V_x0, strV x.From, strV x.To, .int .i64 x.At]] [] [(V_x0, lc 30 x.List)] (fun X : Value => .tuple #[.agg #[X, strV r.1.From, strV r.1.To, .int .i64 r.1.At], .agg #[strV r.2.1.Key, strV r.2.1.Val], .bool r.2.2]) (fun X => [.own X (lc 30 r.1.List)]) := by
  refine Con.intro (args := [.agg #[V_x0, strV x.From, strV x.To, .int .i64 x.At]]) (n := 25) (val := fun r (X : Value) => .tuple #[.agg #[X, strV r.1.From, strV r.1.To, .int .i64 r.1.At], .agg #[strV r.2.1.Key, strV r.2.1.Val], .bool r.2.2]) (post := fun r X => [.own X (lc 30 r.1.List)]) (m := spec_IterPrev x) Try.func17 rfl rfl rfl hm ?_
  intro w S hrd
  have HB_V_x0 := hrd _ (.head _)
  clear hrd
  unfold spec_IterPrev
  refine TW.seq ?_
  refine TW.region ?_
  refine TO.ef (Ef.box rfl (Cel.agg ⟨(One.can (Base.can HB_V_x0)), (One.plain rfl), (One.plain rfl), (One.plain rfl), trivial⟩)) rfl rfl rfl (fun B1 => ?_)
  refine TO.ef (Ef.alloc kz28 rfl) rfl rfl rfl (fun B2 => ?_)
  refine TO.ef (Ef.alloc kz30 rfl) rfl rfl rfl (fun B3 => ?_)
  refine TO.y (Y.assign rfl) rfl rfl rfl ?_
  refine TO.nil ?_
  refine TE.next ?_
  refine TW.seq ?_
  refine TW.seq ?_
  refine TW.region ?_
  refine TO.y (Y.load_box (v := .agg #[V_x0, strV x.From, strV x.To, .int .i64 x.At]) 2 kk28 rfl rfl rfl) rfl rfl rfl ?_
  refine TO.bind fun R4 H5 => ?_
  refine TO.ef (Ef.call (rest := [.box B3 30 [strV ([]), strV ([])], .box B2 28 [.slice none 0 0, strV ([]), strV ([]), .int .i64 (0 : Int)], .box B1 28 [V_x0, strV x.From, strV x.To, .int .i64 x.At]]) [0, 0, 0] (spec_IterOk_con x V_x0 R4 H5) kc36 rfl rfl ⟨(Base.can HB_V_x0), trivial⟩) rfl rfl rfl (fun _ => ?_)
  refine TO.y (Y.not rfl) rfl rfl rfl ?_
  refine TO.nil ?_
  refine TE.next ?_
  refine TW.cond rfl (fun H7 => ?_) (fun H7 => ?_)
  · refine TW.seq ?_
    refine TW.region ?_
    refine TO.y (Y.build (cells := [.slice none 0 0, strV ([]), strV ([]), .int .i64 (0 : Int)]) [] kp28 kz28 trivial rfl) rfl rfl rfl ?_
    refine TO.y (Y.build (cells := [strV ([]), strV ([])]) [] kp30 kz30 trivial rfl) rfl rfl rfl ?_
    refine TO.ef0 (Ef.store_box (us := [.slice none 0 0, strV ([]), strV ([]), .int .i64 (0 : Int)]) (vs' := [.slice none 0 0, strV ([]), strV ([]), .int .i64 (0 : Int)]) (is' := [.box B3 30 [strV ([]), strV ([])], .box B2 28 [.slice none 0 0, strV ([]), strV ([]), .int .i64 (0 : Int)], .box B1 28 [V_x0, strV x.From, strV x.To, .int .i64 x.At]]) 1 kk28 rfl rfl rfl (Cel.plain rfl rfl) rfl rfl rfl rfl) rfl rfl (fun _ => ?_)
    refine TO.ef0 (Ef.store_box (us := [strV ([]), strV ([])]) (vs' := [strV ([]), strV ([])]) (is' := [.box B3 30 [strV ([]), strV ([])], .box B2 28 [.slice none 0 0, strV ([]), strV ([]), .int .i64 (0 : Int)], .box B1 28 [V_x0, strV x.From, strV x.To, .int .i64 x.At]]) 0 kk30 rfl rfl rfl (Cel.plain rfl rfl) rfl rfl rfl rfl) rfl rfl (fun _ => ?_)
    refine TO.y (Y.assign rfl) rfl rfl rfl ?_
    refine TO.nil ?_
    refine TE.next ?_
    refine TW.ret ?_
    refine TE.then_ret ?_
    exact TE.leaf fun _ _ hf_ hs_ => ret_any (rs := [.cell 2 28, .cell 3 30, .tmp 4]) (vs := [.agg #[.slice none 0 0, strV ([]), strV ([]), .int .i64 (0 : Int)], .agg #[strV ([]), strV ([])], .bool false]) (.inl rfl) rfl (RV.cell 1 rfl rfl kk28 rfl (RV.cell 0 rfl rfl kk30 rfl ⟨rfl, trivial⟩)) hf_ hs_ ⟨(.slice none 0 0), rfl, (hs_.nilItem 30 2).pulls [0] rfl⟩
  · refine TW.skip ?_
    refine TE.next ?_
    refine TW.seq ?_
    refine TW.region ?_
    refine TO.y (Y.load_box (v := .agg #[V_x0, strV x.From, strV x.To, .int .i64 x.At]) 2 kk28 rfl rfl rfl) rfl rfl rfl ?_
    refine TO.y (Y.field_box kf28_3 rfl rfl) rfl rfl rfl ?_
    refine TO.y (Y.load_box (v := .int .i64 x.At) 2 kk3 rfl rfl rfl) rfl rfl rfl ?_
    refine TO.y (Y.sub rfl rfl) rfl rfl rfl ?_
    refine TO.bind fun R9 H10 => ?_
    refine TO.ef (Ef.call (rest := [.box B3 30 [strV ([]), strV ([])], .box B2 28 [.slice none 0 0, strV ([]), strV ([]), .int .i64 (0 : Int)], .box B1 28 [V_x0, strV x.From, strV x.To, .int .i64 x.At]]) [0, 0, 0] (spec_l14Go_con x (IntKind.i64.wrap (x.At - (1 : Int))) (-1 : Int) ([]) V_x0 R9 H10) kc37 rfl rfl ⟨(Base.can HB_V_x0), trivial⟩) rfl rfl rfl (fun Y11 => ?_)
    refine TO.y (Y.move rfl) rfl rfl rfl ?_
    refine TO.y (Y.extract rfl rfl) rfl rfl rfl ?_
    refine TO.y (Y.extract rfl rfl) rfl rfl rfl ?_
    refine TO.y (Y.extract rfl rfl) rfl rfl rfl ?_
    refine TO.ef (Ef.alloc kz28 rfl) rfl rfl rfl (fun B12 => ?_)
    refine TO.ef (Ef.alloc kz30 rfl) rfl rfl rfl (fun B13 => ?_)
    refine TO.ef0 (Ef.store_box (us := [Y11, strV R9.1.From, strV R9.1.To, .int .i64 R9.1.At]) (vs' := [Y11, strV R9.1.From, strV R9.1.To, .int .i64 R9.1.At]) (is' := [.box B13 30 [strV ([]), strV ([])], .box B12 28 [Y11, strV R9.1.From, strV R9.1.To, .int .i64 R9.1.At], .own Y11 (lc 30 R9.1.List), .box B3 30 [strV ([]), strV ([])], .box B2 28 [.slice none 0 0, strV ([]), strV ([]), .int .i64 (0 : Int)], .box B1 28 [V_x0, strV x.From, strV x.To, .int .i64 x.At]]) 1 kk28 rfl rfl rfl (Cel.agg ⟨(One.can (Can.own 2 rfl)), (One.plain rfl), (One.plain rfl), (One.plain rfl), trivial⟩) rfl rfl rfl rfl) rfl rfl (fun _ => ?_)
    refine TO.ef0 (Ef.store_box (us := [strV R9.2.1.Key, strV R9.2.1.Val]) (vs' := [strV R9.2.1.Key, strV R9.2.1.Val]) (is' := [.box B13 30 [strV R9.2.1.Key, strV R9.2.1.Val], .box B12 28 [Y11, strV R9.1.From, strV R9.1.To, .int .i64 R9.1.At], .own Y11 (lc 30 R9.1.List), .box B3 30 [strV ([]), strV ([])], .box B2 28 [.slice none 0 0, strV ([]), strV ([]), .int .i64 (0 : Int)], .box B1 28 [V_x0, strV x.From, strV x.To, .int .i64 x.At]]) 0 kk30 rfl rfl rfl (Cel.plain rfl rfl) rfl rfl rfl rfl) rfl rfl (fun _ => ?_)
    refine TO.y (Y.assign rfl) rfl rfl rfl ?_
    refine TO.nil ?_
    refine TE.next ?_
    refine TW.seq ?_
    refine TW.draw (isH := [.box B13 30 [strV R9.2.1.Key, strV R9.2.1.Val], .box B12 28 [Y11, strV R9.1.From, strV R9.1.To, .int .i64 R9.1.At], .own Y11 (lc 30 R9.1.List), .box B1 28 [V_x0, strV x.From, strV x.To, .int .i64 x.At]]) hMix ?_
    refine TA.y (listed' := #[true, false, false, false, false, false]) 0 [0, 0, 0, 2] rfl (Y.load_box (v := .agg #[Y11, strV R9.1.From, strV R9.1.To, .int .i64 R9.1.At]) 1 kk28 rfl rfl rfl) rfl rfl rfl (by kernel_rfl) (by kernel_rfl) (by kernel_rfl) rfl rfl ?_
    refine TA.y (listed' := #[true, true, false, false, false, false]) 1 [0, 0, 0, 2] rfl (Y.load_box (v := .agg #[strV R9.2.1.Key, strV R9.2.1.Val]) 0 kk30 rfl rfl rfl) rfl rfl rfl (by kernel_rfl) (by kernel_rfl) (by kernel_rfl) rfl rfl ?_
    refine TA.y (listed' := #[true, true, true, false, false, false]) 2 [0, 0, 0, 2] rfl (Y.move rfl) rfl rfl rfl (by kernel_rfl) (by kernel_rfl) (by kernel_rfl) rfl rfl ?_
    refine TA.one 3 (by kernel_rfl) ?_
    refine TX.ef0 (listed' := #[true, true, true, true, false, false]) [0, 0, 0, 2] rfl (Ef.store_box (us := [Y11, strV R9.1.From, strV R9.1.To, .int .i64 R9.1.At]) (vs' := [Y11, strV R9.1.From, strV R9.1.To, .int .i64 R9.1.At]) (is' := [.box B13 30 [strV R9.2.1.Key, strV R9.2.1.Val], .box B12 28 [Y11, strV R9.1.From, strV R9.1.To, .int .i64 R9.1.At], .own Y11 (lc 30 R9.1.List), .box B3 30 [strV ([]), strV ([])], .box B2 28 [Y11, strV R9.1.From, strV R9.1.To, .int .i64 R9.1.At], .box B1 28 [V_x0, strV x.From, strV x.To, .int .i64 x.At]]) 4 kk28 rfl rfl rfl (Cel.agg ⟨(One.can (Can.own 2 rfl)), (One.plain rfl), (One.plain rfl), (One.plain rfl), trivial⟩) rfl rfl rfl rfl) rfl rfl rfl (fun _ => rfl) (fun _ => ?_)
    refine TA.one 4 (by kernel_rfl) ?_
    refine TX.ef0 (listed' := #[true, true, true, true, true, false]) [0, 0, 0, 2] rfl (Ef.store_box (us := [strV R9.2.1.Key, strV R9.2.1.Val]) (vs' := [strV R9.2.1.Key, strV R9.2.1.Val]) (is' := [.box B13 30 [strV R9.2.1.Key, strV R9.2.1.Val], .box B12 28 [Y11, strV R9.1.From, strV R9.1.To, .int .i64 R9.1.At], .own Y11 (lc 30 R9.1.List), .box B3 30 [strV R9.2.1.Key, strV R9.2.1.Val], .box B2 28 [Y11, strV R9.1.From, strV R9.1.To, .int .i64 R9.1.At], .box B1 28 [V_x0, strV x.From, strV x.To, .int .i64 x.At]]) 3 kk30 rfl rfl rfl (Cel.plain rfl rfl) rfl rfl rfl rfl) rfl rfl rfl (fun _ => rfl) (fun _ => ?_)
    refine TA.y (listed' := #[true, true, true, true, true, true]) 5 [0, 0, 0, 2] rfl (Y.assign rfl) rfl rfl rfl (by kernel_rfl) (by kernel_rfl) (by kernel_rfl) rfl rfl ?_
    refine TA.nil (by kernel_rfl) ?_
    refine TE.next ?_
    refine TW.ret ?_
    exact TE.leaf fun _ _ hf_ hs_ => ret_any (rs := [.cell 2 28, .cell 3 30, .tmp 4]) (vs := [.agg #[Y11, strV R9.1.From, strV R9.1.To, .int .i64 R9.1.At], .agg #[strV R9.2.1.Key, strV R9.2.1.Val], .bool R9.2.2]) (.inl rfl) rfl (RV.cell 4 rfl rfl kk28 rfl (RV.cell 3 rfl rfl kk30 rfl ⟨rfl, trivial⟩)) hf_ hs_ ⟨Y11, rfl, hs_.pulls [2] rfl⟩

/-- loop.example/g00950/impl.IterPrev -/
noncomputable def impl_IterPrev (x : Iter) : Option (Iter × KV × Bool) :=
  (impl_IterOk x).bind fun R4 =>
  if (!R4) = true then (some ({ List := ([] : List KV), From := [], To := [], At := (0 : Int) : Iter }, { Key := [], Val := [] : KV }, false))
  else (bindC (loopO (fun (S9 : Int) => (if (decide (S9 ≥ (0 : Int))) = true then ((impl_Iter_isWithin x S9).bind fun R16 =>
  some (!R16))
  else (some false)).bind (fun (T13 : Bool) =>
  if T13 = true then (some (.go (IntKind.i64.wrap (S9 - (1 : Int)))))
  else (some (.done (.go S9)))))
  (IntKind.i64.wrap (x.At - (1 : Int))))
  (fun (T11 : Int) => (impl_moveTo x (goMax T11 (-1 : Int))).bind fun R20 =>
  some (R20.1, R20.2.1, R20.2.2)))

theorem impl_IterPrev_con (x : Iter) (V_x0 : Value) (r : Iter × KV × Bool) (hm : impl_IterPrev x = some r) :
    Con Try.prog 18 [.agg #[V_x0, strV x.From, strV x.To, .int .i64 x.At]] [] [(V_x0, lc 30 x.List)] (fun X : Value => .tuple #[.agg #[X, strV r.1.From, strV r.1.To, .int .i64 r.1.At], .agg #[strV r.2.1.Key, strV r.2.1.Val], .bool r.2.2]) (fun X => [.own X (lc 30 r.1.List)]) := by
  refine Con.intro (args := [.agg #[V_x0, strV x.From, strV x.To, .int .i64 x.At]]) (n := 31) (val := fun r (X : Value) => .tuple #[.agg #[X, strV r.1.From, strV r.1.To, .int .i64 r.1.At], .agg #[strV r.2.1.Key, strV r.2.1.Val], .bool r.2.2]) (post := fun r X => [.own X (lc 30 r.1.List)]) (m := impl_IterPrev x) Try.func18 rfl rfl rfl hm ?_
  intro w S hrd
  have HB_V_x0 := hrd _ (.head _)
  clear hrd
  unfold impl_IterPrev
  refine TW.seq ?_
  refine TW.region ?_
  refine TO.ef (Ef.box rfl (Cel.agg ⟨(One.can (Base.can HB_V_x0)), (One.plain rfl), (One.plain rfl), (One.plain rfl), trivial⟩)) rfl rfl rfl (fun B1 => ?_)
  refine TO.ef (Ef.alloc kz28 rfl) rfl rfl rfl (fun B2 => ?_)
  refine TO.ef (Ef.alloc kz30 rfl) rfl rfl rfl (fun B3 => ?_)
  refine TO.y (Y.assign rfl) rfl rfl rfl ?_
  refine TO.nil ?_
  refine TE.next ?_
  refine TW.seq ?_
  refine TW.seq ?_
  refine TW.region ?_
  refine TO.y (Y.load_box (v := .agg #[V_x0, strV x.From, strV x.To, .int .i64 x.At]) 2 kk28 rfl rfl rfl) rfl rfl rfl ?_
  refine TO.bind fun R4 H5 => ?_
  refine TO.ef (Ef.call (rest := [.box B3 30 [strV ([]), strV ([])], .box B2 28 [.slice none 0 0, strV ([]), strV ([]), .int .i64 (0 : Int)], .box B1 28 [V_x0, strV x.From, strV x.To, .int .i64 x.At]]) [0, 0, 0] (impl_IterOk_con x V_x0 R4 H5) kc39 rfl rfl ⟨(Base.can HB_V_x0), trivial⟩) rfl rfl rfl (fun _ => ?_)
  refine TO.y (Y.not rfl) rfl rfl rfl ?_
  refine TO.nil ?_
  refine TE.next ?_
  refine TW.cond rfl (fun H7 => ?_) (fun H7 => ?_)
  · refine TW.seq ?_
    refine TW.region ?_
    refine TO.y (Y.build (cells := [.slice none 0 0, strV ([]), strV ([]), .int .i64 (0 : Int)]) [] kp28 kz28 trivial rfl) rfl rfl rfl ?_
    refine TO.y (Y.build (cells := [strV ([]), strV ([])]) [] kp30 kz30 trivial rfl) rfl rfl rfl ?_
    refine TO.ef0 (Ef.store_box (us := [.slice none 0 0, strV ([]), strV ([]), .int .i64 (0 : Int)]) (vs' := [.slice none 0 0, strV ([]), strV ([]), .int .i64 (0 : Int)]) (is' := [.box B3 30 [strV ([]), strV ([])], .box B2 28 [.slice none 0 0, strV ([]), strV ([]), .int .i64 (0 : Int)], .box B1 28 [V_x0, strV x.From, strV x.To, .int .i64 x.At]]) 1 kk28 rfl rfl rfl (Cel.plain rfl rfl) rfl rfl rfl rfl) rfl rfl (fun _ => ?_)
    refine TO.ef0 (Ef.store_box (us := [strV ([]), strV ([])]) (vs' := [strV ([]), strV ([])]) (is' := [.box B3 30 [strV ([]), strV ([])], .box B2 28 [.slice none 0 0, strV ([]), strV ([]), .int .i64 (0 : Int)], .box B1 28 [V_x0, strV x.From, strV x.To, .int .i64 x.At]]) 0 kk30 rfl rfl rfl (Cel.plain rfl rfl) rfl rfl rfl rfl) rfl rfl (fun _ => ?_)
    refine TO.y (Y.assign rfl) rfl rfl rfl ?_
    refine TO.nil ?_
    refine TE.next ?_
    refine TW.ret ?_
    refine TE.then_ret ?_
    exact TE.leaf fun _ _ hf_ hs_ => ret_any (rs := [.cell 2 28, .cell 3 30, .tmp 4]) (vs := [.agg #[.slice none 0 0, strV ([]), strV ([]), .int .i64 (0 : Int)], .agg #[strV ([]), strV ([])], .bool false]) (.inl rfl) rfl (RV.cell 1 rfl rfl kk28 rfl (RV.cell 0 rfl rfl kk30 rfl ⟨rfl, trivial⟩)) hf_ hs_ ⟨(.slice none 0 0), rfl, (hs_.nilItem 30 2).pulls [0] rfl⟩
  · refine TW.skip ?_
    refine TE.next ?_
    refine TW.seq ?_
    refine TW.region ?_
    refine TO.y (Y.field_box kf28_3 rfl rfl) rfl rfl rfl ?_
    refine TO.y (Y.load_box (v := .int .i64 x.At) 2 kk3 rfl rfl rfl) rfl rfl rfl ?_
    refine TO.y (Y.sub rfl rfl) rfl rfl rfl ?_
    refine TO.y (Y.assign rfl) rfl rfl rfl ?_
    refine TO.nil ?_
    refine TE.next ?_
    refine TW.seq ?_
    refine TW.joinX (τ := Int) (X := Unit) (fun T _ => [(1, .pointer (some ⟨B1, 0, none⟩)), (2, .pointer (some ⟨B2, 0, none⟩)), (3, .pointer (some ⟨B3, 0, none⟩)), (5, .int .i64 T)]) (fun _ _ => [.box B1 28 [V_x0, strV x.From, strV x.To, .int .i64 x.At], .box B2 28 [.slice none 0 0, strV ([]), strV ([]), .int .i64 (0 : Int)], .box B3 30 [strV ([]), strV ([])]]) ?_ (fun T11 X12 => ?_)
    · refine TW.block ?_
      refine TW.loopX (σ := Int) (X := Unit) (fun T _ => [(1, .pointer (some ⟨B1, 0, none⟩)), (2, .pointer (some ⟨B2, 0, none⟩)), (3, .pointer (some ⟨B3, 0, none⟩)), (5, .int .i64 T)]) (fun _ _ => [.box B1 28 [V_x0, strV x.From, strV x.To, .int .i64 x.At], .box B2 28 [.slice none 0 0, strV ([]), strV ([]), .int .i64 (0 : Int)], .box B3 30 [strV ([]), strV ([])]]) () [2, 1, 0] ⟨rfl, rfl, rfl, rfl, trivial⟩ rfl (fun S9 X10 => ?_)
      refine TW.seq ?_
      refine TW.seq ?_
      refine TW.joinBX (τ := Bool) (X := Unit) (fun T _ => [(1, .pointer (some ⟨B1, 0, none⟩)), (2, .pointer (some ⟨B2, 0, none⟩)), (3, .pointer (some ⟨B3, 0, none⟩)), (5, .int .i64 S9), (21, .bool T)]) (fun _ _ => [.box B1 28 [V_x0, strV x.From, strV x.To, .int .i64 x.At], .box B2 28 [.slice none 0 0, strV ([]), strV ([]), .int .i64 (0 : Int)], .box B3 30 [strV ([]), strV ([])]]) ?_ (fun T13 X14 => ?_)
      · refine TW.region ?_
        refine TO.y (Y.move rfl) rfl rfl rfl ?_
        refine TO.y (Y.geq rfl rfl) rfl rfl rfl ?_
        refine TO.y (Y.move rfl) rfl rfl rfl ?_
        refine TO.ite (b := decide (S9 ≥ (0 : Int))) (fun H15 => ?_) (fun H15 => ?_)
        · refine TO.y (Y.load_box (v := .agg #[V_x0, strV x.From, strV x.To, .int .i64 x.At]) 0 kk28 rfl rfl rfl) (Gd.at 2 true 16 (decide (S9 ≥ (0 : Int))) rfl rfl rfl (beq_tt H15)) rfl rfl ?_
          refine TO.y (Y.move rfl) (Gd.at 2 true 16 (decide (S9 ≥ (0 : Int))) rfl rfl rfl (beq_tt H15)) rfl rfl ?_
          refine TO.bind fun R16 H17 => ?_
          refine TO.ef (Ef.call (rest := [.box B1 28 [V_x0, strV x.From, strV x.To, .int .i64 x.At], .box B2 28 [.slice none 0 0, strV ([]), strV ([]), .int .i64 (0 : Int)], .box B3 30 [strV ([]), strV ([])]]) [0, 0, 0] (impl_Iter_isWithin_con x S9 V_x0 R16 H17) kc40 rfl rfl ⟨(Base.can HB_V_x0), trivial⟩) (Gd.at 2 true 16 (decide (S9 ≥ (0 : Int))) rfl rfl rfl (beq_tt H15)) rfl rfl (fun _ => ?_)
          refine TO.y (Y.not rfl) (Gd.at 2 true 16 (decide (S9 ≥ (0 : Int))) rfl rfl rfl (beq_tt H15)) rfl rfl ?_
          refine TO.y (Y.pick_t H15 rfl rfl) rfl rfl rfl ?_
          refine TO.nil ?_
          exact TE.jb_go () [0, 0, 0] ⟨rfl, rfl, rfl, rfl, rfl, trivial⟩ rfl
        · refine TO.off (Gd.at 2 true 16 (decide (S9 ≥ (0 : Int))) rfl rfl rfl (beq_ft H15)) rfl rfl ?_
          refine TO.off (Gd.at 2 true 16 (decide (S9 ≥ (0 : Int))) rfl rfl rfl (beq_ft H15)) rfl rfl ?_
          refine TO.off (Gd.at 2 true 16 (decide (S9 ≥ (0 : Int))) rfl rfl rfl (beq_ft H15)) rfl rfl ?_
          refine TO.off (Gd.at 2 true 16 (decide (S9 ≥ (0 : Int))) rfl rfl rfl (beq_ft H15)) rfl rfl ?_
          refine TO.y (Y.pick_f H15 rfl rfl) rfl rfl rfl ?_
          refine TO.nil ?_
          exact TE.jb_go () [0, 0, 0] ⟨rfl, rfl, rfl, rfl, rfl, trivial⟩ rfl
      · refine TE.next ?_
        refine TW.cond rfl (fun H19 => ?_) (fun H19 => ?_)
        · refine TW.skip ?_
          refine TE.next ?_
          refine TW.block ?_
          refine TW.region ?_
          refine TO.y (Y.move rfl) rfl rfl rfl ?_
          refine TO.y (Y.sub rfl rfl) rfl rfl rfl ?_
          refine TO.y (Y.assign rfl) rfl rfl rfl ?_
          refine TO.nil ?_
          refine TE.block_normal ?_
          exact TE.lp_go () [0, 0, 0] ⟨rfl, rfl, rfl, rfl, trivial⟩ rfl
        · refine TW.exit ?_
          refine TE.then_exit ?_
          refine TE.lp_exit ?_
          refine TE.block_exit ?_
          exact TE.jn_go () [0, 0, 0] ⟨rfl, rfl, rfl, rfl, trivial⟩ rfl
    · refine TE.next ?_
      refine TW.seq ?_
      refine TW.region ?_
      refine TO.y (Y.load_box (v := .agg #[V_x0, strV x.From, strV x.To, .int .i64 x.At]) 0 kk28 rfl rfl rfl) rfl rfl rfl ?_
      refine TO.y (Y.move rfl) rfl rfl rfl ?_
      refine TO.y (Y.max2 rfl rfl) rfl rfl rfl ?_
      refine TO.bind fun R20 H21 => ?_
      refine TO.ef (Ef.call (rest := [.box B1 28 [V_x0, strV x.From, strV x.To, .int .i64 x.At], .box B2 28 [.slice none 0 0, strV ([]), strV ([]), .int .i64 (0 : Int)], .box B3 30 [strV ([]), strV ([])]]) [0, 0, 0] (impl_moveTo_con x (goMax T11 (-1 : Int)) V_x0 R20 H21) kc41 rfl rfl ⟨(Base.can HB_V_x0), trivial⟩) rfl rfl rfl (fun Y22 => ?_)
      refine TO.y (Y.extract rfl rfl) rfl rfl rfl ?_
      refine TO.y (Y.extract rfl rfl) rfl rfl rfl ?_
      refine TO.y (Y.extract rfl rfl) rfl rfl rfl ?_
      refine TO.ef0 (Ef.store_box (us := [Y22, strV R20.1.From, strV R20.1.To, .int .i64 R20.1.At]) (vs' := [Y22, strV R20.1.From, strV R20.1.To, .int .i64 R20.1.At]) (is' := [.own Y22 (lc 30 R20.1.List), .box B1 28 [V_x0, strV x.From, strV x.To, .int .i64 x.At], .box B2 28 [Y22, strV R20.1.From, strV R20.1.To, .int .i64 R20.1.At], .box B3 30 [strV ([]), strV ([])]]) 2 kk28 rfl rfl rfl (Cel.agg ⟨(One.can (Can.own 0 rfl)), (One.plain rfl), (One.plain rfl), (One.plain rfl), trivial⟩) rfl rfl rfl rfl) rfl rfl (fun _ => ?_)
      refine TO.ef0 (Ef.store_box (us := [strV R20.2.1.Key, strV R20.2.1.Val]) (vs' := [strV R20.2.1.Key, strV R20.2.1.Val]) (is' := [.own Y22 (lc 30 R20.1.List), .box B1 28 [V_x0, strV x.From, strV x.To, .int .i64 x.At], .box B2 28 [Y22, strV R20.1.From, strV R20.1.To, .int .i64 R20.1.At], .box B3 30 [strV R20.2.1.Key, strV R20.2.1.Val]]) 3 kk30 rfl rfl rfl (Cel.plain rfl rfl) rfl rfl rfl rfl) rfl rfl (fun _ => ?_)
      refine TO.y (Y.assign rfl) rfl rfl rfl ?_
      refine TO.nil ?_
      refine TE.next ?_
      refine TW.ret ?_
      exact TE.leaf fun _ _ hf_ hs_ => ret_any (rs := [.cell 2 28, .cell 3 30, .tmp 4]) (vs := [.agg #[Y22, strV R20.1.From, strV R20.1.To, .int .i64 R20.1.At], .agg #[strV R20.2.1.Key, strV R20.2.1.Val], .bool R20.2.2]) (.inl rfl) rfl (RV.cell 2 rfl rfl kk28 rfl (RV.cell 3 rfl rfl kk30 rfl ⟨rfl, trivial⟩)) hf_ hs_ ⟨Y22, rfl, hs_.pulls [0] rfl⟩

/-- loop.example/g00950/laws.FnExactIterPrev -/
noncomputable def laws_FnExactIterPrev (aX : Iter) : Option Bool :=
  (laws_szIter aX (1048576 : Int)).bind fun R2 =>
  if (decide (R2 < (0 : Int))) = true then (some true)
  else ((laws_toIter aX).bind fun R6 =>
  (spec_IterPrev R6).bind fun R9 =>
  (impl_IterPrev R6).bind fun R16 =>
  ((laws_eqIter R16.1 R9.1).bind fun R23 =>
  if (!R23) = true then (some true)
  else ((laws_eqKV R16.2.1 R9.2.1).bind fun R27 =>
  if (!R27) = true then (some true)
  else (some (!(decide (R16.2.2 = R9.2.2)))))).bind (fun (T21 : Bool) =>
  if T21 = true then (some false)
  else ((laws_eqIter R6 R6).bind fun R33 =>
  if (!R33) = true then (some false)
  else ((laws_markIter R6 (1 : Int)).bind fun R37 =>
  (if (decide (R37.1 < (0 : Int))) = true then (some true)
  else ((laws_eqIter R16.1 R9.1).bind fun R43 =>
  if (!R43) = true then (some true)
  else ((laws_eqKV R16.2.1 R9.2.1).bind fun R47 =>
  if (!R47) = true then (some true)
  else (some (!(decide (R16.2.2 = R9.2.2))))))).bind (fun (T40 : Bool) =>
  if T40 = true then (some false)
  else ((laws_markIter R16.1 (1 : Int)).bind fun R52 =>
  (laws_heldIter ({ List := R52.2, From := R16.1.From, To := R16.1.To, At := R16.1.At : Iter }) (1 : Int)).bind fun R55 =>
  if (decide (R55 < (0 : Int))) = true then (some false)
  else (if (!(decide (R55 = R52.1))) = true then (some false)
  else (((laws_eqIter R16.1 R9.1).bind fun R66 =>
  if (!R66) = true then (some true)
  else ((laws_eqKV R16.2.1 R9.2.1).bind fun R70 =>
  if (!R70) = true then (some true)
  else (some (!(decide (R16.2.2 = R9.2.2)))))).bind (fun (T64 : Bool) =>
  if T64 = true then (some false)
  else (if (decide (R55 < (0 : Int))) = true then (some false)
  else (if (!(decide (R55 = R52.1))) = true then (some false)
  else (some true))))))))))))

theorem laws_FnExactIterPrev_con (aX : Iter) (V_aX0 : Value) (r : Bool) (hm : laws_FnExactIterPrev aX = some r) :
    Con Try.prog 4 [.agg #[V_aX0, strV aX.From, strV aX.To, .int .i64 aX.At]] [] [(V_aX0, lc 75 aX.List)] (fun _ : Unit => .bool r) (fun _ => []) := by
  refine Con.intro (args := [.agg #[V_aX0, strV aX.From, strV aX.To, .int .i64 aX.At]]) (n := 120) (val := fun r (_ : Unit) => .bool r) (post := fun _ _ => []) (m := laws_FnExactIterPrev aX) Try.func4 rfl rfl rfl hm ?_
  intro w S hrd
  have HB_V_aX0 := hrd _ (.head _)
  clear hrd
  unfold laws_FnExactIterPrev
  refine TW.seq ?_
  refine TW.region ?_
  refine TO.ef (Ef.box rfl (Cel.agg ⟨(One.can (Base.can HB_V_aX0)), (One.plain rfl), (One.plain rfl), (One.plain rfl), trivial⟩)) rfl rfl rfl (fun B1 => ?_)
  refine TO.y (Y.assign rfl) rfl rfl rfl ?_
  refine TO.nil ?_
  refine TE.next ?_
  refine TW.seq ?_
  refine TW.region ?_
  refine TO.y (Y.assign rfl) rfl rfl rfl ?_
  refine TO.nil ?_
  refine TE.next ?_
  refine TW.seq ?_
  refine TW.region ?_
  refine TO.y (Y.load_box (v := .agg #[V_aX0, strV aX.From, strV aX.To, .int .i64 aX.At]) 0 kk24 rfl rfl rfl) rfl rfl rfl ?_
  refine TO.y (Y.move rfl) rfl rfl rfl ?_
  refine TO.bind fun R2 H3 => ?_
  refine TO.ef (Ef.call (rest := [.box B1 24 [V_aX0, strV aX.From, strV aX.To, .int .i64 aX.At]]) [0] (laws_szIter_con aX (1048576 : Int) V_aX0 R2 H3) kc9 rfl rfl ⟨(Base.can HB_V_aX0), trivial⟩) rfl rfl rfl (fun _ => ?_)
  refine TO.y (Y.assign rfl) rfl rfl rfl ?_
  refine TO.nil ?_
  refine TE.next ?_
  refine TW.seq ?_
  refine TW.seq ?_
  refine TW.region ?_
  refine TO.y (Y.move rfl) rfl rfl rfl ?_
  refine TO.y (Y.lss rfl rfl) rfl rfl rfl ?_
  refine TO.nil ?_
  refine TE.next ?_
  refine TW.cond rfl (fun H5 => ?_) (fun H5 => ?_)
  · refine TW.seq ?_
    refine TW.region ?_
    refine TO.y (Y.assign rfl) rfl rfl rfl ?_
    refine TO.nil ?_
    refine TE.next ?_
    refine TW.ret ?_
    refine TE.then_ret ?_
    exact TE.leaf fun _ _ hf_ hs_ => ret_any (rs := [.tmp 2]) (vs := [.bool true]) (.inl rfl) rfl ⟨rfl, trivial⟩ hf_ hs_ ⟨(), rfl, hs_.pulls [] rfl⟩
  · refine TW.skip ?_
    refine TE.next ?_
    refine TW.seq ?_
    refine TW.region ?_
    refine TO.y (Y.load_box (v := .agg #[V_aX0, strV aX.From, strV aX.To, .int .i64 aX.At]) 0 kk24 rfl rfl rfl) rfl rfl rfl ?_
    refine TO.bind fun R6 H7 => ?_
    refine TO.ef (Ef.call (rest := [.box B1 24 [V_aX0, strV aX.From, strV aX.To, .int .i64 aX.At]]) [0] (laws_toIter_con aX V_aX0 R6 H7) kc11 rfl rfl ⟨(Base.can HB_V_aX0), trivial⟩) rfl rfl rfl (fun Y8 => ?_)
    refine TO.bind fun R9 H10 => ?_
    refine TO.ef (Ef.call (rest := [.own Y8 (lc 30 R6.List), .box B1 24 [V_aX0, strV aX.From, strV aX.To, .int .i64 aX.At]]) [0, 0] (spec_IterPrev_con R6 Y8 R9 H10) kc17 rfl rfl ⟨(Can.own 0 rfl), trivial⟩) rfl rfl rfl (fun Y11 => ?_)
    refine TO.y (Y.move rfl) rfl rfl rfl ?_
    refine TO.y (Y.extract rfl rfl) rfl rfl rfl ?_
    refine TO.y (Y.extract rfl rfl) rfl rfl rfl ?_
    refine TO.y (Y.extract rfl rfl) rfl rfl rfl ?_
    refine TO.ef (Ef.alloc kz28 rfl) rfl rfl rfl (fun B12 => ?_)
    refine TO.ef (Ef.alloc kz30 rfl) rfl rfl rfl (fun B13 => ?_)
    refine TO.ef0 (Ef.store_box (us := [Y11, strV R9.1.From, strV R9.1.To, .int .i64 R9.1.At]) (vs' := [Y11, strV R9.1.From, strV R9.1.To, .int .i64 R9.1.At]) (is' := [.box B13 30 [strV ([]), strV ([])], .box B12 28 [Y11, strV R9.1.From, strV R9.1.To, .int .i64 R9.1.At], .own Y11 (lc 30 R9.1.List), .own Y8 (lc 30 R6.List), .box B1 24 [V_aX0, strV aX.From, strV aX.To, .int .i64 aX.At]]) 1 kk28 rfl rfl rfl (Cel.agg ⟨(One.can (Can.own 2 rfl)), (One.plain rfl), (One.plain rfl), (One.plain rfl), trivial⟩) rfl rfl rfl rfl) rfl rfl (fun _ => ?_)
    refine TO.ef0 (Ef.store_box (us := [strV R9.2.1.Key, strV R9.2.1.Val]) (vs' := [strV R9.2.1.Key, strV R9.2.1.Val]) (is' := [.box B13 30 [strV R9.2.1.Key, strV R9.2.1.Val], .box B12 28 [Y11, strV R9.1.From, strV R9.1.To, .int .i64 R9.1.At], .own Y11 (lc 30 R9.1.List), .own Y8 (lc 30 R6.List), .box B1 24 [V_aX0, strV aX.From, strV aX.To, .int .i64 aX.At]]) 0 kk30 rfl rfl rfl (Cel.plain rfl rfl) rfl rfl rfl rfl) rfl rfl (fun _ => ?_)
    refine TO.y (Y.assign rfl) rfl rfl rfl ?_
    refine TO.nil ?_
    refine TE.next ?_
    refine TW.seq ?_
    refine TW.region ?_
    refine TO.y (Y.load_box (v := .agg #[V_aX0, strV aX.From, strV aX.To, .int .i64 aX.At]) 4 kk24 rfl rfl rfl) rfl rfl rfl ?_
    refine TO.ef (Ef.call (rest := [.box B13 30 [strV R9.2.1.Key, strV R9.2.1.Val], .box B12 28 [Y11, strV R9.1.From, strV R9.1.To, .int .i64 R9.1.At], .own Y11 (lc 30 R9.1.List), .own Y8 (lc 30 R6.List), .box B1 24 [V_aX0, strV aX.From, strV aX.To, .int .i64 aX.At]]) [0, 0, 0, 0, 0] (laws_toIter_con aX V_aX0 R6 H7) kc11 rfl rfl ⟨(Base.can HB_V_aX0), trivial⟩) rfl rfl rfl (fun Y14 => ?_)
    refine TO.ef (Ef.alloc kz28 rfl) rfl rfl rfl (fun B15 => ?_)
    refine TO.ef0 (Ef.store_box (us := [Y14, strV R6.From, strV R6.To, .int .i64 R6.At]) (vs' := [Y14, strV R6.From, strV R6.To, .int .i64 R6.At]) (is' := [.box B15 28 [Y14, strV R6.From, strV R6.To, .int .i64 R6.At], .own Y14 (lc 30 R6.List), .box B13 30 [strV R9.2.1.Key, strV R9.2.1.Val], .box B12 28 [Y11, strV R9.1.From, strV R9.1.To, .int .i64 R9.1.At], .own Y11 (lc 30 R9.1.List), .own Y8 (lc 30 R6.List), .box B1 24 [V_aX0, strV aX.From, strV aX.To, .int .i64 aX.At]]) 0 kk28 rfl rfl rfl (Cel.agg ⟨(One.can (Can.own 1 rfl)), (One.plain rfl), (One.plain rfl), (One.plain rfl), trivial⟩) rfl rfl rfl rfl) rfl rfl (fun _ => ?_)
    refine TO.nil ?_
    refine TE.next ?_
    refine TW.seq ?_
    refine TW.region ?_
    refine TO.y (Y.load_box (v := .agg #[Y14, strV R6.From, strV R6.To, .int .i64 R6.At]) 0 kk28 rfl rfl rfl) rfl rfl rfl ?_
    refine TO.bind fun R16 H17 => ?_
    refine TO.ef (Ef.call (rest := [.box B15 28 [Y14, strV R6.From, strV R6.To, .int .i64 R6.At], .own Y14 (lc 30 R6.List), .box B13 30 [strV R9.2.1.Key, strV R9.2.1.Val], .box B12 28 [Y11, strV R9.1.From, strV R9.1.To, .int .i64 R9.1.At], .own Y11 (lc 30 R9.1.List), .own Y8 (lc 30 R6.List), .box B1 24 [V_aX0, strV aX.From, strV aX.To, .int .i64 aX.At]]) [0, 0, 0, 0, 0, 0, 0] (impl_IterPrev_con R6 Y14 R16 H17) kc18 rfl rfl ⟨(Can.own 1 rfl), trivial⟩) rfl rfl rfl (fun Y18 => ?_)
    refine TO.y (Y.move rfl) rfl rfl rfl ?_
    refine TO.y (Y.extract rfl rfl) rfl rfl rfl ?_
    refine TO.y (Y.extract rfl rfl) rfl rfl rfl ?_
    refine TO.y (Y.extract rfl rfl) rfl rfl rfl ?_
    refine TO.ef (Ef.alloc kz28 rfl) rfl rfl rfl (fun B19 => ?_)
    refine TO.ef (Ef.alloc kz30 rfl) rfl rfl rfl (fun B20 => ?_)
    refine TO.ef0 (Ef.store_box (us := [Y18, strV R16.1.From, strV R16.1.To, .int .i64 R16.1.At]) (vs' := [Y18, strV R16.1.From, strV R16.1.To, .int .i64 R16.1.At]) (is' := [.box B20 30 [strV ([]), strV ([])], .box B19 28 [Y18, strV R16.1.From, strV R16.1.To, .int .i64 R16.1.At], .own Y18 (lc 30 R16.1.List), .box B15 28 [Y14, strV R6.From, strV R6.To, .int .i64 R6.At], .own Y14 (lc 30 R6.List), .box B13 30 [strV R9.2.1.Key, strV R9.2.1.Val], .box B12 28 [Y11, strV R9.1.From, strV R9.1.To, .int .i64 R9.1.At], .own Y11 (lc 30 R9.1.List), .own Y8 (lc 30 R6.List), .box B1 24 [V_aX0, strV aX.From, strV aX.To, .int .i64 aX.At]]) 1 kk28 rfl rfl rfl (Cel.agg ⟨(One.can (Can.own 2 rfl)), (One.plain rfl), (One.plain rfl), (One.plain rfl), trivial⟩) rfl rfl rfl rfl) rfl rfl (fun _ => ?_)
    refine TO.ef0 (Ef.store_box (us := [strV R16.2.1.Key, strV R16.2.1.Val]) (vs' := [strV R16.2.1.Key, strV R16.2.1.Val]) (is' := [.box B20 30 [strV R16.2.1.Key, strV R16.2.1.Val], .box B19 28 [Y18, strV R16.1.From, strV R16.1.To, .int .i64 R16.1.At], .own Y18 (lc 30 R16.1.List), .box B15 28 [Y14, strV R6.From, strV R6.To, .int .i64 R6.At], .own Y14 (lc 30 R6.List), .box B13 30 [strV R9.2.1.Key, strV R9.2.1.Val], .box B12 28 [Y11, strV R9.1.From, strV R9.1.To, .int .i64 R9.1.At], .own Y11 (lc 30 R9.1.List), .own Y8 (lc 30 R6.List), .box B1 24 [V_aX0, strV aX.From, strV aX.To, .int .i64 aX.At]]) 0 kk30 rfl rfl rfl (Cel.plain rfl rfl) rfl rfl rfl rfl) rfl rfl (fun _ => ?_)
    refine TO.y (Y.assign rfl) rfl rfl rfl ?_
    refine TO.nil ?_
    refine TE.next ?_
    refine TW.seq ?_
    refine TW.seq ?_
    refine TW.joinBX (τ := Bool) (X := Unit) (fun T _ => [(1, .pointer (some ⟨B1, 0, none⟩)), (4, .pointer (some ⟨B12, 0, none⟩)), (5, .pointer (some ⟨B13, 0, none⟩)), (6, .bool R9.2.2), (7, .pointer (some ⟨B15, 0, none⟩)), (8, .pointer (some ⟨B19, 0, none⟩)), (9, .pointer (some ⟨B20, 0, none⟩)), (10, .bool R16.2.2), (51, .bool T)]) (fun _ _ => [.box B1 24 [V_aX0, strV aX.From, strV aX.To, .int .i64 aX.At], .box B12 28 [Y11, strV R9.1.From, strV R9.1.To, .int .i64 R9.1.At], .box B13 30 [strV R9.2.1.Key, strV R9.2.1.Val], .box B15 28 [Y14, strV R6.From, strV R6.To, .int .i64 R6.At], .box B19 28 [Y18, strV R16.1.From, strV R16.1.To, .int .i64 R16.1.At], .box B20 30 [strV R16.2.1.Key, strV R16.2.1.Val], .own Y11 (lc 30 R9.1.List), .own Y14 (lc 30 R6.List), .own Y18 (lc 30 R16.1.List)]) ?_ (fun T21 X22 => ?_)
    · refine TW.region ?_
      refine TO.y (Y.load_box (v := .agg #[Y18, strV R16.1.From, strV R16.1.To, .int .i64 R16.1.At]) 1 kk28 rfl rfl rfl) rfl rfl rfl ?_
      refine TO.y (Y.load_box (v := .agg #[Y11, strV R9.1.From, strV R9.1.To, .int .i64 R9.1.At]) 6 kk28 rfl rfl rfl) rfl rfl rfl ?_
      refine TO.bind fun R23 H24 => ?_
      refine TO.ef (Ef.call (rest := [.box B20 30 [strV R16.2.1.Key, strV R16.2.1.Val], .box B19 28 [Y18, strV R16.1.From, strV R16.1.To, .int .i64 R16.1.At], .own Y18 (lc 30 R16.1.List), .box B15 28 [Y14, strV R6.From, strV R6.To, .int .i64 R6.At], .own Y14 (lc 30 R6.List), .box B13 30 [strV R9.2.1.Key, strV R9.2.1.Val], .box B12 28 [Y11, strV R9.1.From, strV R9.1.To, .int .i64 R9.1.At], .own Y11 (lc 30 R9.1.List), .own Y8 (lc 30 R6.List), .box B1 24 [V_aX0, strV aX.From, strV aX.To, .int .i64 aX.At]]) [0, 0, 0, 0, 0, 0, 0, 0, 0, 0] (laws_eqIter_con R16.1 R9.1 Y18 Y11 R23 H24) kc13 rfl rfl ⟨(Can.own 2 rfl), (Can.own 7 rfl), trivial⟩) rfl rfl rfl (fun _ => ?_)
      refine TO.y (Y.not rfl) rfl rfl rfl ?_
      refine TO.y (Y.move rfl) rfl rfl rfl ?_
      refine TO.ite (b := !R23) (fun H26 => ?_) (fun H26 => ?_)
      · refine TO.off (Gd.at 4 false 41 (!R23) rfl rfl rfl (beq_tf H26)) rfl rfl ?_
        refine TO.off (Gd.at 4 false 41 (!R23) rfl rfl rfl (beq_tf H26)) rfl rfl ?_
        refine TO.off (Gd.at 4 false 41 (!R23) rfl rfl rfl (beq_tf H26)) rfl rfl ?_
        refine TO.off (Gd.at 4 false 41 (!R23) rfl rfl rfl (beq_tf H26)) rfl rfl ?_
        refine TO.y (Y.pick_t H26 rfl rfl) rfl rfl rfl ?_
        refine TO.y (Y.move rfl) rfl rfl rfl ?_
        refine TO.off (Gd.at 10 false 47 true rfl rfl rfl rfl) rfl rfl ?_
        refine TO.off (Gd.at 10 false 47 true rfl rfl rfl rfl) rfl rfl ?_
        refine TO.off (Gd.at 10 false 47 true rfl rfl rfl rfl) rfl rfl ?_
        refine TO.y (Y.pick_t rfl rfl rfl) rfl rfl rfl ?_
        refine TO.nil ?_
        exact TE.jb_go () [9, 6, 5, 3, 1, 0, 2, 1, 0] ⟨rfl, rfl, rfl, rfl, rfl, rfl, rfl, rfl, rfl, trivial⟩ rfl
      · refine TO.y (Y.load_box (v := .agg #[strV R16.2.1.Key, strV R16.2.1.Val]) 0 kk30 rfl rfl rfl) (Gd.at 4 false 41 (!R23) rfl rfl rfl (beq_ff H26)) rfl rfl ?_
        refine TO.y (Y.load_box (v := .agg #[strV R9.2.1.Key, strV R9.2.1.Val]) 5 kk30 rfl rfl rfl) (Gd.at 4 false 41 (!R23) rfl rfl rfl (beq_ff H26)) rfl rfl ?_
        refine TO.bind fun R27 H28 => ?_
        refine TO.ef (Ef.call (rest := [.box B20 30 [strV R16.2.1.Key, strV R16.2.1.Val], .box B19 28 [Y18, strV R16.1.From, strV R16.1.To, .int .i64 R16.1.At], .own Y18 (lc 30 R16.1.List), .box B15 28 [Y14, strV R6.From, strV R6.To, .int .i64 R6.At], .own Y14 (lc 30 R6.List), .box B13 30 [strV R9.2.1.Key, strV R9.2.1.Val], .box B12 28 [Y11, strV R9.1.From, strV R9.1.To, .int .i64 R9.1.At], .own Y11 (lc 30 R9.1.List), .own Y8 (lc 30 R6.List), .box B1 24 [V_aX0, strV aX.From, strV aX.To, .int .i64 aX.At]]) [0, 0, 0, 0, 0, 0, 0, 0, 0, 0] (laws_eqKV_con R16.2.1 R9.2.1  R27 H28) kc14 rfl rfl trivial) (Gd.at 4 false 41 (!R23) rfl rfl rfl (beq_ff H26)) rfl rfl (fun _ => ?_)
        refine TO.y (Y.not rfl) (Gd.at 4 false 41 (!R23) rfl rfl rfl (beq_ff H26)) rfl rfl ?_
        refine TO.y (Y.pick_f H26 rfl rfl) rfl rfl rfl ?_
        refine TO.y (Y.move rfl) rfl rfl rfl ?_
        refine TO.ite (b := !R27) (fun H30 => ?_) (fun H30 => ?_)
        · refine TO.off (Gd.at 10 false 47 (!R27) rfl rfl rfl (beq_tf H30)) rfl rfl ?_
          refine TO.off (Gd.at 10 false 47 (!R27) rfl rfl rfl (beq_tf H30)) rfl rfl ?_
          refine TO.off (Gd.at 10 false 47 (!R27) rfl rfl rfl (beq_tf H30)) rfl rfl ?_
          refine TO.y (Y.pick_t H30 rfl rfl) rfl rfl rfl ?_
          refine TO.nil ?_
          exact TE.jb_go () [9, 6, 5, 3, 1, 0, 2, 1, 0] ⟨rfl, rfl, rfl, rfl, rfl, rfl, rfl, rfl, rfl, trivial⟩ rfl
        · refine TO.y (Y.move rfl) (Gd.at 10 false 47 (!R27) rfl rfl rfl (beq_ff H30)) rfl rfl ?_
          refine TO.y (Y.move rfl) (Gd.at 10 false 47 (!R27) rfl rfl rfl (beq_ff H30)) rfl rfl ?_
          refine TO.y (Y.neb kb4 rfl rfl) (Gd.at 10 false 47 (!R27) rfl rfl rfl (beq_ff H30)) rfl rfl ?_
          refine TO.y (Y.pick_f H30 rfl rfl) rfl rfl rfl ?_
          refine TO.nil ?_
          exact TE.jb_go () [9, 6, 5, 3, 1, 0, 2, 1, 0] ⟨rfl, rfl, rfl, rfl, rfl, rfl, rfl, rfl, rfl, trivial⟩ rfl
    · refine TE.next ?_
      refine TW.cond rfl (fun H31 => ?_) (fun H31 => ?_)
      · refine TW.seq ?_
        refine TW.region ?_
        refine TO.y (Y.assign rfl) rfl rfl rfl ?_
        refine TO.nil ?_
        refine TE.next ?_
        refine TW.ret ?_
        refine TE.then_ret ?_
        exact TE.leaf fun _ _ hf_ hs_ => ret_any (rs := [.tmp 2]) (vs := [.bool false]) (.inl rfl) rfl ⟨rfl, trivial⟩ hf_ hs_ ⟨(), rfl, hs_.pulls [] rfl⟩
      · refine TW.skip ?_
        refine TE.next ?_
        refine TW.seq ?_
        refine TW.seq ?_
        refine TW.draw (isH := [.box B1 24 [V_aX0, strV aX.From, strV aX.To, .int .i64 aX.At], .box B12 28 [Y11, strV R9.1.From, strV R9.1.To, .int .i64 R9.1.At], .box B13 30 [strV R9.2.1.Key, strV R9.2.1.Val], .box B15 28 [Y14, strV R6.From, strV R6.To, .int .i64 R6.At], .box B19 28 [Y18, strV R16.1.From, strV R16.1.To, .int .i64 R16.1.At], .box B20 30 [strV R16.2.1.Key, strV R16.2.1.Val], .own Y11 (lc 30 R9.1.List), .own Y14 (lc 30 R6.List), .own Y18 (lc 30 R16.1.List)]) hMix ?_
        refine TA.y (listed' := #[true, false, false, false, false]) 0 [0, 0, 0, 0, 0, 0, 0, 0, 0] rfl (Y.load_box (v := .agg #[Y14, strV R6.From, strV R6.To, .int .i64 R6.At]) 3 kk28 rfl rfl rfl) rfl rfl rfl (by kernel_rfl) (by kernel_rfl) (by kernel_rfl) rfl rfl ?_
        refine TA.y (listed' := #[true, true, false, false, false]) 1 [0, 0, 0, 0, 0, 0, 0, 0, 0] rfl (Y.load_box (v := .agg #[V_aX0, strV aX.From, strV aX.To, .int .i64 aX.At]) 0 kk24 rfl rfl rfl) rfl rfl rfl (by kernel_rfl) (by kernel_rfl) (by kernel_rfl) rfl rfl ?_
        refine TA.one 2 (by kernel_rfl) ?_
        refine TX.ef (listed' := #[true, true, true, false, false]) [1, 1, 1, 1, 1, 1, 1, 1, 1] rfl (Ef.call (rest := [.box B1 24 [V_aX0, strV aX.From, strV aX.To, .int .i64 aX.At], .box B12 28 [Y11, strV R9.1.From, strV R9.1.To, .int .i64 R9.1.At], .box B13 30 [strV R9.2.1.Key, strV R9.2.1.Val], .box B15 28 [Y14, strV R6.From, strV R6.To, .int .i64 R6.At], .box B19 28 [Y18, strV R16.1.From, strV R16.1.To, .int .i64 R16.1.At], .box B20 30 [strV R16.2.1.Key, strV R16.2.1.Val], .own Y11 (lc 30 R9.1.List), .own Y14 (lc 30 R6.List), .own Y18 (lc 30 R16.1.List)]) [0, 0, 0, 0, 0, 0, 0, 0, 0] (laws_toIter_con aX V_aX0 R6 H7) kc11 rfl rfl ⟨(Base.can HB_V_aX0), trivial⟩) rfl rfl rfl rfl (fun _ => rfl) (fun Y32 => ?_)
        refine TA.bind fun R33 H34 => ?_
        refine TA.one 3 (by kernel_rfl) ?_
        refine TX.ef (listed' := #[true, true, true, true, false]) [1, 1, 1, 1, 1, 1, 1, 1, 1] rfl (Ef.call (rest := [.own Y32 (lc 30 R6.List), .box B1 24 [V_aX0, strV aX.From, strV aX.To, .int .i64 aX.At], .box B12 28 [Y11, strV R9.1.From, strV R9.1.To, .int .i64 R9.1.At], .box B13 30 [strV R9.2.1.Key, strV R9.2.1.Val], .box B15 28 [Y14, strV R6.From, strV R6.To, .int .i64 R6.At], .box B19 28 [Y18, strV R16.1.From, strV R16.1.To, .int .i64 R16.1.At], .box B20 30 [strV R16.2.1.Key, strV R16.2.1.Val], .own Y11 (lc 30 R9.1.List), .own Y14 (lc 30 R6.List), .own Y18 (lc 30 R16.1.List)]) [0, 0, 0, 0, 0, 0, 0, 0, 0, 0] (laws_eqIter_con R6 R6 Y14 Y32 R33 H34) kc13 rfl rfl ⟨(Can.own 8 rfl), (Can.own 0 rfl), trivial⟩) rfl rfl rfl rfl (fun _ => rfl) (fun _ => ?_)
        refine TA.y (listed' := #[true, true, true, true, true]) 4 [1, 1, 1, 1, 1, 1, 1, 1, 1] rfl (Y.not rfl) rfl rfl rfl (by kernel_rfl) (by kernel_rfl) (by kernel_rfl) rfl rfl ?_
        refine TA.nil (by kernel_rfl) ?_
        refine TE.next ?_
        refine TW.cond rfl (fun H36 => ?_) (fun H36 => ?_)
        · refine TW.seq ?_
          refine TW.region ?_
          refine TO.y (Y.assign rfl) rfl rfl rfl ?_
          refine TO.nil ?_
          refine TE.next ?_
          refine TW.ret ?_
          refine TE.then_ret ?_
          exact TE.leaf fun _ _ hf_ hs_ => ret_any (rs := [.tmp 2]) (vs := [.bool false]) (.inl rfl) rfl ⟨rfl, trivial⟩ hf_ hs_ ⟨(), rfl, hs_.pulls [] rfl⟩
        · refine TW.skip ?_
          refine TE.next ?_
          refine TW.seq ?_
          refine TW.region ?_
          refine TO.y (Y.assign rfl) rfl rfl rfl ?_
          refine TO.nil ?_
          refine TE.next ?_
          refine TW.seq ?_
          refine TW.region ?_
          refine TO.y (Y.load_box (v := .agg #[Y14, strV R6.From, strV R6.To, .int .i64 R6.At]) 4 kk28 rfl rfl rfl) rfl rfl rfl ?_
          refine TO.y (Y.move rfl) rfl rfl rfl ?_
          refine TO.bind fun R37 H38 => ?_
          refine TO.ef (Ef.call (rest := [.own Y32 (lc 30 R6.List), .box B1 24 [V_aX0, strV aX.From, strV aX.To, .int .i64 aX.At], .box B12 28 [Y11, strV R9.1.From, strV R9.1.To, .int .i64 R9.1.At], .box B13 30 [strV R9.2.1.Key, strV R9.2.1.Val], .box B15 28 [Y14, strV R6.From, strV R6.To, .int .i64 R6.At], .box B19 28 [Y18, strV R16.1.From, strV R16.1.To, .int .i64 R16.1.At], .box B20 30 [strV R16.2.1.Key, strV R16.2.1.Val], .own Y11 (lc 30 R9.1.List), .own Y18 (lc 30 R16.1.List)]) [8, 0, 0, 0, 0, 0, 0, 0, 0, 0] (laws_markIter_con R6 (1 : Int) Y14 R37 H38) kc15 rfl rfl trivial) rfl rfl rfl (fun _ => ?_)
          refine TO.y (Y.assign rfl) rfl rfl rfl ?_
          refine TO.nil ?_
          refine TE.next ?_
          refine TW.seq ?_
          refine TW.seq ?_
          refine TW.joinBX (τ := Bool) (X := Unit) (fun T _ => [(1, .pointer (some ⟨B1, 0, none⟩)), (4, .pointer (some ⟨B12, 0, none⟩)), (5, .pointer (some ⟨B13, 0, none⟩)), (6, .bool R9.2.2), (8, .pointer (some ⟨B19, 0, none⟩)), (78, .bool T)]) (fun _ _ => [.box B1 24 [V_aX0, strV aX.From, strV aX.To, .int .i64 aX.At], .box B12 28 [Y11, strV R9.1.From, strV R9.1.To, .int .i64 R9.1.At], .box B13 30 [strV R9.2.1.Key, strV R9.2.1.Val], .box B19 28 [Y18, strV R16.1.From, strV R16.1.To, .int .i64 R16.1.At], .own Y11 (lc 30 R9.1.List), .own Y18 (lc 30 R16.1.List)]) ?_ (fun T40 X41 => ?_)
          · refine TW.region ?_
            refine TO.y (Y.move rfl) rfl rfl rfl ?_
            refine TO.y (Y.lss rfl rfl) rfl rfl rfl ?_
            refine TO.y (Y.move rfl) rfl rfl rfl ?_
            refine TO.ite (b := decide (R37.1 < (0 : Int))) (fun H42 => ?_) (fun H42 => ?_)
            · refine TO.off (Gd.at 2 false 62 (decide (R37.1 < (0 : Int))) rfl rfl rfl (beq_tf H42)) rfl rfl ?_
              refine TO.off (Gd.at 2 false 62 (decide (R37.1 < (0 : Int))) rfl rfl rfl (beq_tf H42)) rfl rfl ?_
              refine TO.off (Gd.at 2 false 62 (decide (R37.1 < (0 : Int))) rfl rfl rfl (beq_tf H42)) rfl rfl ?_
              refine TO.off (Gd.at 2 false 62 (decide (R37.1 < (0 : Int))) rfl rfl rfl (beq_tf H42)) rfl rfl ?_
              refine TO.y (Y.pick_t H42 rfl rfl) rfl rfl rfl ?_
              refine TO.y (Y.move rfl) rfl rfl rfl ?_
              refine TO.off (Gd.at 8 false 68 true rfl rfl rfl rfl) rfl rfl ?_
              refine TO.off (Gd.at 8 false 68 true rfl rfl rfl rfl) rfl rfl ?_
              refine TO.off (Gd.at 8 false 68 true rfl rfl rfl rfl) rfl rfl ?_
              refine TO.off (Gd.at 8 false 68 true rfl rfl rfl rfl) rfl rfl ?_
              refine TO.y (Y.pick_t rfl rfl rfl) rfl rfl rfl ?_
              refine TO.y (Y.move rfl) rfl rfl rfl ?_
              refine TO.off (Gd.at 14 false 74 true rfl rfl rfl rfl) rfl rfl ?_
              refine TO.off (Gd.at 14 false 74 true rfl rfl rfl rfl) rfl rfl ?_
              refine TO.off (Gd.at 14 false 74 true rfl rfl rfl rfl) rfl rfl ?_
              refine TO.y (Y.pick_t rfl rfl rfl) rfl rfl rfl ?_
              refine TO.nil ?_
              exact TE.jb_go () [2, 2, 2, 3, 4, 4] ⟨rfl, rfl, rfl, rfl, rfl, rfl, trivial⟩ rfl
            · refine TO.y (Y.load_box (v := .agg #[Y18, strV R16.1.From, strV R16.1.To, .int .i64 R16.1.At]) 6 kk28 rfl rfl rfl) (Gd.at 2 false 62 (decide (R37.1 < (0 : Int))) rfl rfl rfl (beq_ff H42)) rfl rfl ?_
              refine TO.y (Y.load_box (v := .agg #[Y11, strV R9.1.From, strV R9.1.To, .int .i64 R9.1.At]) 3 kk28 rfl rfl rfl) (Gd.at 2 false 62 (decide (R37.1 < (0 : Int))) rfl rfl rfl (beq_ff H42)) rfl rfl ?_
              refine TO.bind fun R43 H44 => ?_
              refine TO.ef (Ef.call (rest := [.own Y14 (lc 30 R37.2), .own Y32 (lc 30 R6.List), .box B1 24 [V_aX0, strV aX.From, strV aX.To, .int .i64 aX.At], .box B12 28 [Y11, strV R9.1.From, strV R9.1.To, .int .i64 R9.1.At], .box B13 30 [strV R9.2.1.Key, strV R9.2.1.Val], .box B15 28 [Y14, strV R6.From, strV R6.To, .int .i64 R6.At], .box B19 28 [Y18, strV R16.1.From, strV R16.1.To, .int .i64 R16.1.At], .box B20 30 [strV R16.2.1.Key, strV R16.2.1.Val], .own Y11 (lc 30 R9.1.List), .own Y18 (lc 30 R16.1.List)]) [0, 0, 0, 0, 0, 0, 0, 0, 0, 0] (laws_eqIter_con R16.1 R9.1 Y18 Y11 R43 H44) kc13 rfl rfl ⟨(Can.own 9 rfl), (Can.own 8 rfl), trivial⟩) (Gd.at 2 false 62 (decide (R37.1 < (0 : Int))) rfl rfl rfl (beq_ff H42)) rfl rfl (fun _ => ?_)
              refine TO.y (Y.not rfl) (Gd.at 2 false 62 (decide (R37.1 < (0 : Int))) rfl rfl rfl (beq_ff H42)) rfl rfl ?_
              refine TO.y (Y.pick_f H42 rfl rfl) rfl rfl rfl ?_
              refine TO.y (Y.move rfl) rfl rfl rfl ?_
              refine TO.ite (b := !R43) (fun H46 => ?_) (fun H46 => ?_)
              · refine TO.off (Gd.at 8 false 68 (!R43) rfl rfl rfl (beq_tf H46)) rfl rfl ?_
                refine TO.off (Gd.at 8 false 68 (!R43) rfl rfl rfl (beq_tf H46)) rfl rfl ?_
                refine TO.off (Gd.at 8 false 68 (!R43) rfl rfl rfl (beq_tf H46)) rfl rfl ?_
                refine TO.off (Gd.at 8 false 68 (!R43) rfl rfl rfl (beq_tf H46)) rfl rfl ?_
                refine TO.y (Y.pick_t H46 rfl rfl) rfl rfl rfl ?_
                refine TO.y (Y.move rfl) rfl rfl rfl ?_
                refine TO.off (Gd.at 14 false 74 true rfl rfl rfl rfl) rfl rfl ?_
                refine TO.off (Gd.at 14 false 74 true rfl rfl rfl rfl) rfl rfl ?_
                refine TO.off (Gd.at 14 false 74 true rfl rfl rfl rfl) rfl rfl ?_
                refine TO.y (Y.pick_t rfl rfl rfl) rfl rfl rfl ?_
                refine TO.nil ?_
                exact TE.jb_go () [2, 2, 2, 3, 4, 4] ⟨rfl, rfl, rfl, rfl, rfl, rfl, trivial⟩ rfl
              · refine TO.y (Y.load_box (v := .agg #[strV R16.2.1.Key, strV R16.2.1.Val]) 7 kk30 rfl rfl rfl) (Gd.at 8 false 68 (!R43) rfl rfl rfl (beq_ff H46)) rfl rfl ?_
                refine TO.y (Y.load_box (v := .agg #[strV R9.2.1.Key, strV R9.2.1.Val]) 4 kk30 rfl rfl rfl) (Gd.at 8 false 68 (!R43) rfl rfl rfl (beq_ff H46)) rfl rfl ?_
                refine TO.bind fun R47 H48 => ?_
                refine TO.ef (Ef.call (rest := [.own Y14 (lc 30 R37.2), .own Y32 (lc 30 R6.List), .box B1 24 [V_aX0, strV aX.From, strV aX.To, .int .i64 aX.At], .box B12 28 [Y11, strV R9.1.From, strV R9.1.To, .int .i64 R9.1.At], .box B13 30 [strV R9.2.1.Key, strV R9.2.1.Val], .box B15 28 [Y14, strV R6.From, strV R6.To, .int .i64 R6.At], .box B19 28 [Y18, strV R16.1.From, strV R16.1.To, .int .i64 R16.1.At], .box B20 30 [strV R16.2.1.Key, strV R16.2.1.Val], .own Y11 (lc 30 R9.1.List), .own Y18 (lc 30 R16.1.List)]) [0, 0, 0, 0, 0, 0, 0, 0, 0, 0] (laws_eqKV_con R16.2.1 R9.2.1  R47 H48) kc14 rfl rfl trivial) (Gd.at 8 false 68 (!R43) rfl rfl rfl (beq_ff H46)) rfl rfl (fun _ => ?_)
                refine TO.y (Y.not rfl) (Gd.at 8 false 68 (!R43) rfl rfl rfl (beq_ff H46)) rfl rfl ?_
                refine TO.y (Y.pick_f H46 rfl rfl) rfl rfl rfl ?_
                refine TO.y (Y.move rfl) rfl rfl rfl ?_
                refine TO.ite (b := !R47) (fun H50 => ?_) (fun H50 => ?_)
                · refine TO.off (Gd.at 14 false 74 (!R47) rfl rfl rfl (beq_tf H50)) rfl rfl ?_
                  refine TO.off (Gd.at 14 false 74 (!R47) rfl rfl rfl (beq_tf H50)) rfl rfl ?_
                  refine TO.off (Gd.at 14 false 74 (!R47) rfl rfl rfl (beq_tf H50)) rfl rfl ?_
                  refine TO.y (Y.pick_t H50 rfl rfl) rfl rfl rfl ?_
                  refine TO.nil ?_
                  exact TE.jb_go () [2, 2, 2, 3, 4, 4] ⟨rfl, rfl, rfl, rfl, rfl, rfl, trivial⟩ rfl
                · refine TO.y (Y.move rfl) (Gd.at 14 false 74 (!R47) rfl rfl rfl (beq_ff H50)) rfl rfl ?_
                  refine TO.y (Y.move rfl) (Gd.at 14 false 74 (!R47) rfl rfl rfl (beq_ff H50)) rfl rfl ?_
                  refine TO.y (Y.neb kb4 rfl rfl) (Gd.at 14 false 74 (!R47) rfl rfl rfl (beq_ff H50)) rfl rfl ?_
                  refine TO.y (Y.pick_f H50 rfl rfl) rfl rfl rfl ?_
                  refine TO.nil ?_
                  exact TE.jb_go () [2, 2, 2, 3, 4, 4] ⟨rfl, rfl, rfl, rfl, rfl, rfl, trivial⟩ rfl
          · refine TE.next ?_
            refine TW.cond rfl (fun H51 => ?_) (fun H51 => ?_)
            · refine TW.seq ?_
              refine TW.region ?_
              refine TO.y (Y.assign rfl) rfl rfl rfl ?_
              refine TO.nil ?_
              refine TE.next ?_
              refine TW.ret ?_
              refine TE.then_ret ?_
              exact TE.leaf fun _ _ hf_ hs_ => ret_any (rs := [.tmp 2]) (vs := [.bool false]) (.inl rfl) rfl ⟨rfl, trivial⟩ hf_ hs_ ⟨(), rfl, hs_.pulls [] rfl⟩
            · refine TW.skip ?_
              refine TE.next ?_
              refine TW.seq ?_
              refine TW.region ?_
              refine TO.y (Y.assign rfl) rfl rfl rfl ?_
              refine TO.nil ?_
              refine TE.next ?_
              refine TW.seq ?_
              refine TW.region ?_
              refine TO.y (Y.load_box (v := .agg #[Y18, strV R16.1.From, strV R16.1.To, .int .i64 R16.1.At]) 3 kk28 rfl rfl rfl) rfl rfl rfl ?_
              refine TO.y (Y.move rfl) rfl rfl rfl ?_
              refine TO.bind fun R52 H53 => ?_
              refine TO.ef (Ef.call (rest := [.box B1 24 [V_aX0, strV aX.From, strV aX.To, .int .i64 aX.At], .box B12 28 [Y11, strV R9.1.From, strV R9.1.To, .int .i64 R9.1.At], .box B13 30 [strV R9.2.1.Key, strV R9.2.1.Val], .box B19 28 [Y18, strV R16.1.From, strV R16.1.To, .int .i64 R16.1.At], .own Y11 (lc 30 R9.1.List)]) [5, 0, 0, 0, 0, 0] (laws_markIter_con R16.1 (1 : Int) Y18 R52 H53) kc15 rfl rfl trivial) rfl rfl rfl (fun _ => ?_)
              refine TO.y (Y.assign rfl) rfl rfl rfl ?_
              refine TO.nil ?_
              refine TE.next ?_
              refine TW.seq ?_
              refine TW.region ?_
              refine TO.y (Y.assign rfl) rfl rfl rfl ?_
              refine TO.nil ?_
              refine TE.next ?_
              refine TW.seq ?_
              refine TW.region ?_
              refine TO.y (Y.load_box (v := .agg #[Y18, strV R16.1.From, strV R16.1.To, .int .i64 R16.1.At]) 4 kk28 rfl rfl rfl) rfl rfl rfl ?_
              refine TO.y (Y.move rfl) rfl rfl rfl ?_
              refine TO.bind fun R55 H56 => ?_
              refine TO.ef (Ef.call (rest := [.own Y18 (lc 30 R52.2), .box B1 24 [V_aX0, strV aX.From, strV aX.To, .int .i64 aX.At], .box B12 28 [Y11, strV R9.1.From, strV R9.1.To, .int .i64 R9.1.At], .box B13 30 [strV R9.2.1.Key, strV R9.2.1.Val], .box B19 28 [Y18, strV R16.1.From, strV R16.1.To, .int .i64 R16.1.At], .own Y11 (lc 30 R9.1.List)]) [0, 0, 0, 0, 0, 0] (laws_heldIter_con ({ List := R52.2, From := R16.1.From, To := R16.1.To, At := R16.1.At : Iter }) (1 : Int) Y18 R55 H56) kc16 rfl rfl ⟨(Can.own 0 rfl), trivial⟩) rfl rfl rfl (fun _ => ?_)
              refine TO.y (Y.assign rfl) rfl rfl rfl ?_
              refine TO.nil ?_
              refine TE.next ?_
              refine TW.seq ?_
              refine TW.seq ?_
              refine TW.region ?_
              refine TO.y (Y.move rfl) rfl rfl rfl ?_
              refine TO.y (Y.lss rfl rfl) rfl rfl rfl ?_
              refine TO.nil ?_
              refine TE.next ?_
              refine TW.cond rfl (fun H58 => ?_) (fun H58 => ?_)
              · refine TW.seq ?_
                refine TW.region ?_
                refine TO.y (Y.assign rfl) rfl rfl rfl ?_
                refine TO.nil ?_
                refine TE.next ?_
                refine TW.ret ?_
                refine TE.then_ret ?_
                exact TE.leaf fun _ _ hf_ hs_ => ret_any (rs := [.tmp 2]) (vs := [.bool false]) (.inl rfl) rfl ⟨rfl, trivial⟩ hf_ hs_ ⟨(), rfl, hs_.pulls [] rfl⟩
              · refine TW.skip ?_
                refine TE.next ?_
                refine TW.seq ?_
                refine TW.seq ?_
                refine TW.region ?_
                refine TO.y (Y.move rfl) rfl rfl rfl ?_
                refine TO.y (Y.move rfl) rfl rfl rfl ?_
                refine TO.y (Y.neq rfl rfl) rfl rfl rfl ?_
                refine TO.nil ?_
                refine TE.next ?_
                refine TW.cond rfl (fun H59 => ?_) (fun H59 => ?_)
                · refine TW.seq ?_
                  refine TW.region ?_
                  refine TO.y (Y.assign rfl) rfl rfl rfl ?_
                  refine TO.nil ?_
                  refine TE.next ?_
                  refine TW.ret ?_
                  refine TE.then_ret ?_
                  exact TE.leaf fun _ _ hf_ hs_ => ret_any (rs := [.tmp 2]) (vs := [.bool false]) (.inl rfl) rfl ⟨rfl, trivial⟩ hf_ hs_ ⟨(), rfl, hs_.pulls [] rfl⟩
                · refine TW.skip ?_
                  refine TE.next ?_
                  refine TW.seq ?_
                  refine TW.region ?_
                  refine TO.y (Y.load_box (v := .agg #[V_aX0, strV aX.From, strV aX.To, .int .i64 aX.At]) 1 kk24 rfl rfl rfl) rfl rfl rfl ?_
                  refine TO.ef (Ef.call (rest := [.own Y18 (lc 30 R52.2), .box B1 24 [V_aX0, strV aX.From, strV aX.To, .int .i64 aX.At], .box B12 28 [Y11, strV R9.1.From, strV R9.1.To, .int .i64 R9.1.At], .box B13 30 [strV R9.2.1.Key, strV R9.2.1.Val], .box B19 28 [Y18, strV R16.1.From, strV R16.1.To, .int .i64 R16.1.At], .own Y11 (lc 30 R9.1.List)]) [0, 0, 0, 0, 0, 0] (laws_toIter_con aX V_aX0 R6 H7) kc11 rfl rfl ⟨(Base.can HB_V_aX0), trivial⟩) rfl rfl rfl (fun Y60 => ?_)
                  refine TO.ef (Ef.call (rest := [.own Y60 (lc 30 R6.List), .own Y18 (lc 30 R52.2), .box B1 24 [V_aX0, strV aX.From, strV aX.To, .int .i64 aX.At], .box B12 28 [Y11, strV R9.1.From, strV R9.1.To, .int .i64 R9.1.At], .box B13 30 [strV R9.2.1.Key, strV R9.2.1.Val], .box B19 28 [Y18, strV R16.1.From, strV R16.1.To, .int .i64 R16.1.At], .own Y11 (lc 30 R9.1.List)]) [0, 0, 0, 0, 0, 0, 0] (impl_IterPrev_con R6 Y60 R16 H17) kc18 rfl rfl ⟨(Can.own 0 rfl), trivial⟩) rfl rfl rfl (fun Y61 => ?_)
                  refine TO.y (Y.move rfl) rfl rfl rfl ?_
                  refine TO.y (Y.extract rfl rfl) rfl rfl rfl ?_
                  refine TO.y (Y.extract rfl rfl) rfl rfl rfl ?_
                  refine TO.y (Y.extract rfl rfl) rfl rfl rfl ?_
                  refine TO.ef (Ef.alloc kz28 rfl) rfl rfl rfl (fun B62 => ?_)
                  refine TO.ef (Ef.alloc kz30 rfl) rfl rfl rfl (fun B63 => ?_)
                  refine TO.ef0 (Ef.store_box (us := [Y61, strV R16.1.From, strV R16.1.To, .int .i64 R16.1.At]) (vs' := [Y61, strV R16.1.From, strV R16.1.To, .int .i64 R16.1.At]) (is' := [.box B63 30 [strV ([]), strV ([])], .box B62 28 [Y61, strV R16.1.From, strV R16.1.To, .int .i64 R16.1.At], .own Y61 (lc 30 R16.1.List), .own Y60 (lc 30 R6.List), .own Y18 (lc 30 R52.2), .box B1 24 [V_aX0, strV aX.From, strV aX.To, .int .i64 aX.At], .box B12 28 [Y11, strV R9.1.From, strV R9.1.To, .int .i64 R9.1.At], .box B13 30 [strV R9.2.1.Key, strV R9.2.1.Val], .box B19 28 [Y18, strV R16.1.From, strV R16.1.To, .int .i64 R16.1.At], .own Y11 (lc 30 R9.1.List)]) 1 kk28 rfl rfl rfl (Cel.agg ⟨(One.can (Can.own 2 rfl)), (One.plain rfl), (One.plain rfl), (One.plain rfl), trivial⟩) rfl rfl rfl rfl) rfl rfl (fun _ => ?_)
                  refine TO.ef0 (Ef.store_box (us := [strV R16.2.1.Key, strV R16.2.1.Val]) (vs' := [strV R16.2.1.Key, strV R16.2.1.Val]) (is' := [.box B63 30 [strV R16.2.1.Key, strV R16.2.1.Val], .box B62 28 [Y61, strV R16.1.From, strV R16.1.To, .int .i64 R16.1.At], .own Y61 (lc 30 R16.1.List), .own Y60 (lc 30 R6.List), .own Y18 (lc 30 R52.2), .box B1 24 [V_aX0, strV aX.From, strV aX.To, .int .i64 aX.At], .box B12 28 [Y11, strV R9.1.From, strV R9.1.To, .int .i64 R9.1.At], .box B13 30 [strV R9.2.1.Key, strV R9.2.1.Val], .box B19 28 [Y18, strV R16.1.From, strV R16.1.To, .int .i64 R16.1.At], .own Y11 (lc 30 R9.1.List)]) 0 kk30 rfl rfl rfl (Cel.plain rfl rfl) rfl rfl rfl rfl) rfl rfl (fun _ => ?_)
                  refine TO.y (Y.assign rfl) rfl rfl rfl ?_
                  refine TO.nil ?_
                  refine TE.next ?_
                  refine TW.seq ?_
                  refine TW.seq ?_
                  refine TW.joinBX (τ := Bool) (X := Unit) (fun T _ => [(8, .pointer (some ⟨B19, 0, none⟩)), (12, .int .i64 R52.1), (111, .bool T)]) (fun _ _ => [.box B19 28 [Y18, strV R16.1.From, strV R16.1.To, .int .i64 R16.1.At], .own Y18 (lc 30 R52.2)]) ?_ (fun T64 X65 => ?_)
                  · refine TW.region ?_
                    refine TO.y (Y.load_box (v := .agg #[Y61, strV R16.1.From, strV R16.1.To, .int .i64 R16.1.At]) 1 kk28 rfl rfl rfl) rfl rfl rfl ?_
                    refine TO.y (Y.load_box (v := .agg #[Y11, strV R9.1.From, strV R9.1.To, .int .i64 R9.1.At]) 6 kk28 rfl rfl rfl) rfl rfl rfl ?_
                    refine TO.bind fun R66 H67 => ?_
                    refine TO.ef (Ef.call (rest := [.box B63 30 [strV R16.2.1.Key, strV R16.2.1.Val], .box B62 28 [Y61, strV R16.1.From, strV R16.1.To, .int .i64 R16.1.At], .own Y61 (lc 30 R16.1.List), .own Y60 (lc 30 R6.List), .own Y18 (lc 30 R52.2), .box B1 24 [V_aX0, strV aX.From, strV aX.To, .int .i64 aX.At], .box B12 28 [Y11, strV R9.1.From, strV R9.1.To, .int .i64 R9.1.At], .box B13 30 [strV R9.2.1.Key, strV R9.2.1.Val], .box B19 28 [Y18, strV R16.1.From, strV R16.1.To, .int .i64 R16.1.At], .own Y11 (lc 30 R9.1.List)]) [0, 0, 0, 0, 0, 0, 0, 0, 0, 0] (laws_eqIter_con R16.1 R9.1 Y61 Y11 R66 H67) kc13 rfl rfl ⟨(Can.own 2 rfl), (Can.own 9 rfl), trivial⟩) rfl rfl rfl (fun _ => ?_)
                    refine TO.y (Y.not rfl) rfl rfl rfl ?_
                    refine TO.y (Y.move rfl) rfl rfl rfl ?_
                    refine TO.ite (b := !R66) (fun H69 => ?_) (fun H69 => ?_)
                    · refine TO.off (Gd.at 4 false 101 (!R66) rfl rfl rfl (beq_tf H69)) rfl rfl ?_
                      refine TO.off (Gd.at 4 false 101 (!R66) rfl rfl rfl (beq_tf H69)) rfl rfl ?_
                      refine TO.off (Gd.at 4 false 101 (!R66) rfl rfl rfl (beq_tf H69)) rfl rfl ?_
                      refine TO.off (Gd.at 4 false 101 (!R66) rfl rfl rfl (beq_tf H69)) rfl rfl ?_
                      refine TO.y (Y.pick_t H69 rfl rfl) rfl rfl rfl ?_
                      refine TO.y (Y.move rfl) rfl rfl rfl ?_
                      refine TO.off (Gd.at 10 false 107 true rfl rfl rfl rfl) rfl rfl ?_
                      refine TO.off (Gd.at 10 false 107 true rfl rfl rfl rfl) rfl rfl ?_
                      refine TO.off (Gd.at 10 false 107 true rfl rfl rfl rfl) rfl rfl ?_
                      refine TO.y (Y.pick_t rfl rfl rfl) rfl rfl rfl ?_
                      refine TO.nil ?_
                      exact TE.jb_go () [8, 4] ⟨rfl, rfl, rfl, trivial⟩ rfl
                    · refine TO.y (Y.load_box (v := .agg #[strV R16.2.1.Key, strV R16.2.1.Val]) 0 kk30 rfl rfl rfl) (Gd.at 4 false 101 (!R66) rfl rfl rfl (beq_ff H69)) rfl rfl ?_
                      refine TO.y (Y.load_box (v := .agg #[strV R9.2.1.Key, strV R9.2.1.Val]) 7 kk30 rfl rfl rfl) (Gd.at 4 false 101 (!R66) rfl rfl rfl (beq_ff H69)) rfl rfl ?_
                      refine TO.bind fun R70 H71 => ?_
                      refine TO.ef (Ef.call (rest := [.box B63 30 [strV R16.2.1.Key, strV R16.2.1.Val], .box B62 28 [Y61, strV R16.1.From, strV R16.1.To, .int .i64 R16.1.At], .own Y61 (lc 30 R16.1.List), .own Y60 (lc 30 R6.List), .own Y18 (lc 30 R52.2), .box B1 24 [V_aX0, strV aX.From, strV aX.To, .int .i64 aX.At], .box B12 28 [Y11, strV R9.1.From, strV R9.1.To, .int .i64 R9.1.At], .box B13 30 [strV R9.2.1.Key, strV R9.2.1.Val], .box B19 28 [Y18, strV R16.1.From, strV R16.1.To, .int .i64 R16.1.At], .own Y11 (lc 30 R9.1.List)]) [0, 0, 0, 0, 0, 0, 0, 0, 0, 0] (laws_eqKV_con R16.2.1 R9.2.1  R70 H71) kc14 rfl rfl trivial) (Gd.at 4 false 101 (!R66) rfl rfl rfl (beq_ff H69)) rfl rfl (fun _ => ?_)
                      refine TO.y (Y.not rfl) (Gd.at 4 false 101 (!R66) rfl rfl rfl (beq_ff H69)) rfl rfl ?_
                      refine TO.y (Y.pick_f H69 rfl rfl) rfl rfl rfl ?_
                      refine TO.y (Y.move rfl) rfl rfl rfl ?_
                      refine TO.ite (b := !R70) (fun H73 => ?_) (fun H73 => ?_)
                      · refine TO.off (Gd.at 10 false 107 (!R70) rfl rfl rfl (beq_tf H73)) rfl rfl ?_
                        refine TO.off (Gd.at 10 false 107 (!R70) rfl rfl rfl (beq_tf H73)) rfl rfl ?_
                        refine TO.off (Gd.at 10 false 107 (!R70) rfl rfl rfl (beq_tf H73)) rfl rfl ?_
                        refine TO.y (Y.pick_t H73 rfl rfl) rfl rfl rfl ?_
                        refine TO.nil ?_
                        exact TE.jb_go () [8, 4] ⟨rfl, rfl, rfl, trivial⟩ rfl
                      · refine TO.y (Y.move rfl) (Gd.at 10 false 107 (!R70) rfl rfl rfl (beq_ff H73)) rfl rfl ?_
                        refine TO.y (Y.move rfl) (Gd.at 10 false 107 (!R70) rfl rfl rfl (beq_ff H73)) rfl rfl ?_
                        refine TO.y (Y.neb kb4 rfl rfl) (Gd.at 10 false 107 (!R70) rfl rfl rfl (beq_ff H73)) rfl rfl ?_
                        refine TO.y (Y.pick_f H73 rfl rfl) rfl rfl rfl ?_
                        refine TO.nil ?_
                        exact TE.jb_go () [8, 4] ⟨rfl, rfl, rfl, trivial⟩ rfl
                  · refine TE.next ?_
                    refine TW.cond rfl (fun H74 => ?_) (fun H74 => ?_)
                    · refine TW.seq ?_
                      refine TW.region ?_
                      refine TO.y (Y.assign rfl) rfl rfl rfl ?_
                      refine TO.nil ?_
                      refine TE.next ?_
                      refine TW.ret ?_
                      refine TE.then_ret ?_
                      exact TE.leaf fun _ _ hf_ hs_ => ret_any (rs := [.tmp 2]) (vs := [.bool false]) (.inl rfl) rfl ⟨rfl, trivial⟩ hf_ hs_ ⟨(), rfl, hs_.pulls [] rfl⟩
                    · refine TW.skip ?_
                      refine TE.next ?_
                      refine TW.seq ?_
                      refine TW.region ?_
                      refine TO.y (Y.assign rfl) rfl rfl rfl ?_
                      refine TO.nil ?_
                      refine TE.next ?_
                      refine TW.seq ?_
                      refine TW.region ?_
                      refine TO.y (Y.load_box (v := .agg #[Y18, strV R16.1.From, strV R16.1.To, .int .i64 R16.1.At]) 0 kk28 rfl rfl rfl) rfl rfl rfl ?_
                      refine TO.y (Y.move rfl) rfl rfl rfl ?_
                      refine TO.ef (Ef.call (rest := [.box B19 28 [Y18, strV R16.1.From, strV R16.1.To, .int .i64 R16.1.At], .own Y18 (lc 30 R52.2)]) [0, 0] (laws_heldIter_con ({ List := R52.2, From := R16.1.From, To := R16.1.To, At := R16.1.At : Iter }) (1 : Int) Y18 R55 H56) kc16 rfl rfl ⟨(Can.own 1 rfl), trivial⟩) rfl rfl rfl (fun _ => ?_)
                      refine TO.y (Y.assign rfl) rfl rfl rfl ?_
                      refine TO.nil ?_
                      refine TE.next ?_
                      refine TW.seq ?_
                      refine TW.seq ?_
                      refine TW.region ?_
                      refine TO.y (Y.move rfl) rfl rfl rfl ?_
                      refine TO.y (Y.lss rfl rfl) rfl rfl rfl ?_
                      refine TO.nil ?_
                      refine TE.next ?_
                      refine TW.cond rfl (fun H76 => ?_) (fun H76 => ?_)
                      · refine TW.seq ?_
                        refine TW.region ?_
                        refine TO.y (Y.assign rfl) rfl rfl rfl ?_
                        refine TO.nil ?_
                        refine TE.next ?_
                        refine TW.ret ?_
                        refine TE.then_ret ?_
                        exact TE.leaf fun _ _ hf_ hs_ => ret_any (rs := [.tmp 2]) (vs := [.bool false]) (.inl rfl) rfl ⟨rfl, trivial⟩ hf_ hs_ ⟨(), rfl, hs_.pulls [] rfl⟩
                      · refine TW.skip ?_
                        refine TE.next ?_
                        refine TW.seq ?_
                        refine TW.seq ?_
                        refine TW.region ?_
                        refine TO.y (Y.move rfl) rfl rfl rfl ?_
                        refine TO.y (Y.move rfl) rfl rfl rfl ?_
                        refine TO.y (Y.neq rfl rfl) rfl rfl rfl ?_
                        refine TO.nil ?_
                        refine TE.next ?_
                        refine TW.cond rfl (fun H77 => ?_) (fun H77 => ?_)
                        · refine TW.seq ?_
                          refine TW.region ?_
                          refine TO.y (Y.assign rfl) rfl rfl rfl ?_
                          refine TO.nil ?_
                          refine TE.next ?_
                          refine TW.ret ?_
                          refine TE.then_ret ?_
                          exact TE.leaf fun _ _ hf_ hs_ => ret_any (rs := [.tmp 2]) (vs := [.bool false]) (.inl rfl) rfl ⟨rfl, trivial⟩ hf_ hs_ ⟨(), rfl, hs_.pulls [] rfl⟩
                        · refine TW.skip ?_
                          refine TE.next ?_
                          refine TW.seq ?_
                          refine TW.region ?_
                          refine TO.y (Y.assign rfl) rfl rfl rfl ?_
                          refine TO.nil ?_
                          refine TE.next ?_
                          refine TW.ret ?_
                          exact TE.leaf fun _ _ hf_ hs_ => ret_any (rs := [.tmp 2]) (vs := [.bool true]) (.inl rfl) rfl ⟨rfl, trivial⟩ hf_ hs_ ⟨(), rfl, hs_.pulls [] rfl⟩

/-- loop.example/g00950/spec.IterSeek -/
noncomputable def spec_IterSeek (x : Iter) (key : List UInt8) : Option (Iter × KV × Bool) :=
  (spec_IterOk x).bind fun R4 =>
  if (!R4) = true then (some ({ List := ([] : List KV), From := [], To := [], At := (0 : Int) : Iter }, { Key := [], Val := [] : KV }, false))
  else ((spec_l14Go x (0 : Int) (1 : Int) key).bind fun R9 =>
  some (R9.1, R9.2.1, R9.2.2))

theorem spec_IterSeek_con (x : Iter) (key : List UInt8) (V_x0 : Value) (r : Iter × KV × Bool) (hm : spec_IterSeek x key = some r) :
    Con Try.prog 19 [.agg #[V_x0, strV x.From, strV x.To, .int .i64 x.At], strV key] [] [(V_x0, lc 30 x.List)] (fun X : Value => .tuple #[.agg #[X, strV r.1.From, strV r.1.To, .int .i64 r.1.At], .agg #[strV r.2.1.Key, strV r.2.1.Val], .bool r.2.2]) (fun X => [.own X (lc 30 r.1.List)]) := by
  refine Con.intro (args := [.agg #[V_x0, strV x.From, strV x.To, .int .i64 x.At], strV key]) (n := 25) (val := fun r (X : Value) => .tuple #[.agg #[X, strV r.1.From, strV r.1.To, .int .i64 r.1.At], .agg #[strV r.2.1.Key, strV r.2.1.Val], .bool r.2.2]) (post := fun r X => [.own X (lc 30 r.1.List)]) (m := spec_IterSeek x key) Try.func19 rfl rfl rfl hm ?_
  intro w S hrd
  have HB_V_x0 := hrd _ (.head _)
  clear hrd
  unfold spec_IterSeek
  refine TW.seq ?_
  refine TW.region ?_
  refine TO.ef (Ef.box rfl (Cel.agg ⟨(One.can (Base.can HB_V_x0)), (One.plain rfl), (One.plain rfl), (One.plain rfl), trivial⟩)) rfl rfl rfl (fun B1 => ?_)
  refine TO.ef (Ef.alloc kz28 rfl) rfl rfl rfl (fun B2 => ?_)
  refine TO.ef (Ef.alloc kz30 rfl) rfl rfl rfl (fun B3 => ?_)
  refine TO.y (Y.assign rfl) rfl rfl rfl ?_
  refine TO.nil ?_
  refine TE.next ?_
  refine TW.seq ?_
  refine TW.seq ?_
  refine TW.region ?_
  refine TO.y (Y.load_box (v := .agg #[V_x0, strV x.From, strV x.To, .int .i64 x.At]) 2 kk28 rfl rfl rfl) rfl rfl rfl ?_
  refine TO.bind fun R4 H5 => ?_
  refine TO.ef (Ef.call (rest := [.box B3 30 [strV ([]), strV ([])], .box B2 28 [.slice none 0 0, strV ([]), strV ([]), .int .i64 (0 : Int)], .box B1 28 [V_x0, strV x.From, strV x.To, .int .i64 x.At]]) [0, 0, 0] (spec_IterOk_con x V_x0 R4 H5) kc36 rfl rfl ⟨(Base.can HB_V_x0), trivial⟩) rfl rfl rfl (fun _ => ?_)
  refine TO.y (Y.not rfl) rfl rfl rfl ?_
  refine TO.nil ?_
  refine TE.next ?_
  refine TW.cond rfl (fun H7 => ?_) (fun H7 => ?_)
  · refine TW.seq ?_
    refine TW.region ?_
    refine TO.y (Y.build (cells := [.slice none 0 0, strV ([]), strV ([]), .int .i64 (0 : Int)]) [] kp28 kz28 trivial rfl) rfl rfl rfl ?_
    refine TO.y (Y.build (cells := [strV ([]), strV ([])]) [] kp30 kz30 trivial rfl) rfl rfl rfl ?_
    refine TO.ef0 (Ef.store_box (us := [.slice none 0 0, strV ([]), strV ([]), .int .i64 (0 : Int)]) (vs' := [.slice none 0 0, strV ([]), strV ([]), .int .i64 (0 : Int)]) (is' := [.box B3 30 [strV ([]), strV ([])], .box B2 28 [.slice none 0 0, strV ([]), strV ([]), .int .i64 (0 : Int)], .box B1 28 [V_x0, strV x.From, strV x.To, .int .i64 x.At]]) 1 kk28 rfl rfl rfl (Cel.plain rfl rfl) rfl rfl rfl rfl) rfl rfl (fun _ => ?_)
    refine TO.ef0 (Ef.store_box (us := [strV ([]), strV ([])]) (vs' := [strV ([]), strV ([])]) (is' := [.box B3 30 [strV ([]), strV ([])], .box B2 28 [.slice none 0 0, strV ([]), strV ([]), .int .i64 (0 : Int)], .box B1 28 [V_x0, strV x.From, strV x.To, .int .i64 x.At]]) 0 kk30 rfl rfl rfl (Cel.plain rfl rfl) rfl rfl rfl rfl) rfl rfl (fun _ => ?_)
    refine TO.y (Y.assign rfl) rfl rfl rfl ?_
    refine TO.nil ?_
    refine TE.next ?_
    refine TW.ret ?_
    refine TE.then_ret ?_
    exact TE.leaf fun _ _ hf_ hs_ => ret_any (rs := [.cell 4 28, .cell 5 30, .tmp 6]) (vs := [.agg #[.slice none 0 0, strV ([]), strV ([]), .int .i64 (0 : Int)], .agg #[strV ([]), strV ([])], .bool false]) (.inl rfl) rfl (RV.cell 1 rfl rfl kk28 rfl (RV.cell 0 rfl rfl kk30 rfl ⟨rfl, trivial⟩)) hf_ hs_ ⟨(.slice none 0 0), rfl, (hs_.nilItem 30 2).pulls [0] rfl⟩
  · refine TW.skip ?_
    refine TE.next ?_
    refine TW.seq ?_
    refine TW.region ?_
    refine TO.y (Y.load_box (v := .agg #[V_x0, strV x.From, strV x.To, .int .i64 x.At]) 2 kk28 rfl rfl rfl) rfl rfl rfl ?_
    refine TO.y (Y.move rfl) rfl rfl rfl ?_
    refine TO.bind fun R9 H10 => ?_
    refine TO.ef (Ef.call (rest := [.box B3 30 [strV ([]), strV ([])], .box B2 28 [.slice none 0 0, strV ([]), strV ([]), .int .i64 (0 : Int)], .box B1 28 [V_x0, strV x.From, strV x.To, .int .i64 x.At]]) [0, 0, 0] (spec_l14Go_con x (0 : Int) (1 : Int) key V_x0 R9 H10) kc37 rfl rfl ⟨(Base.can HB_V_x0), trivial⟩) rfl rfl rfl (fun Y11 => ?_)
    refine TO.y (Y.move rfl) rfl rfl rfl ?_
    refine TO.y (Y.extract rfl rfl) rfl rfl rfl ?_
    refine TO.y (Y.extract rfl rfl) rfl rfl rfl ?_
    refine TO.y (Y.extract rfl rfl) rfl rfl rfl ?_
    refine TO.ef (Ef.alloc kz28 rfl) rfl rfl rfl (fun B12 => ?_)
    refine TO.ef (Ef.alloc kz30 rfl) rfl rfl rfl (fun B13 => ?_)
    refine TO.ef0 (Ef.store_box (us := [Y11, strV R9.1.From, strV R9.1.To, .int .i64 R9.1.At]) (vs' := [Y11, strV R9.1.From, strV R9.1.To, .int .i64 R9.1.At]) (is' := [.box B13 30 [strV ([]), strV ([])], .box B12 28 [Y11, strV R9.1.From, strV R9.1.To, .int .i64 R9.1.At], .own Y11 (lc 30 R9.1.List), .box B3 30 [strV ([]), strV ([])], .box B2 28 [.slice none 0 0, strV ([]), strV ([]), .int .i64 (0 : Int)], .box B1 28 [V_x0, strV x.From, strV x.To, .int .i64 x.At]]) 1 kk28 rfl rfl rfl (Cel.agg ⟨(One.can (Can.own 2 rfl)), (One.plain rfl), (One.plain rfl), (One.plain rfl), trivial⟩) rfl rfl rfl rfl) rfl rfl (fun _ => ?_)
    refine TO.ef0 (Ef.store_box (us := [strV R9.2.1.Key, strV R9.2.1.Val]) (vs' := [strV R9.2.1.Key, strV R9.2.1.Val]) (is' := [.box B13 30 [strV R9.2.1.Key, strV R9.2.1.Val], .box B12 28 [Y11, strV R9.1.From, strV R9.1.To, .int .i64 R9.1.At], .own Y11 (lc 30 R9.1.List), .box B3 30 [strV ([]), strV ([])], .box B2 28 [.slice none 0 0, strV ([]), strV ([]), .int .i64 (0 : Int)], .box B1 28 [V_x0, strV x.From, strV x.To, .int .i64 x.At]]) 0 kk30 rfl rfl rfl (Cel.plain rfl rfl) rfl rfl rfl rfl) rfl rfl (fun _ => ?_)
    refine TO.y (Y.assign rfl) rfl rfl rfl ?_
    refine TO.nil ?_
    refine TE.next ?_
    refine TW.seq ?_
    refine TW.draw (isH := [.box B13 30 [strV R9.2.1.Key, strV R9.2.1.Val], .box B12 28 [Y11, strV R9.1.From, strV R9.1.To, .int .i64 R9.1.At], .own Y11 (lc 30 R9.1.List), .box B1 28 [V_x0, strV x.From, strV x.To, .int .i64 x.At]]) hMix ?_
    refine TA.y (listed' := #[true, false, false, false, false, false]) 0 [0, 0, 0, 2] rfl (Y.load_box (v := .agg #[Y11, strV R9.1.From, strV R9.1.To, .int .i64 R9.1.At]) 1 kk28 rfl rfl rfl) rfl rfl rfl (by kernel_rfl) (by kernel_rfl) (by kernel_rfl) rfl rfl ?_
    refine TA.y (listed' := #[true, true, false, false, false, false]) 1 [0, 0, 0, 2] rfl (Y.load_box (v := .agg #[strV R9.2.1.Key, strV R9.2.1.Val]) 0 kk30 rfl rfl rfl) rfl rfl rfl (by kernel_rfl) (by kernel_rfl) (by kernel_rfl) rfl rfl ?_
    refine TA.y (listed' := #[true, true, true, false, false, false]) 2 [0, 0, 0, 2] rfl (Y.move rfl) rfl rfl rfl (by kernel_rfl) (by kernel_rfl) (by kernel_rfl) rfl rfl ?_
    refine TA.one 3 (by kernel_rfl) ?_
    refine TX.ef0 (listed' := #[true, true, true, true, false, false]) [0, 0, 0, 2] rfl (Ef.store_box (us := [Y11, strV R9.1.From, strV R9.1.To, .int .i64 R9.1.At]) (vs' := [Y11, strV R9.1.From, strV R9.1.To, .int .i64 R9.1.At]) (is' := [.box B13 30 [strV R9.2.1.Key, strV R9.2.1.Val], .box B12 28 [Y11, strV R9.1.From, strV R9.1.To, .int .i64 R9.1.At], .own Y11 (lc 30 R9.1.List), .box B3 30 [strV ([]), strV ([])], .box B2 28 [Y11, strV R9.1.From, strV R9.1.To, .int .i64 R9.1.At], .box B1 28 [V_x0, strV x.From, strV x.To, .int .i64 x.At]]) 4 kk28 rfl rfl rfl (Cel.agg ⟨(One.can (Can.own 2 rfl)), (One.plain rfl), (One.plain rfl), (One.plain rfl), trivial⟩) rfl rfl rfl rfl) rfl rfl rfl (fun _ => rfl) (fun _ => ?_)
    refine TA.one 4 (by kernel_rfl) ?_
    refine TX.ef0 (listed' := #[true, true, true, true, true, false]) [0, 0, 0, 2] rfl (Ef.store_box (us := [strV R9.2.1.Key, strV R9.2.1.Val]) (vs' := [strV R9.2.1.Key, strV R9.2.1.Val]) (is' := [.box B13 30 [strV R9.2.1.Key, strV R9.2.1.Val], .box B12 28 [Y11, strV R9.1.From, strV R9.1.To, .int .i64 R9.1.At], .own Y11 (lc 30 R9.1.List), .box B3 30 [strV R9.2.1.Key, strV R9.2.1.Val], .box B2 28 [Y11, strV R9.1.From, strV R9.1.To, .int .i64 R9.1.At], .box B1 28 [V_x0, strV x.From, strV x.To, .int .i64 x.At]]) 3 kk30 rfl rfl rfl (Cel.plain rfl rfl) rfl rfl rfl rfl) rfl rfl rfl (fun _ => rfl) (fun _ => ?_)
    refine TA.y (listed' := #[true, true, true, true, true, true]) 5 [0, 0, 0, 2] rfl (Y.assign rfl) rfl rfl rfl (by kernel_rfl) (by kernel_rfl) (by kernel_rfl) rfl rfl ?_
    refine TA.nil (by kernel_rfl) ?_
    refine TE.next ?_
    refine TW.ret ?_
    exact TE.leaf fun _ _ hf_ hs_ => ret_any (rs := [.cell 4 28, .cell 5 30, .tmp 6]) (vs := [.agg #[Y11, strV R9.1.From, strV R9.1.To, .int .i64 R9.1.At], .agg #[strV R9.2.1.Key, strV R9.2.1.Val], .bool R9.2.2]) (.inl rfl) rfl (RV.cell 4 rfl rfl kk28 rfl (RV.cell 3 rfl rfl kk30 rfl ⟨rfl, trivial⟩)) hf_ hs_ ⟨Y11, rfl, hs_.pulls [2] rfl⟩

/-- loop.example/g00950/impl.IterSeek -/
noncomputable def impl_IterSeek (x : Iter) (key : List UInt8) : Option (Iter × KV × Bool) :=
  (impl_IterOk x).bind fun R4 =>
  if (!R4) = true then (some ({ List := ([] : List KV), From := [], To := [], At := (0 : Int) : Iter }, { Key := [], Val := [] : KV }, false))
  else (bindC (loopO (fun (S9 : Int) => (if (decide (S9 < ((x.List.length : Nat) : Int))) = true then ((idx x.List S9).bind fun E16 =>
  if (sLt E16.Key key) = true then (some true)
  else ((impl_Iter_isWithin x S9).bind fun R19 =>
  some (!R19)))
  else (some false)).bind (fun (T13 : Bool) =>
  if T13 = true then (some (.go (IntKind.i64.wrap (S9 + (1 : Int)))))
  else (some (.done (.go S9)))))
  (0 : Int))
  (fun (T11 : Int) => (impl_moveTo x T11).bind fun R23 =>
  some (R23.1, R23.2.1, R23.2.2)))

theorem impl_IterSeek_con (x : Iter) (key : List UInt8) (V_x0 : Value) (r : Iter × KV × Bool) (hm : impl_IterSeek x key = some r) :
    Con Try.prog 20 [.agg #[V_x0, strV x.From, strV x.To, .int .i64 x.At], strV key] [] [(V_x0, lc 30 x.List)] (fun X : Value => .tuple #[.agg #[X, strV r.1.From, strV r.1.To, .int .i64 r.1.At], .agg #[strV r.2.1.Key, strV r.2.1.Val], .bool r.2.2]) (fun X => [.own X (lc 30 r.1.List)]) := by
  refine Con.intro (args := [.agg #[V_x0, strV x.From, strV x.To, .int .i64 x.At], strV key]) (n := 42) (val := fun r (X : Value) => .tuple #[.agg #[X, strV r.1.From, strV r.1.To, .int .i64 r.1.At], .agg #[strV r.2.1.Key, strV r.2.1.Val], .bool r.2.2]) (post := fun r X => [.own X (lc 30 r.1.List)]) (m := impl_IterSeek x key) Try.func20 rfl rfl rfl hm ?_
  intro w S hrd
  have HB_V_x0 := hrd _ (.head _)
  clear hrd
  unfold impl_IterSeek
  refine TW.seq ?_
  refine TW.region ?_
  refine TO.ef (Ef.box rfl (Cel.agg ⟨(One.can (Base.can HB_V_x0)), (One.plain rfl), (One.plain rfl), (One.plain rfl), trivial⟩)) rfl rfl rfl (fun B1 => ?_)
  refine TO.ef (Ef.alloc kz28 rfl) rfl rfl rfl (fun B2 => ?_)
  refine TO.ef (Ef.alloc kz30 rfl) rfl rfl rfl (fun B3 => ?_)
  refine TO.y (Y.assign rfl) rfl rfl rfl ?_
  refine TO.nil ?_
  refine TE.next ?_
  refine TW.seq ?_
  refine TW.seq ?_
  refine TW.region ?_
  refine TO.y (Y.load_box (v := .agg #[V_x0, strV x.From, strV x.To, .int .i64 x.At]) 2 kk28 rfl rfl rfl) rfl rfl rfl ?_
  refine TO.bind fun R4 H5 => ?_
  refine TO.ef (Ef.call (rest := [.box B3 30 [strV ([]), strV ([])], .box B2 28 [.slice none 0 0, strV ([]), strV ([]), .int .i64 (0 : Int)], .box B1 28 [V_x0, strV x.From, strV x.To, .int .i64 x.At]]) [0, 0, 0] (impl_IterOk_con x V_x0 R4 H5) kc39 rfl rfl ⟨(Base.can HB_V_x0), trivial⟩) rfl rfl rfl (fun _ => ?_)
  refine TO.y (Y.not rfl) rfl rfl rfl ?_
  refine TO.nil ?_
  refine TE.next ?_
  refine TW.cond rfl (fun H7 => ?_) (fun H7 => ?_)
  · refine TW.seq ?_
    refine TW.region ?_
    refine TO.y (Y.build (cells := [.slice none 0 0, strV ([]), strV ([]), .int .i64 (0 : Int)]) [] kp28 kz28 trivial rfl) rfl rfl rfl ?_
    refine TO.y (Y.build (cells := [strV ([]), strV ([])]) [] kp30 kz30 trivial rfl) rfl rfl rfl ?_
    refine TO.ef0 (Ef.store_box (us := [.slice none 0 0, strV ([]), strV ([]), .int .i64 (0 : Int)]) (vs' := [.slice none 0 0, strV ([]), strV ([]), .int .i64 (0 : Int)]) (is' := [.box B3 30 [strV ([]), strV ([])], .box B2 28 [.slice none 0 0, strV ([]), strV ([]), .int .i64 (0 : Int)], .box B1 28 [V_x0, strV x.From, strV x.To, .int .i64 x.At]]) 1 kk28 rfl rfl rfl (Cel.plain rfl rfl) rfl rfl rfl rfl) rfl rfl (fun _ => ?_)
    refine TO.ef0 (Ef.store_box (us := [strV ([]), strV ([])]) (vs' := [strV ([]), strV ([])]) (is' := [.box B3 30 [strV ([]), strV ([])], .box B2 28 [.slice none 0 0, strV ([]), strV ([]), .int .i64 (0 : Int)], .box B1 28 [V_x0, strV x.From, strV x.To, .int .i64 x.At]]) 0 kk30 rfl rfl rfl (Cel.plain rfl rfl) rfl rfl rfl rfl) rfl rfl (fun _ => ?_)
    refine TO.y (Y.assign rfl) rfl rfl rfl ?_
    refine TO.nil ?_
    refine TE.next ?_
    refine TW.ret ?_
    refine TE.then_ret ?_
    exact TE.leaf fun _ _ hf_ hs_ => ret_any (rs := [.cell 4 28, .cell 5 30, .tmp 6]) (vs := [.agg #[.slice none 0 0, strV ([]), strV ([]), .int .i64 (0 : Int)], .agg #[strV ([]), strV ([])], .bool false]) (.inl rfl) rfl (RV.cell 1 rfl rfl kk28 rfl (RV.cell 0 rfl rfl kk30 rfl ⟨rfl, trivial⟩)) hf_ hs_ ⟨(.slice none 0 0), rfl, (hs_.nilItem 30 2).pulls [0] rfl⟩
  · refine TW.skip ?_
    refine TE.next ?_
    refine TW.seq ?_
    refine TW.region ?_
    refine TO.y (Y.assign rfl) rfl rfl rfl ?_
    refine TO.nil ?_
    refine TE.next ?_
    refine TW.seq ?_
    refine TW.joinX (τ := Int) (X := Unit) (fun T _ => [(2, .pointer (some ⟨B1, 0, none⟩)), (4, .pointer (some ⟨B2, 0, none⟩)), (5, .pointer (some ⟨B3, 0, none⟩)), (7, .int .i64 T)]) (fun _ _ => [.box B1 28 [V_x0, strV x.From, strV x.To, .int .i64 x.At], .box B2 28 [.slice none 0 0, strV ([]), strV ([]), .int .i64 (0 : Int)], .box B3 30 [strV ([]), strV ([])]]) ?_ (fun T11 X12 => ?_)
    · refine TW.block ?_
      refine TW.loopX (σ := Int) (X := Unit) (fun T _ => [(1, strV key), (2, .pointer (some ⟨B1, 0, none⟩)), (4, .pointer (some ⟨B2, 0, none⟩)), (5, .pointer (some ⟨B3, 0, none⟩)), (7, .int .i64 T)]) (fun _ _ => [.box B1 28 [V_x0, strV x.From, strV x.To, .int .i64 x.At], .box B2 28 [.slice none 0 0, strV ([]), strV ([]), .int .i64 (0 : Int)], .box B3 30 [strV ([]), strV ([])]]) () [2, 1, 0] ⟨rfl, rfl, rfl, rfl, rfl, trivial⟩ rfl (fun S9 X10 => ?_)
      refine TW.seq ?_
      refine TW.seq ?_
      refine TW.joinBX (τ := Bool) (X := Unit) (fun T _ => [(1, strV key), (2, .pointer (some ⟨B1, 0, none⟩)), (4, .pointer (some ⟨B2, 0, none⟩)), (5, .pointer (some ⟨B3, 0, none⟩)), (7, .int .i64 S9), (33, .bool T)]) (fun _ _ => [.box B1 28 [V_x0, strV x.From, strV x.To, .int .i64 x.At], .box B2 28 [.slice none 0 0, strV ([]), strV ([]), .int .i64 (0 : Int)], .box B3 30 [strV ([]), strV ([])]]) ?_ (fun T13 X14 => ?_)
      · refine TW.region ?_
        refine TO.y (Y.move rfl) rfl rfl rfl ?_
        refine TO.y (Y.field_box kf28_0 rfl rfl) rfl rfl rfl ?_
        refine TO.y (Y.load_box (v := V_x0) 0 kk26 rfl rfl rfl) rfl rfl rfl ?_
        refine TO.y (Y.len (l := x.List) ke26 (Base.can HB_V_x0) rfl) rfl rfl rfl ?_
        refine TO.y (Y.lss rfl rfl) rfl rfl rfl ?_
        refine TO.y (Y.move rfl) rfl rfl rfl ?_
        refine TO.ite (b := decide (S9 < ((x.List.length : Nat) : Int))) (fun H15 => ?_) (fun H15 => ?_)
        · refine TO.y (Y.field_box kf28_0 rfl rfl) (Gd.at 5 true 18 (decide (S9 < ((x.List.length : Nat) : Int))) rfl rfl rfl (beq_tt H15)) rfl rfl ?_
          refine TO.y (Y.load_box (v := V_x0) 0 kk26 rfl rfl rfl) (Gd.at 5 true 18 (decide (S9 < ((x.List.length : Nat) : Int))) rfl rfl rfl (beq_tt H15)) rfl rfl ?_
          refine TO.y (Y.move rfl) (Gd.at 5 true 18 (decide (S9 < ((x.List.length : Nat) : Int))) rfl rfl rfl (beq_tt H15)) rfl rfl ?_
          refine TO.bind fun E16 H17 => ?_
          refine TO.y (Y.index ke26 (Base.can HB_V_x0) H17 rfl rfl) (Gd.at 5 true 18 (decide (S9 < ((x.List.length : Nat) : Int))) rfl rfl rfl (beq_tt H15)) rfl rfl ?_
          refine TO.y (Y.field_el kf30_0 (Base.can HB_V_x0) (idx_get H17).2.2 rfl rfl) (Gd.at 5 true 18 (decide (S9 < ((x.List.length : Nat) : Int))) rfl rfl rfl (beq_tt H15)) rfl rfl ?_
          refine TO.y (Y.load_el (us := [strV E16.Key]) (u := strV E16.Key) kk9 rfl (Base.can HB_V_x0) (idx_get H17).2.2 rfl rfl rfl rfl rfl) (Gd.at 5 true 18 (decide (S9 < ((x.List.length : Nat) : Int))) rfl rfl rfl (beq_tt H15)) rfl rfl ?_
          refine TO.y (Y.move rfl) (Gd.at 5 true 18 (decide (S9 < ((x.List.length : Nat) : Int))) rfl rfl rfl (beq_tt H15)) rfl rfl ?_
          refine TO.y (Y.slss rfl rfl) (Gd.at 5 true 18 (decide (S9 < ((x.List.length : Nat) : Int))) rfl rfl rfl (beq_tt H15)) rfl rfl ?_
          refine TO.y (Y.move rfl) (Gd.at 5 true 18 (decide (S9 < ((x.List.length : Nat) : Int))) rfl rfl rfl (beq_tt H15)) rfl rfl ?_
          refine TO.ite (b := sLt E16.Key key) (fun H18 => ?_) (fun H18 => ?_)
          · refine TO.off (Gd.at 14 false 27 (sLt E16.Key key) rfl rfl rfl (beq_tf H18)) rfl rfl ?_
            refine TO.off (Gd.at 14 false 27 (sLt E16.Key key) rfl rfl rfl (beq_tf H18)) rfl rfl ?_
            refine TO.off (Gd.at 14 false 27 (sLt E16.Key key) rfl rfl rfl (beq_tf H18)) rfl rfl ?_
            refine TO.off (Gd.at 14 false 27 (sLt E16.Key key) rfl rfl rfl (beq_tf H18)) rfl rfl ?_
            refine TO.y (Y.pick_t H18 rfl rfl) (Gd.at 5 true 18 (decide (S9 < ((x.List.length : Nat) : Int))) rfl rfl rfl (beq_tt H15)) rfl rfl ?_
            refine TO.y (Y.pick_t H15 rfl rfl) rfl rfl rfl ?_
            refine TO.nil ?_
            exact TE.jb_go () [0, 0, 0] ⟨rfl, rfl, rfl, rfl, rfl, rfl, trivial⟩ rfl
          · refine TO.y (Y.load_box (v := .agg #[V_x0, strV x.From, strV x.To, .int .i64 x.At]) 0 kk28 rfl rfl rfl) (Gd.at 14 false 27 (sLt E16.Key key) rfl rfl rfl (beq_ff H18)) rfl rfl ?_
            refine TO.y (Y.move rfl) (Gd.at 14 false 27 (sLt E16.Key key) rfl rfl rfl (beq_ff H18)) rfl rfl ?_
            refine TO.bind fun R19 H20 => ?_
            refine TO.ef (Ef.call (rest := [.box B1 28 [V_x0, strV x.From, strV x.To, .int .i64 x.At], .box B2 28 [.slice none 0 0, strV ([]), strV ([]), .int .i64 (0 : Int)], .box B3 30 [strV ([]), strV ([])]]) [0, 0, 0] (impl_Iter_isWithin_con x S9 V_x0 R19 H20) kc40 rfl rfl ⟨(Base.can HB_V_x0), trivial⟩) (Gd.at 14 false 27 (sLt E16.Key key) rfl rfl rfl (beq_ff H18)) rfl rfl (fun _ => ?_)
            refine TO.y (Y.not rfl) (Gd.at 14 false 27 (sLt E16.Key key) rfl rfl rfl (beq_ff H18)) rfl rfl ?_
            refine TO.y (Y.pick_f H18 rfl rfl) (Gd.at 5 true 18 (decide (S9 < ((x.List.length : Nat) : Int))) rfl rfl rfl (beq_tt H15)) rfl rfl ?_
            refine TO.y (Y.pick_t H15 rfl rfl) rfl rfl rfl ?_
            refine TO.nil ?_
            exact TE.jb_go () [0, 0, 0] ⟨rfl, rfl, rfl, rfl, rfl, rfl, trivial⟩ rfl
        · refine TO.off (Gd.at 5 true 18 (decide (S9 < ((x.List.length : Nat) : Int))) rfl rfl rfl (beq_ft H15)) rfl rfl ?_
          refine TO.off (Gd.at 5 true 18 (decide (S9 < ((x.List.length : Nat) : Int))) rfl rfl rfl (beq_ft H15)) rfl rfl ?_
          refine TO.off (Gd.at 5 true 18 (decide (S9 < ((x.List.length : Nat) : Int))) rfl rfl rfl (beq_ft H15)) rfl rfl ?_
          refine TO.off (Gd.at 5 true 18 (decide (S9 < ((x.List.length : Nat) : Int))) rfl rfl rfl (beq_ft H15)) rfl rfl ?_
          refine TO.off (Gd.at 5 true 18 (decide (S9 < ((x.List.length : Nat) : Int))) rfl rfl rfl (beq_ft H15)) rfl rfl ?_
          refine TO.off (Gd.at 5 true 18 (decide (S9 < ((x.List.length : Nat) : Int))) rfl rfl rfl (beq_ft H15)) rfl rfl ?_
          refine TO.off (Gd.at 5 true 18 (decide (S9 < ((x.List.length : Nat) : Int))) rfl rfl rfl (beq_ft H15)) rfl rfl ?_
          refine TO.off (Gd.at 5 true 18 (decide (S9 < ((x.List.length : Nat) : Int))) rfl rfl rfl (beq_ft H15)) rfl rfl ?_
          refine TO.off (Gd.at 5 true 18 (decide (S9 < ((x.List.length : Nat) : Int))) rfl rfl rfl (beq_ft H15)) rfl rfl ?_
          refine TO.off (Gd.un 14 false 27 rfl rfl rfl) rfl rfl ?_
          refine TO.off (Gd.un 14 false 27 rfl rfl rfl) rfl rfl ?_
          refine TO.off (Gd.un 14 false 27 rfl rfl rfl) rfl rfl ?_
          refine TO.off (Gd.un 14 false 27 rfl rfl rfl) rfl rfl ?_
          refine TO.off (Gd.at 5 true 18 (decide (S9 < ((x.List.length : Nat) : Int))) rfl rfl rfl (beq_ft H15)) rfl rfl ?_
          refine TO.y (Y.pick_f H15 rfl rfl) rfl rfl rfl ?_
          refine TO.nil ?_
          exact TE.jb_go () [0, 0, 0] ⟨rfl, rfl, rfl, rfl, rfl, rfl, trivial⟩ rfl
      · refine TE.next ?_
        refine TW.cond rfl (fun H22 => ?_) (fun H22 => ?_)
        · refine TW.skip ?_
          refine TE.next ?_
          refine TW.block ?_
          refine TW.region ?_
          refine TO.y (Y.move rfl) rfl rfl rfl ?_
          refine TO.y (Y.add rfl rfl) rfl rfl rfl ?_
          refine TO.y (Y.assign rfl) rfl rfl rfl ?_
          refine TO.nil ?_
          refine TE.block_normal ?_
          exact TE.lp_go () [0, 0, 0] ⟨rfl, rfl, rfl, rfl, rfl, trivial⟩ rfl
        · refine TW.exit ?_
          refine TE.then_exit ?_
          refine TE.lp_exit ?_
          refine TE.block_exit ?_
          exact TE.jn_go () [0, 0, 0] ⟨rfl, rfl, rfl, rfl, trivial⟩ rfl
    · refine TE.next ?_
      refine TW.seq ?_
      refine TW.region ?_
      refine TO.y (Y.load_box (v := .agg #[V_x0, strV x.From, strV x.To, .int .i64 x.At]) 0 kk28 rfl rfl rfl) rfl rfl rfl ?_
      refine TO.y (Y.move rfl) rfl rfl rfl ?_
      refine TO.bind fun R23 H24 => ?_
      refine TO.ef (Ef.call (rest := [.box B1 28 [V_x0, strV x.From, strV x.To, .int .i64 x.At], .box B2 28 [.slice none 0 0, strV ([]), strV ([]), .int .i64 (0 : Int)], .box B3 30 [strV ([]), strV ([])]]) [0, 0, 0] (impl_moveTo_con x T11 V_x0 R23 H24) kc41 rfl rfl ⟨(Base.can HB_V_x0), trivial⟩) rfl rfl rfl (fun Y25 => ?_)
      refine TO.y (Y.extract rfl rfl) rfl rfl rfl ?_
      refine TO.y (Y.extract rfl rfl) rfl rfl rfl ?_
      refine TO.y (Y.extract rfl rfl) rfl rfl rfl ?_
      refine TO.ef0 (Ef.store_box (us := [Y25, strV R23.1.From, strV R23.1.To, .int .i64 R23.1.At]) (vs' := [Y25, strV R23.1.From, strV R23.1.To, .int .i64 R23.1.At]) (is' := [.own Y25 (lc 30 R23.1.List), .box B1 28 [V_x0, strV x.From, strV x.To, .int .i64 x.At], .box B2 28 [Y25, strV R23.1.From, strV R23.1.To, .int .i64 R23.1.At], .box B3 30 [strV ([]), strV ([])]]) 2 kk28 rfl rfl rfl (Cel.agg ⟨(One.can (Can.own 0 rfl)), (One.plain rfl), (One.plain rfl), (One.plain rfl), trivial⟩) rfl rfl rfl rfl) rfl rfl (fun _ => ?_)
      refine TO.ef0 (Ef.store_box (us := [strV R23.2.1.Key, strV R23.2.1.Val]) (vs' := [strV R23.2.1.Key, strV R23.2.1.Val]) (is' := [.own Y25 (lc 30 R23.1.List), .box B1 28 [V_x0, strV x.From, strV x.To, .int .i64 x.At], .box B2 28 [Y25, strV R23.1.From, strV R23.1.To, .int .i64 R23.1.At], .box B3 30 [strV R23.2.1.Key, strV R23.2.1.Val]]) 3 kk30 rfl rfl rfl (Cel.plain rfl rfl) rfl rfl rfl rfl) rfl rfl (fun _ => ?_)
      refine TO.y (Y.assign rfl) rfl rfl rfl ?_
      refine TO.nil ?_
      refine TE.next ?_
      refine TW.ret ?_
      exact TE.leaf fun _ _ hf_ hs_ => ret_any (rs := [.cell 4 28, .cell 5 30, .tmp 6]) (vs := [.agg #[Y25, strV R23.1.From, strV R23.1.To, .int .i64 R23.1.At], .agg #[strV R23.2.1.Key, strV R23.2.1.Val], .bool R23.2.2]) (.inl rfl) rfl (RV.cell 2 rfl rfl kk28 rfl (RV.cell 3 rfl rfl kk30 rfl ⟨rfl, trivial⟩)) hf_ hs_ ⟨Y25, rfl, hs_.pulls [0] rfl⟩

end Go.Proofs.Ytpfndjojoikkgab
