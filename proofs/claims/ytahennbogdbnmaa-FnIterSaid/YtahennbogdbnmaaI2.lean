/-
  The functions that a law reaches, each as a pure function, with the proof that the program computes it, and the step from a pure law to the given statement. Conditions: none.
-/
import Derived.Test.YtahennbogdbnmaaI1
set_option linter.unusedVariables false
set_option maxRecDepth 100000
set_option maxHeartbeats 4000000
namespace Go.Proofs.Ytahennbogdbnmaa
open Go Sl

/-- (loop.example/g00950/impl.Iter).isWithin -/
noncomputable def impl_Iter_isWithin (x : Iter) (at_ : Int) : Option Bool :=
  (idx x.List at_).bind fun E2 =>
  (impl_within E2.Key x.From x.To).bind fun R4 =>
  some R4

theorem impl_Iter_isWithin_con (x : Iter) (at_ : Int) (V_x0 : Value) (r : Bool) (hm : impl_Iter_isWithin x at_ = some r) :
    Con Try.prog 39 [.agg #[V_x0, strV x.From, strV x.To, .int .i64 x.At], .int .i64 at_] [] [(V_x0, lc x.List)] (fun _ : Unit => .bool r) (fun _ => []) := by
  refine Con.intro (args := [.agg #[V_x0, strV x.From, strV x.To, .int .i64 x.At], .int .i64 at_]) (n := 16) (val := fun r (_ : Unit) => .bool r) (post := fun _ _ => []) (m := impl_Iter_isWithin x at_) Try.func39 rfl rfl rfl hm ?_
  intro w S hrd
  have HB_V_x0 := hrd _ (.head _)
  clear hrd
  unfold impl_Iter_isWithin
  refine TW.seq ?_
  refine TW.region ?_
  refine TO.ef (Ef.box rfl (Cel.agg ⟨(One.can (Base.can HB_V_x0)), (One.plain rfl), (One.plain rfl), (One.plain rfl), trivial⟩)) rfl rfl rfl (fun B1 => ?_)
  refine TO.y (Y.assign rfl) rfl rfl rfl ?_
  refine TO.nil ?_
  refine TE.next ?_
  refine TW.seq ?_
  refine TW.draw (isH := [.box B1 28 [V_x0, strV x.From, strV x.To, .int .i64 x.At]]) hMix ?_
  refine TA.y (listed' := #[true, false, false, false, false, false, false, false, false, false, false, false]) 0 [0] rfl (Y.field_box kf28_0 rfl rfl) rfl rfl rfl (by kernel_rfl) (by kernel_rfl) (by kernel_rfl) rfl rfl ?_
  refine TA.y (listed' := #[true, true, false, false, false, false, false, false, false, false, false, false]) 1 [0] rfl (Y.load_box (v := V_x0) 0 kk24 rfl rfl rfl) rfl rfl rfl (by kernel_rfl) (by kernel_rfl) (by kernel_rfl) rfl rfl ?_
  refine TA.y (listed' := #[true, true, true, false, false, false, false, false, false, false, false, false]) 2 [0] rfl (Y.move rfl) rfl rfl rfl (by kernel_rfl) (by kernel_rfl) (by kernel_rfl) rfl rfl ?_
  refine TA.bind fun E2 H3 => ?_
  refine TA.y (listed' := #[true, true, true, true, false, false, false, false, false, false, false, false]) 3 [0] rfl (Y.index ke24 (Base.can HB_V_x0) H3 rfl rfl) rfl rfl rfl (by kernel_rfl) (by kernel_rfl) (by kernel_rfl) rfl rfl ?_
  refine TA.y (listed' := #[true, true, true, true, true, false, false, false, false, false, false, false]) 4 [0] rfl (Y.field_el kf33_0 (Base.can HB_V_x0) (idx_get H3).2.2 rfl rfl) rfl rfl rfl (by kernel_rfl) (by kernel_rfl) (by kernel_rfl) rfl rfl ?_
  refine TA.y (listed' := #[true, true, true, true, true, true, false, false, false, false, false, false]) 5 [0] rfl (Y.load_el (us := [strV E2.Key]) (u := strV E2.Key) kk9 rfl (Base.can HB_V_x0) (idx_get H3).2.2 rfl rfl rfl rfl rfl) rfl rfl rfl (by kernel_rfl) (by kernel_rfl) (by kernel_rfl) rfl rfl ?_
  refine TA.y (listed' := #[true, true, true, true, true, true, true, false, false, false, false, false]) 6 [0] rfl (Y.field_box kf28_1 rfl rfl) rfl rfl rfl (by kernel_rfl) (by kernel_rfl) (by kernel_rfl) rfl rfl ?_
  refine TA.y (listed' := #[true, true, true, true, true, true, true, true, false, false, false, false]) 7 [0] rfl (Y.load_box (v := strV x.From) 0 kk9 rfl rfl rfl) rfl rfl rfl (by kernel_rfl) (by kernel_rfl) (by kernel_rfl) rfl rfl ?_
  refine TA.y (listed' := #[true, true, true, true, true, true, true, true, true, false, false, false]) 8 [0] rfl (Y.field_box kf28_2 rfl rfl) rfl rfl rfl (by kernel_rfl) (by kernel_rfl) (by kernel_rfl) rfl rfl ?_
  refine TA.y (listed' := #[true, true, true, true, true, true, true, true, true, true, false, false]) 9 [0] rfl (Y.load_box (v := strV x.To) 0 kk9 rfl rfl rfl) rfl rfl rfl (by kernel_rfl) (by kernel_rfl) (by kernel_rfl) rfl rfl ?_
  refine TA.bind fun R4 H5 => ?_
  refine TA.one 10 (by kernel_rfl) ?_
  refine TX.ef (listed' := #[true, true, true, true, true, true, true, true, true, true, true, false]) [0] rfl (Ef.call (rest := [.box B1 28 [V_x0, strV x.From, strV x.To, .int .i64 x.At]]) [0] (impl_within_con E2.Key x.From x.To  R4 H5) kc70 rfl rfl trivial) rfl rfl rfl rfl (fun _ => rfl) (fun _ => ?_)
  refine TA.y (listed' := #[true, true, true, true, true, true, true, true, true, true, true, true]) 11 [0] rfl (Y.assign rfl) rfl rfl rfl (by kernel_rfl) (by kernel_rfl) (by kernel_rfl) rfl rfl ?_
  refine TA.nil (by kernel_rfl) ?_
  refine TE.next ?_
  refine TW.ret ?_
  exact TE.leaf fun _ _ hf_ hs_ => ret_any (rs := [.tmp 4]) (vs := [.bool R4]) (.inl rfl) rfl ⟨rfl, trivial⟩ hf_ hs_ ⟨(), rfl, hs_.pulls [] rfl⟩

/-- loop.example/g00950/impl.moveTo -/
noncomputable def impl_moveTo (x : Iter) (at_ : Int) : Option (Iter × KV × Bool) :=
  (slices_Clone_74624 x.List).bind fun R4 =>
  (impl_inRange at_ (0 : Int) (IntKind.i64.wrap (((R4.length : Nat) : Int) - (1 : Int)))).bind fun R7 =>
  if (!R7) = true then (some ({ List := R4, From := x.From, To := x.To, At := at_ : Iter }, { Key := [], Val := [] : KV }, false))
  else ((idx R4 at_).bind fun E11 =>
  some ({ List := R4, From := x.From, To := x.To, At := at_ : Iter }, E11, true))

theorem impl_moveTo_con (x : Iter) (at_ : Int) (V_x0 : Value) (r : Iter × KV × Bool) (hm : impl_moveTo x at_ = some r) :
    Con Try.prog 40 [.agg #[V_x0, strV x.From, strV x.To, .int .i64 x.At], .int .i64 at_] [] [(V_x0, lc x.List)] (fun X : Value => .tuple #[.agg #[X, strV r.1.From, strV r.1.To, .int .i64 r.1.At], .agg #[strV r.2.1.Key, strV r.2.1.Val], .bool r.2.2]) (fun X => [.own X (lc r.1.List)]) := by
  refine Con.intro (args := [.agg #[V_x0, strV x.From, strV x.To, .int .i64 x.At], .int .i64 at_]) (n := 28) (val := fun r (X : Value) => .tuple #[.agg #[X, strV r.1.From, strV r.1.To, .int .i64 r.1.At], .agg #[strV r.2.1.Key, strV r.2.1.Val], .bool r.2.2]) (post := fun r X => [.own X (lc r.1.List)]) (m := impl_moveTo x at_) Try.func40 rfl rfl rfl hm ?_
  intro w S hrd
  have HB_V_x0 := hrd _ (.head _)
  clear hrd
  unfold impl_moveTo
  refine TW.seq ?_
  refine TW.region ?_
  refine TO.ef (Ef.box rfl (Cel.agg ⟨(One.can (Base.can HB_V_x0)), (One.plain rfl), (One.plain rfl), (One.plain rfl), trivial⟩)) rfl rfl rfl (fun B1 => ?_)
  refine TO.ef (Ef.alloc kz28 rfl) rfl rfl rfl (fun B2 => ?_)
  refine TO.ef (Ef.alloc kz33 rfl) rfl rfl rfl (fun B3 => ?_)
  refine TO.y (Y.assign rfl) rfl rfl rfl ?_
  refine TO.nil ?_
  refine TE.next ?_
  refine TW.seq ?_
  refine TW.region ?_
  refine TO.y (Y.field_box kf28_0 rfl rfl) rfl rfl rfl ?_
  refine TO.y (Y.load_box (v := V_x0) 2 kk24 rfl rfl rfl) rfl rfl rfl ?_
  refine TO.bind fun R4 H5 => ?_
  refine TO.ef (Ef.call (rest := [.box B3 33 [strV ([]), strV ([])], .box B2 28 [.slice none 0 0, strV ([]), strV ([]), .int .i64 (0 : Int)], .box B1 28 [V_x0, strV x.From, strV x.To, .int .i64 x.At]]) [0, 0, 0] (slices_Clone_74624_con x.List V_x0 R4 H5) kc36 rfl rfl ⟨(Base.can HB_V_x0), trivial⟩) rfl rfl rfl (fun Y6 => ?_)
  refine TO.y (Y.field_box kf28_0 rfl rfl) rfl rfl rfl ?_
  refine TO.ef0 (Ef.store_box (us := [Y6]) (vs' := [Y6, strV x.From, strV x.To, .int .i64 x.At]) (is' := [.own Y6 (lc R4), .box B3 33 [strV ([]), strV ([])], .box B2 28 [.slice none 0 0, strV ([]), strV ([]), .int .i64 (0 : Int)], .box B1 28 [Y6, strV x.From, strV x.To, .int .i64 x.At]]) 3 kk24 rfl rfl rfl (Cel.one (One.can (Can.own 0 rfl))) rfl rfl rfl rfl) rfl rfl (fun _ => ?_)
  refine TO.nil ?_
  refine TE.next ?_
  refine TW.seq ?_
  refine TW.region ?_
  refine TO.y (Y.move rfl) rfl rfl rfl ?_
  refine TO.y (Y.field_box kf28_3 rfl rfl) rfl rfl rfl ?_
  refine TO.ef0 (Ef.store_box (us := [.int .i64 at_]) (vs' := [Y6, strV x.From, strV x.To, .int .i64 at_]) (is' := [.own Y6 (lc R4), .box B3 33 [strV ([]), strV ([])], .box B2 28 [.slice none 0 0, strV ([]), strV ([]), .int .i64 (0 : Int)], .box B1 28 [Y6, strV x.From, strV x.To, .int .i64 at_]]) 3 kk3 rfl rfl rfl (Cel.plain rfl rfl) rfl rfl rfl rfl) rfl rfl (fun _ => ?_)
  refine TO.nil ?_
  refine TE.next ?_
  refine TW.seq ?_
  refine TW.seq ?_
  refine TW.region ?_
  refine TO.y (Y.move rfl) rfl rfl rfl ?_
  refine TO.y (Y.field_box kf28_0 rfl rfl) rfl rfl rfl ?_
  refine TO.y (Y.load_box (v := Y6) 3 kk24 rfl rfl rfl) rfl rfl rfl ?_
  refine TO.y (Y.len (l := R4) ke24 (Can.own 0 rfl) rfl) rfl rfl rfl ?_
  refine TO.y (Y.sub rfl rfl) rfl rfl rfl ?_
  refine TO.bind fun R7 H8 => ?_
  refine TO.ef (Ef.call (rest := [.own Y6 (lc R4), .box B3 33 [strV ([]), strV ([])], .box B2 28 [.slice none 0 0, strV ([]), strV ([]), .int .i64 (0 : Int)], .box B1 28 [Y6, strV x.From, strV x.To, .int .i64 at_]]) [0, 0, 0, 0] (impl_inRange_con at_ (0 : Int) (IntKind.i64.wrap (((R4.length : Nat) : Int) - (1 : Int)))  R7 H8) kc63 rfl rfl trivial) rfl rfl rfl (fun _ => ?_)
  refine TO.y (Y.not rfl) rfl rfl rfl ?_
  refine TO.nil ?_
  refine TE.next ?_
  refine TW.cond rfl (fun H10 => ?_) (fun H10 => ?_)
  · refine TW.seq ?_
    refine TW.region ?_
    refine TO.y (Y.load_box (v := .agg #[Y6, strV x.From, strV x.To, .int .i64 at_]) 3 kk28 rfl rfl rfl) rfl rfl rfl ?_
    refine TO.y (Y.build (cells := [strV ([]), strV ([])]) [] kp33 kz33 trivial rfl) rfl rfl rfl ?_
    refine TO.ef0 (Ef.store_box (us := [Y6, strV x.From, strV x.To, .int .i64 at_]) (vs' := [Y6, strV x.From, strV x.To, .int .i64 at_]) (is' := [.own Y6 (lc R4), .box B3 33 [strV ([]), strV ([])], .box B2 28 [Y6, strV x.From, strV x.To, .int .i64 at_], .box B1 28 [Y6, strV x.From, strV x.To, .int .i64 at_]]) 2 kk28 rfl rfl rfl (Cel.agg ⟨(One.can (Can.own 0 rfl)), (One.plain rfl), (One.plain rfl), (One.plain rfl), trivial⟩) rfl rfl rfl rfl) rfl rfl (fun _ => ?_)
    refine TO.ef0 (Ef.store_box (us := [strV ([]), strV ([])]) (vs' := [strV ([]), strV ([])]) (is' := [.own Y6 (lc R4), .box B3 33 [strV ([]), strV ([])], .box B2 28 [Y6, strV x.From, strV x.To, .int .i64 at_], .box B1 28 [Y6, strV x.From, strV x.To, .int .i64 at_]]) 1 kk33 rfl rfl rfl (Cel.plain rfl rfl) rfl rfl rfl rfl) rfl rfl (fun _ => ?_)
    refine TO.y (Y.assign rfl) rfl rfl rfl ?_
    refine TO.nil ?_
    refine TE.next ?_
    refine TW.ret ?_
    refine TE.then_ret ?_
    exact TE.leaf fun _ _ hf_ hs_ => ret_any (rs := [.cell 4 28, .cell 5 33, .tmp 6]) (vs := [.agg #[Y6, strV x.From, strV x.To, .int .i64 at_], .agg #[strV ([]), strV ([])], .bool false]) (.inl rfl) rfl (RV.cell 2 rfl rfl kk28 rfl (RV.cell 1 rfl rfl kk33 rfl ⟨rfl, trivial⟩)) hf_ hs_ ⟨Y6, rfl, hs_.pulls [0] rfl⟩
  · refine TW.skip ?_
    refine TE.next ?_
    refine TW.seq ?_
    refine TW.draw (isH := [.own Y6 (lc R4), .box B1 28 [Y6, strV x.From, strV x.To, .int .i64 at_]]) hMix ?_
    refine TA.y (listed' := #[true, false, false, false, false, false, false, false, false]) 0 [0, 2] rfl (Y.load_box (v := .agg #[Y6, strV x.From, strV x.To, .int .i64 at_]) 1 kk28 rfl rfl rfl) rfl rfl rfl (by kernel_rfl) (by kernel_rfl) (by kernel_rfl) rfl rfl ?_
    refine TA.y (listed' := #[true, true, false, false, false, false, false, false, false]) 1 [0, 2] rfl (Y.field_box kf28_0 rfl rfl) rfl rfl rfl (by kernel_rfl) (by kernel_rfl) (by kernel_rfl) rfl rfl ?_
    refine TA.y (listed' := #[true, true, true, false, false, false, false, false, false]) 2 [0, 2] rfl (Y.load_box (v := Y6) 1 kk24 rfl rfl rfl) rfl rfl rfl (by kernel_rfl) (by kernel_rfl) (by kernel_rfl) rfl rfl ?_
    refine TA.y (listed' := #[true, true, true, true, false, false, false, false, false]) 3 [0, 2] rfl (Y.move rfl) rfl rfl rfl (by kernel_rfl) (by kernel_rfl) (by kernel_rfl) rfl rfl ?_
    refine TA.bind fun E11 H12 => ?_
    refine TA.y (listed' := #[true, true, true, true, true, false, false, false, false]) 4 [0, 2] rfl (Y.index ke24 (Can.own 0 rfl) H12 rfl rfl) rfl rfl rfl (by kernel_rfl) (by kernel_rfl) (by kernel_rfl) rfl rfl ?_
    refine TA.y (listed' := #[true, true, true, true, true, true, false, false, false]) 5 [0, 2] rfl (Y.load_el (us := [strV E11.Key, strV E11.Val]) (u := .agg #[strV E11.Key, strV E11.Val]) kk33 rfl (Can.own 0 rfl) (idx_get H12).2.2 rfl rfl rfl rfl rfl) rfl rfl rfl (by kernel_rfl) (by kernel_rfl) (by kernel_rfl) rfl rfl ?_
    refine TA.one 6 (by kernel_rfl) ?_
    refine TX.ef0 (listed' := #[true, true, true, true, true, true, true, false, false]) [0, 2] rfl (Ef.store_box (us := [Y6, strV x.From, strV x.To, .int .i64 at_]) (vs' := [Y6, strV x.From, strV x.To, .int .i64 at_]) (is' := [.own Y6 (lc R4), .box B3 33 [strV ([]), strV ([])], .box B2 28 [Y6, strV x.From, strV x.To, .int .i64 at_], .box B1 28 [Y6, strV x.From, strV x.To, .int .i64 at_]]) 2 kk28 rfl rfl rfl (Cel.agg ⟨(One.can (Can.own 0 rfl)), (One.plain rfl), (One.plain rfl), (One.plain rfl), trivial⟩) rfl rfl rfl rfl) rfl rfl rfl (fun _ => rfl) (fun _ => ?_)
    refine TA.one 7 (by kernel_rfl) ?_
    refine TX.ef0 (listed' := #[true, true, true, true, true, true, true, true, false]) [0, 2] rfl (Ef.store_box (us := [strV E11.Key, strV E11.Val]) (vs' := [strV E11.Key, strV E11.Val]) (is' := [.own Y6 (lc R4), .box B3 33 [strV E11.Key, strV E11.Val], .box B2 28 [Y6, strV x.From, strV x.To, .int .i64 at_], .box B1 28 [Y6, strV x.From, strV x.To, .int .i64 at_]]) 1 kk33 rfl rfl rfl (Cel.plain rfl rfl) rfl rfl rfl rfl) rfl rfl rfl (fun _ => rfl) (fun _ => ?_)
    refine TA.y (listed' := #[true, true, true, true, true, true, true, true, true]) 8 [0, 2] rfl (Y.assign rfl) rfl rfl rfl (by kernel_rfl) (by kernel_rfl) (by kernel_rfl) rfl rfl ?_
    refine TA.nil (by kernel_rfl) ?_
    refine TE.next ?_
    refine TW.ret ?_
    exact TE.leaf fun _ _ hf_ hs_ => ret_any (rs := [.cell 4 28, .cell 5 33, .tmp 6]) (vs := [.agg #[Y6, strV x.From, strV x.To, .int .i64 at_], .agg #[strV E11.Key, strV E11.Val], .bool true]) (.inl rfl) rfl (RV.cell 2 rfl rfl kk28 rfl (RV.cell 1 rfl rfl kk33 rfl ⟨rfl, trivial⟩)) hf_ hs_ ⟨Y6, rfl, hs_.pulls [0] rfl⟩

/-- loop.example/g00950/impl.IterNext -/
noncomputable def impl_IterNext (x : Iter) : Option (Iter × KV × Bool) :=
  (impl_IterOk x).bind fun R4 =>
  if (!R4) = true then (some ({ List := ([] : List KV), From := [], To := [], At := (0 : Int) : Iter }, { Key := [], Val := [] : KV }, false))
  else (bindC (loopO (fun (S9 : Int) => (if (decide (S9 < ((x.List.length : Nat) : Int))) = true then ((impl_Iter_isWithin x S9).bind fun R16 =>
  some (!R16))
  else (some false)).bind (fun (T13 : Bool) =>
  if T13 = true then (some (.go (IntKind.i64.wrap (S9 + (1 : Int)))))
  else (some (.done (.go S9)))))
  (IntKind.i64.wrap (x.At + (1 : Int))))
  (fun (T11 : Int) => (impl_moveTo x (goMin T11 ((x.List.length : Nat) : Int))).bind fun R20 =>
  some (R20.1, R20.2.1, R20.2.2)))

theorem impl_IterNext_con (x : Iter) (V_x0 : Value) (r : Iter × KV × Bool) (hm : impl_IterNext x = some r) :
    Con Try.prog 10 [.agg #[V_x0, strV x.From, strV x.To, .int .i64 x.At]] [] [(V_x0, lc x.List)] (fun X : Value => .tuple #[.agg #[X, strV r.1.From, strV r.1.To, .int .i64 r.1.At], .agg #[strV r.2.1.Key, strV r.2.1.Val], .bool r.2.2]) (fun X => [.own X (lc r.1.List)]) := by
  refine Con.intro (args := [.agg #[V_x0, strV x.From, strV x.To, .int .i64 x.At]]) (n := 37) (val := fun r (X : Value) => .tuple #[.agg #[X, strV r.1.From, strV r.1.To, .int .i64 r.1.At], .agg #[strV r.2.1.Key, strV r.2.1.Val], .bool r.2.2]) (post := fun r X => [.own X (lc r.1.List)]) (m := impl_IterNext x) Try.func10 rfl rfl rfl hm ?_
  intro w S hrd
  have HB_V_x0 := hrd _ (.head _)
  clear hrd
  unfold impl_IterNext
  refine TW.seq ?_
  refine TW.region ?_
  refine TO.ef (Ef.box rfl (Cel.agg ⟨(One.can (Base.can HB_V_x0)), (One.plain rfl), (One.plain rfl), (One.plain rfl), trivial⟩)) rfl rfl rfl (fun B1 => ?_)
  refine TO.ef (Ef.alloc kz28 rfl) rfl rfl rfl (fun B2 => ?_)
  refine TO.ef (Ef.alloc kz33 rfl) rfl rfl rfl (fun B3 => ?_)
  refine TO.y (Y.assign rfl) rfl rfl rfl ?_
  refine TO.nil ?_
  refine TE.next ?_
  refine TW.seq ?_
  refine TW.seq ?_
  refine TW.region ?_
  refine TO.y (Y.load_box (v := .agg #[V_x0, strV x.From, strV x.To, .int .i64 x.At]) 2 kk28 rfl rfl rfl) rfl rfl rfl ?_
  refine TO.bind fun R4 H5 => ?_
  refine TO.ef (Ef.call (rest := [.box B3 33 [strV ([]), strV ([])], .box B2 28 [.slice none 0 0, strV ([]), strV ([]), .int .i64 (0 : Int)], .box B1 28 [V_x0, strV x.From, strV x.To, .int .i64 x.At]]) [0, 0, 0] (impl_IterOk_con x V_x0 R4 H5) kc38 rfl rfl ⟨(Base.can HB_V_x0), trivial⟩) rfl rfl rfl (fun _ => ?_)
  refine TO.y (Y.not rfl) rfl rfl rfl ?_
  refine TO.nil ?_
  refine TE.next ?_
  refine TW.cond rfl (fun H7 => ?_) (fun H7 => ?_)
  · refine TW.seq ?_
    refine TW.region ?_
    refine TO.y (Y.build (cells := [.slice none 0 0, strV ([]), strV ([]), .int .i64 (0 : Int)]) [] kp28 kz28 trivial rfl) rfl rfl rfl ?_
    refine TO.y (Y.build (cells := [strV ([]), strV ([])]) [] kp33 kz33 trivial rfl) rfl rfl rfl ?_
    refine TO.ef0 (Ef.store_box (us := [.slice none 0 0, strV ([]), strV ([]), .int .i64 (0 : Int)]) (vs' := [.slice none 0 0, strV ([]), strV ([]), .int .i64 (0 : Int)]) (is' := [.box B3 33 [strV ([]), strV ([])], .box B2 28 [.slice none 0 0, strV ([]), strV ([]), .int .i64 (0 : Int)], .box B1 28 [V_x0, strV x.From, strV x.To, .int .i64 x.At]]) 1 kk28 rfl rfl rfl (Cel.plain rfl rfl) rfl rfl rfl rfl) rfl rfl (fun _ => ?_)
    refine TO.ef0 (Ef.store_box (us := [strV ([]), strV ([])]) (vs' := [strV ([]), strV ([])]) (is' := [.box B3 33 [strV ([]), strV ([])], .box B2 28 [.slice none 0 0, strV ([]), strV ([]), .int .i64 (0 : Int)], .box B1 28 [V_x0, strV x.From, strV x.To, .int .i64 x.At]]) 0 kk33 rfl rfl rfl (Cel.plain rfl rfl) rfl rfl rfl rfl) rfl rfl (fun _ => ?_)
    refine TO.y (Y.assign rfl) rfl rfl rfl ?_
    refine TO.nil ?_
    refine TE.next ?_
    refine TW.ret ?_
    refine TE.then_ret ?_
    exact TE.leaf fun _ _ hf_ hs_ => ret_any (rs := [.cell 2 28, .cell 3 33, .tmp 4]) (vs := [.agg #[.slice none 0 0, strV ([]), strV ([]), .int .i64 (0 : Int)], .agg #[strV ([]), strV ([])], .bool false]) (.inl rfl) rfl (RV.cell 1 rfl rfl kk28 rfl (RV.cell 0 rfl rfl kk33 rfl ⟨rfl, trivial⟩)) hf_ hs_ ⟨(.slice none 0 0), rfl, (hs_.nilItem 2).pulls [0] rfl⟩
  · refine TW.skip ?_
    refine TE.next ?_
    refine TW.seq ?_
    refine TW.region ?_
    refine TO.y (Y.field_box kf28_3 rfl rfl) rfl rfl rfl ?_
    refine TO.y (Y.load_box (v := .int .i64 x.At) 2 kk3 rfl rfl rfl) rfl rfl rfl ?_
    refine TO.y (Y.add rfl rfl) rfl rfl rfl ?_
    refine TO.y (Y.assign rfl) rfl rfl rfl ?_
    refine TO.nil ?_
    refine TE.next ?_
    refine TW.seq ?_
    refine TW.joinX (τ := Int) (X := Unit) (fun T _ => [(1, .pointer (some ⟨B1, 0, none⟩)), (2, .pointer (some ⟨B2, 0, none⟩)), (3, .pointer (some ⟨B3, 0, none⟩)), (5, .int .i64 T)]) (fun _ _ => [.box B1 28 [V_x0, strV x.From, strV x.To, .int .i64 x.At], .box B2 28 [.slice none 0 0, strV ([]), strV ([]), .int .i64 (0 : Int)], .box B3 33 [strV ([]), strV ([])]]) ?_ (fun T11 X12 => ?_)
    · refine TW.block ?_
      refine TW.loopX (σ := Int) (X := Unit) (fun T _ => [(1, .pointer (some ⟨B1, 0, none⟩)), (2, .pointer (some ⟨B2, 0, none⟩)), (3, .pointer (some ⟨B3, 0, none⟩)), (5, .int .i64 T)]) (fun _ _ => [.box B1 28 [V_x0, strV x.From, strV x.To, .int .i64 x.At], .box B2 28 [.slice none 0 0, strV ([]), strV ([]), .int .i64 (0 : Int)], .box B3 33 [strV ([]), strV ([])]]) () [2, 1, 0] ⟨rfl, rfl, rfl, rfl, trivial⟩ rfl (fun S9 X10 => ?_)
      refine TW.seq ?_
      refine TW.seq ?_
      refine TW.joinBX (τ := Bool) (X := Unit) (fun T _ => [(1, .pointer (some ⟨B1, 0, none⟩)), (2, .pointer (some ⟨B2, 0, none⟩)), (3, .pointer (some ⟨B3, 0, none⟩)), (5, .int .i64 S9), (24, .bool T)]) (fun _ _ => [.box B1 28 [V_x0, strV x.From, strV x.To, .int .i64 x.At], .box B2 28 [.slice none 0 0, strV ([]), strV ([]), .int .i64 (0 : Int)], .box B3 33 [strV ([]), strV ([])]]) ?_ (fun T13 X14 => ?_)
      · refine TW.region ?_
        refine TO.y (Y.move rfl) rfl rfl rfl ?_
        refine TO.y (Y.field_box kf28_0 rfl rfl) rfl rfl rfl ?_
        refine TO.y (Y.load_box (v := V_x0) 0 kk24 rfl rfl rfl) rfl rfl rfl ?_
        refine TO.y (Y.len (l := x.List) ke24 (Base.can HB_V_x0) rfl) rfl rfl rfl ?_
        refine TO.y (Y.lss rfl rfl) rfl rfl rfl ?_
        refine TO.y (Y.move rfl) rfl rfl rfl ?_
        refine TO.ite (b := decide (S9 < ((x.List.length : Nat) : Int))) (fun H15 => ?_) (fun H15 => ?_)
        · refine TO.y (Y.load_box (v := .agg #[V_x0, strV x.From, strV x.To, .int .i64 x.At]) 0 kk28 rfl rfl rfl) (Gd.at 5 true 19 (decide (S9 < ((x.List.length : Nat) : Int))) rfl rfl rfl (beq_tt H15)) rfl rfl ?_
          refine TO.y (Y.move rfl) (Gd.at 5 true 19 (decide (S9 < ((x.List.length : Nat) : Int))) rfl rfl rfl (beq_tt H15)) rfl rfl ?_
          refine TO.bind fun R16 H17 => ?_
          refine TO.ef (Ef.call (rest := [.box B1 28 [V_x0, strV x.From, strV x.To, .int .i64 x.At], .box B2 28 [.slice none 0 0, strV ([]), strV ([]), .int .i64 (0 : Int)], .box B3 33 [strV ([]), strV ([])]]) [0, 0, 0] (impl_Iter_isWithin_con x S9 V_x0 R16 H17) kc39 rfl rfl ⟨(Base.can HB_V_x0), trivial⟩) (Gd.at 5 true 19 (decide (S9 < ((x.List.length : Nat) : Int))) rfl rfl rfl (beq_tt H15)) rfl rfl (fun _ => ?_)
          refine TO.y (Y.not rfl) (Gd.at 5 true 19 (decide (S9 < ((x.List.length : Nat) : Int))) rfl rfl rfl (beq_tt H15)) rfl rfl ?_
          refine TO.y (Y.pick_t H15 rfl rfl) rfl rfl rfl ?_
          refine TO.nil ?_
          exact TE.jb_go () [0, 0, 0] ⟨rfl, rfl, rfl, rfl, rfl, trivial⟩ rfl
        · refine TO.off (Gd.at 5 true 19 (decide (S9 < ((x.List.length : Nat) : Int))) rfl rfl rfl (beq_ft H15)) rfl rfl ?_
          refine TO.off (Gd.at 5 true 19 (decide (S9 < ((x.List.length : Nat) : Int))) rfl rfl rfl (beq_ft H15)) rfl rfl ?_
          refine TO.off (Gd.at 5 true 19 (decide (S9 < ((x.List.length : Nat) : Int))) rfl rfl rfl (beq_ft H15)) rfl rfl ?_
          refine TO.off (Gd.at 5 true 19 (decide (S9 < ((x.List.length : Nat) : Int))) rfl rfl rfl (beq_ft H15)) rfl rfl ?_
          refine TO.y (Y.pick_f H15 rfl rfl) rfl rfl rfl ?_
          refine TO.nil ?_
          exact TE.jb_go () [0, 0, 0] ⟨rfl, rfl, rfl, rfl, rfl, trivial⟩ rfl
      · refine TE.next ?_
        refine TW.cond rfl (fun H19 => ?_) (fun H19 => ?_)
        · refine TW.skip ?_
          refine TE.next ?_
          refine TW.block ?_
          refine TW.region ?_
          refine TO.y (Y.move rfl) rfl rfl rfl ?_
          refine TO.y (Y.add rfl rfl) rfl rfl rfl ?_
          refine TO.y (Y.assign rfl) rfl rfl rfl ?_
          refine TO.nil ?_
          refine TE.block_normal ?_
          exact TE.lp_go () [0, 0, 0] ⟨rfl, rfl, rfl, rfl, trivial⟩ rfl
        · refine TW.exit ?_
          refine TE.then_exit ?_
          refine TE.lp_exit ?_
          refine TE.block_exit ?_
          exact TE.jn_go () [0, 0, 0] ⟨rfl, rfl, rfl, rfl, trivial⟩ rfl
    · refine TE.next ?_
      refine TW.seq ?_
      refine TW.region ?_
      refine TO.y (Y.load_box (v := .agg #[V_x0, strV x.From, strV x.To, .int .i64 x.At]) 0 kk28 rfl rfl rfl) rfl rfl rfl ?_
      refine TO.y (Y.move rfl) rfl rfl rfl ?_
      refine TO.y (Y.field_box kf28_0 rfl rfl) rfl rfl rfl ?_
      refine TO.y (Y.load_box (v := V_x0) 0 kk24 rfl rfl rfl) rfl rfl rfl ?_
      refine TO.y (Y.len (l := x.List) ke24 (Base.can HB_V_x0) rfl) rfl rfl rfl ?_
      refine TO.y (Y.min2 rfl rfl) rfl rfl rfl ?_
      refine TO.bind fun R20 H21 => ?_
      refine TO.ef (Ef.call (rest := [.box B1 28 [V_x0, strV x.From, strV x.To, .int .i64 x.At], .box B2 28 [.slice none 0 0, strV ([]), strV ([]), .int .i64 (0 : Int)], .box B3 33 [strV ([]), strV ([])]]) [0, 0, 0] (impl_moveTo_con x (goMin T11 ((x.List.length : Nat) : Int)) V_x0 R20 H21) kc40 rfl rfl ⟨(Base.can HB_V_x0), trivial⟩) rfl rfl rfl (fun Y22 => ?_)
      refine TO.y (Y.extract rfl rfl) rfl rfl rfl ?_
      refine TO.y (Y.extract rfl rfl) rfl rfl rfl ?_
      refine TO.y (Y.extract rfl rfl) rfl rfl rfl ?_
      refine TO.ef0 (Ef.store_box (us := [Y22, strV R20.1.From, strV R20.1.To, .int .i64 R20.1.At]) (vs' := [Y22, strV R20.1.From, strV R20.1.To, .int .i64 R20.1.At]) (is' := [.own Y22 (lc R20.1.List), .box B1 28 [V_x0, strV x.From, strV x.To, .int .i64 x.At], .box B2 28 [Y22, strV R20.1.From, strV R20.1.To, .int .i64 R20.1.At], .box B3 33 [strV ([]), strV ([])]]) 2 kk28 rfl rfl rfl (Cel.agg ⟨(One.can (Can.own 0 rfl)), (One.plain rfl), (One.plain rfl), (One.plain rfl), trivial⟩) rfl rfl rfl rfl) rfl rfl (fun _ => ?_)
      refine TO.ef0 (Ef.store_box (us := [strV R20.2.1.Key, strV R20.2.1.Val]) (vs' := [strV R20.2.1.Key, strV R20.2.1.Val]) (is' := [.own Y22 (lc R20.1.List), .box B1 28 [V_x0, strV x.From, strV x.To, .int .i64 x.At], .box B2 28 [Y22, strV R20.1.From, strV R20.1.To, .int .i64 R20.1.At], .box B3 33 [strV R20.2.1.Key, strV R20.2.1.Val]]) 3 kk33 rfl rfl rfl (Cel.plain rfl rfl) rfl rfl rfl rfl) rfl rfl (fun _ => ?_)
      refine TO.y (Y.assign rfl) rfl rfl rfl ?_
      refine TO.nil ?_
      refine TE.next ?_
      refine TW.ret ?_
      exact TE.leaf fun _ _ hf_ hs_ => ret_any (rs := [.cell 2 28, .cell 3 33, .tmp 4]) (vs := [.agg #[Y22, strV R20.1.From, strV R20.1.To, .int .i64 R20.1.At], .agg #[strV R20.2.1.Key, strV R20.2.1.Val], .bool R20.2.2]) (.inl rfl) rfl (RV.cell 2 rfl rfl kk28 rfl (RV.cell 3 rfl rfl kk33 rfl ⟨rfl, trivial⟩)) hf_ hs_ ⟨Y22, rfl, hs_.pulls [0] rfl⟩

/-- loop.example/g00950/impl.IterPrev -/
noncomputable def impl_IterPrev (x : Iter) : Option (Iter × KV × Bool) :=
  (impl_IterOk x).bind fun R4 =>
  if (!R4) = true then (some ({ List := ([] : List KV), From := [], To := [], At := (0 : Int) : Iter }, { Key := [], Val := [] : KV }, false))
  else (bindC (loopO (fun (S9 : Int) => (if (decide (S9 ≥ (0 : Int))) = true then ((impl_Iter_isWithin x S9).bind fun R16 =>
  some (!R16))
  else (some false)).bind (fun (T13 : Bool) =>
  if T13 = true then (some (.go (IntKind.i64.wrap (S9 - (1 : Int)))))
  else (some (.done (.go S9)))))
  (IntKind.i64.wrap (x.At - (1 : Int))))
  (fun (T11 : Int) => (impl_moveTo x (goMax T11 (-1 : Int))).bind fun R20 =>
  some (R20.1, R20.2.1, R20.2.2)))

theorem impl_IterPrev_con (x : Iter) (V_x0 : Value) (r : Iter × KV × Bool) (hm : impl_IterPrev x = some r) :
    Con Try.prog 11 [.agg #[V_x0, strV x.From, strV x.To, .int .i64 x.At]] [] [(V_x0, lc x.List)] (fun X : Value => .tuple #[.agg #[X, strV r.1.From, strV r.1.To, .int .i64 r.1.At], .agg #[strV r.2.1.Key, strV r.2.1.Val], .bool r.2.2]) (fun X => [.own X (lc r.1.List)]) := by
  refine Con.intro (args := [.agg #[V_x0, strV x.From, strV x.To, .int .i64 x.At]]) (n := 31) (val := fun r (X : Value) => .tuple #[.agg #[X, strV r.1.From, strV r.1.To, .int .i64 r.1.At], .agg #[strV r.2.1.Key, strV r.2.1.Val], .bool r.2.2]) (post := fun r X => [.own X (lc r.1.List)]) (m := impl_IterPrev x) Try.func11 rfl rfl rfl hm ?_
  intro w S hrd
  have HB_V_x0 := hrd _ (.head _)
  clear hrd
  unfold impl_IterPrev
  refine TW.seq ?_
  refine TW.region ?_
  refine TO.ef (Ef.box rfl (Cel.agg ⟨(One.can (Base.can HB_V_x0)), (One.plain rfl), (One.plain rfl), (One.plain rfl), trivial⟩)) rfl rfl rfl (fun B1 => ?_)
  refine TO.ef (Ef.alloc kz28 rfl) rfl rfl rfl (fun B2 => ?_)
  refine TO.ef (Ef.alloc kz33 rfl) rfl rfl rfl (fun B3 => ?_)
  refine TO.y (Y.assign rfl) rfl rfl rfl ?_
  refine TO.nil ?_
  refine TE.next ?_
  refine TW.seq ?_
  refine TW.seq ?_
  refine TW.region ?_
  refine TO.y (Y.load_box (v := .agg #[V_x0, strV x.From, strV x.To, .int .i64 x.At]) 2 kk28 rfl rfl rfl) rfl rfl rfl ?_
  refine TO.bind fun R4 H5 => ?_
  refine TO.ef (Ef.call (rest := [.box B3 33 [strV ([]), strV ([])], .box B2 28 [.slice none 0 0, strV ([]), strV ([]), .int .i64 (0 : Int)], .box B1 28 [V_x0, strV x.From, strV x.To, .int .i64 x.At]]) [0, 0, 0] (impl_IterOk_con x V_x0 R4 H5) kc38 rfl rfl ⟨(Base.can HB_V_x0), trivial⟩) rfl rfl rfl (fun _ => ?_)
  refine TO.y (Y.not rfl) rfl rfl rfl ?_
  refine TO.nil ?_
  refine TE.next ?_
  refine TW.cond rfl (fun H7 => ?_) (fun H7 => ?_)
  · refine TW.seq ?_
    refine TW.region ?_
    refine TO.y (Y.build (cells := [.slice none 0 0, strV ([]), strV ([]), .int .i64 (0 : Int)]) [] kp28 kz28 trivial rfl) rfl rfl rfl ?_
    refine TO.y (Y.build (cells := [strV ([]), strV ([])]) [] kp33 kz33 trivial rfl) rfl rfl rfl ?_
    refine TO.ef0 (Ef.store_box (us := [.slice none 0 0, strV ([]), strV ([]), .int .i64 (0 : Int)]) (vs' := [.slice none 0 0, strV ([]), strV ([]), .int .i64 (0 : Int)]) (is' := [.box B3 33 [strV ([]), strV ([])], .box B2 28 [.slice none 0 0, strV ([]), strV ([]), .int .i64 (0 : Int)], .box B1 28 [V_x0, strV x.From, strV x.To, .int .i64 x.At]]) 1 kk28 rfl rfl rfl (Cel.plain rfl rfl) rfl rfl rfl rfl) rfl rfl (fun _ => ?_)
    refine TO.ef0 (Ef.store_box (us := [strV ([]), strV ([])]) (vs' := [strV ([]), strV ([])]) (is' := [.box B3 33 [strV ([]), strV ([])], .box B2 28 [.slice none 0 0, strV ([]), strV ([]), .int .i64 (0 : Int)], .box B1 28 [V_x0, strV x.From, strV x.To, .int .i64 x.At]]) 0 kk33 rfl rfl rfl (Cel.plain rfl rfl) rfl rfl rfl rfl) rfl rfl (fun _ => ?_)
    refine TO.y (Y.assign rfl) rfl rfl rfl ?_
    refine TO.nil ?_
    refine TE.next ?_
    refine TW.ret ?_
    refine TE.then_ret ?_
    exact TE.leaf fun _ _ hf_ hs_ => ret_any (rs := [.cell 2 28, .cell 3 33, .tmp 4]) (vs := [.agg #[.slice none 0 0, strV ([]), strV ([]), .int .i64 (0 : Int)], .agg #[strV ([]), strV ([])], .bool false]) (.inl rfl) rfl (RV.cell 1 rfl rfl kk28 rfl (RV.cell 0 rfl rfl kk33 rfl ⟨rfl, trivial⟩)) hf_ hs_ ⟨(.slice none 0 0), rfl, (hs_.nilItem 2).pulls [0] rfl⟩
  · refine TW.skip ?_
    refine TE.next ?_
    refine TW.seq ?_
    refine TW.region ?_
    refine TO.y (Y.field_box kf28_3 rfl rfl) rfl rfl rfl ?_
    refine TO.y (Y.load_box (v := .int .i64 x.At) 2 kk3 rfl rfl rfl) rfl rfl rfl ?_
    refine TO.y (Y.sub rfl rfl) rfl rfl rfl ?_
    refine TO.y (Y.assign rfl) rfl rfl rfl ?_
    refine TO.nil ?_
    refine TE.next ?_
    refine TW.seq ?_
    refine TW.joinX (τ := Int) (X := Unit) (fun T _ => [(1, .pointer (some ⟨B1, 0, none⟩)), (2, .pointer (some ⟨B2, 0, none⟩)), (3, .pointer (some ⟨B3, 0, none⟩)), (5, .int .i64 T)]) (fun _ _ => [.box B1 28 [V_x0, strV x.From, strV x.To, .int .i64 x.At], .box B2 28 [.slice none 0 0, strV ([]), strV ([]), .int .i64 (0 : Int)], .box B3 33 [strV ([]), strV ([])]]) ?_ (fun T11 X12 => ?_)
    · refine TW.block ?_
      refine TW.loopX (σ := Int) (X := Unit) (fun T _ => [(1, .pointer (some ⟨B1, 0, none⟩)), (2, .pointer (some ⟨B2, 0, none⟩)), (3, .pointer (some ⟨B3, 0, none⟩)), (5, .int .i64 T)]) (fun _ _ => [.box B1 28 [V_x0, strV x.From, strV x.To, .int .i64 x.At], .box B2 28 [.slice none 0 0, strV ([]), strV ([]), .int .i64 (0 : Int)], .box B3 33 [strV ([]), strV ([])]]) () [2, 1, 0] ⟨rfl, rfl, rfl, rfl, trivial⟩ rfl (fun S9 X10 => ?_)
      refine TW.seq ?_
      refine TW.seq ?_
      refine TW.joinBX (τ := Bool) (X := Unit) (fun T _ => [(1, .pointer (some ⟨B1, 0, none⟩)), (2, .pointer (some ⟨B2, 0, none⟩)), (3, .pointer (some ⟨B3, 0, none⟩)), (5, .int .i64 S9), (21, .bool T)]) (fun _ _ => [.box B1 28 [V_x0, strV x.From, strV x.To, .int .i64 x.At], .box B2 28 [.slice none 0 0, strV ([]), strV ([]), .int .i64 (0 : Int)], .box B3 33 [strV ([]), strV ([])]]) ?_ (fun T13 X14 => ?_)
      · refine TW.region ?_
        refine TO.y (Y.move rfl) rfl rfl rfl ?_
        refine TO.y (Y.geq rfl rfl) rfl rfl rfl ?_
        refine TO.y (Y.move rfl) rfl rfl rfl ?_
        refine TO.ite (b := decide (S9 ≥ (0 : Int))) (fun H15 => ?_) (fun H15 => ?_)
        · refine TO.y (Y.load_box (v := .agg #[V_x0, strV x.From, strV x.To, .int .i64 x.At]) 0 kk28 rfl rfl rfl) (Gd.at 2 true 16 (decide (S9 ≥ (0 : Int))) rfl rfl rfl (beq_tt H15)) rfl rfl ?_
          refine TO.y (Y.move rfl) (Gd.at 2 true 16 (decide (S9 ≥ (0 : Int))) rfl rfl rfl (beq_tt H15)) rfl rfl ?_
          refine TO.bind fun R16 H17 => ?_
          refine TO.ef (Ef.call (rest := [.box B1 28 [V_x0, strV x.From, strV x.To, .int .i64 x.At], .box B2 28 [.slice none 0 0, strV ([]), strV ([]), .int .i64 (0 : Int)], .box B3 33 [strV ([]), strV ([])]]) [0, 0, 0] (impl_Iter_isWithin_con x S9 V_x0 R16 H17) kc39 rfl rfl ⟨(Base.can HB_V_x0), trivial⟩) (Gd.at 2 true 16 (decide (S9 ≥ (0 : Int))) rfl rfl rfl (beq_tt H15)) rfl rfl (fun _ => ?_)
          refine TO.y (Y.not rfl) (Gd.at 2 true 16 (decide (S9 ≥ (0 : Int))) rfl rfl rfl (beq_tt H15)) rfl rfl ?_
          refine TO.y (Y.pick_t H15 rfl rfl) rfl rfl rfl ?_
          refine TO.nil ?_
          exact TE.jb_go () [0, 0, 0] ⟨rfl, rfl, rfl, rfl, rfl, trivial⟩ rfl
        · refine TO.off (Gd.at 2 true 16 (decide (S9 ≥ (0 : Int))) rfl rfl rfl (beq_ft H15)) rfl rfl ?_
          refine TO.off (Gd.at 2 true 16 (decide (S9 ≥ (0 : Int))) rfl rfl rfl (beq_ft H15)) rfl rfl ?_
          refine TO.off (Gd.at 2 true 16 (decide (S9 ≥ (0 : Int))) rfl rfl rfl (beq_ft H15)) rfl rfl ?_
          refine TO.off (Gd.at 2 true 16 (decide (S9 ≥ (0 : Int))) rfl rfl rfl (beq_ft H15)) rfl rfl ?_
          refine TO.y (Y.pick_f H15 rfl rfl) rfl rfl rfl ?_
          refine TO.nil ?_
          exact TE.jb_go () [0, 0, 0] ⟨rfl, rfl, rfl, rfl, rfl, trivial⟩ rfl
      · refine TE.next ?_
        refine TW.cond rfl (fun H19 => ?_) (fun H19 => ?_)
        · refine TW.skip ?_
          refine TE.next ?_
          refine TW.block ?_
          refine TW.region ?_
          refine TO.y (Y.move rfl) rfl rfl rfl ?_
          refine TO.y (Y.sub rfl rfl) rfl rfl rfl ?_
          refine TO.y (Y.assign rfl) rfl rfl rfl ?_
          refine TO.nil ?_
          refine TE.block_normal ?_
          exact TE.lp_go () [0, 0, 0] ⟨rfl, rfl, rfl, rfl, trivial⟩ rfl
        · refine TW.exit ?_
          refine TE.then_exit ?_
          refine TE.lp_exit ?_
          refine TE.block_exit ?_
          exact TE.jn_go () [0, 0, 0] ⟨rfl, rfl, rfl, rfl, trivial⟩ rfl
    · refine TE.next ?_
      refine TW.seq ?_
      refine TW.region ?_
      refine TO.y (Y.load_box (v := .agg #[V_x0, strV x.From, strV x.To, .int .i64 x.At]) 0 kk28 rfl rfl rfl) rfl rfl rfl ?_
      refine TO.y (Y.move rfl) rfl rfl rfl ?_
      refine TO.y (Y.max2 rfl rfl) rfl rfl rfl ?_
      refine TO.bind fun R20 H21 => ?_
      refine TO.ef (Ef.call (rest := [.box B1 28 [V_x0, strV x.From, strV x.To, .int .i64 x.At], .box B2 28 [.slice none 0 0, strV ([]), strV ([]), .int .i64 (0 : Int)], .box B3 33 [strV ([]), strV ([])]]) [0, 0, 0] (impl_moveTo_con x (goMax T11 (-1 : Int)) V_x0 R20 H21) kc40 rfl rfl ⟨(Base.can HB_V_x0), trivial⟩) rfl rfl rfl (fun Y22 => ?_)
      refine TO.y (Y.extract rfl rfl) rfl rfl rfl ?_
      refine TO.y (Y.extract rfl rfl) rfl rfl rfl ?_
      refine TO.y (Y.extract rfl rfl) rfl rfl rfl ?_
      refine TO.ef0 (Ef.store_box (us := [Y22, strV R20.1.From, strV R20.1.To, .int .i64 R20.1.At]) (vs' := [Y22, strV R20.1.From, strV R20.1.To, .int .i64 R20.1.At]) (is' := [.own Y22 (lc R20.1.List), .box B1 28 [V_x0, strV x.From, strV x.To, .int .i64 x.At], .box B2 28 [Y22, strV R20.1.From, strV R20.1.To, .int .i64 R20.1.At], .box B3 33 [strV ([]), strV ([])]]) 2 kk28 rfl rfl rfl (Cel.agg ⟨(One.can (Can.own 0 rfl)), (One.plain rfl), (One.plain rfl), (One.plain rfl), trivial⟩) rfl rfl rfl rfl) rfl rfl (fun _ => ?_)
      refine TO.ef0 (Ef.store_box (us := [strV R20.2.1.Key, strV R20.2.1.Val]) (vs' := [strV R20.2.1.Key, strV R20.2.1.Val]) (is' := [.own Y22 (lc R20.1.List), .box B1 28 [V_x0, strV x.From, strV x.To, .int .i64 x.At], .box B2 28 [Y22, strV R20.1.From, strV R20.1.To, .int .i64 R20.1.At], .box B3 33 [strV R20.2.1.Key, strV R20.2.1.Val]]) 3 kk33 rfl rfl rfl (Cel.plain rfl rfl) rfl rfl rfl rfl) rfl rfl (fun _ => ?_)
      refine TO.y (Y.assign rfl) rfl rfl rfl ?_
      refine TO.nil ?_
      refine TE.next ?_
      refine TW.ret ?_
      exact TE.leaf fun _ _ hf_ hs_ => ret_any (rs := [.cell 2 28, .cell 3 33, .tmp 4]) (vs := [.agg #[Y22, strV R20.1.From, strV R20.1.To, .int .i64 R20.1.At], .agg #[strV R20.2.1.Key, strV R20.2.1.Val], .bool R20.2.2]) (.inl rfl) rfl (RV.cell 2 rfl rfl kk28 rfl (RV.cell 3 rfl rfl kk33 rfl ⟨rfl, trivial⟩)) hf_ hs_ ⟨Y22, rfl, hs_.pulls [0] rfl⟩

/-- loop.example/g00950/laws.sameMap -/
noncomputable def laws_sameMap (a : List KV) (b : List KV) : Option Bool :=
  if (!(decide (((a.length : Nat) : Int) = ((b.length : Nat) : Int)))) = true then (some false)
  else (bindC (loopO (fun (S2 : Int) => if (decide (S2 < ((a.length : Nat) : Int))) = true then ((idx a S2).bind fun E7 =>
  (idx b S2).bind fun E9 =>
  if (!(decide (E7.Key = E9.Key) && (decide (E7.Val = E9.Val) && true))) = true then (some (.done (.done false)))
  else (some (.go (IntKind.i64.wrap (S2 + (1 : Int))))))
  else (some (.done (.go ()))))
  (0 : Int))
  (fun (T4 : Unit) => some true))

theorem laws_sameMap_con (a : List KV) (b : List KV) (V_a0 : Value) (V_b0 : Value) (r : Bool) (hm : laws_sameMap a b = some r) :
    Con Try.prog 12 [V_a0, V_b0] [] [(V_a0, lc a), (V_b0, lc b)] (fun _ : Unit => .bool r) (fun _ => []) := by
  refine Con.intro (args := [V_a0, V_b0]) (n := 26) (val := fun r (_ : Unit) => .bool r) (post := fun _ _ => []) (m := laws_sameMap a b) Try.func12 rfl rfl rfl hm ?_
  intro w S hrd
  have HB_V_a0 := hrd _ (.head _)
  have HB_V_b0 := hrd _ (.tail _ (.head _))
  clear hrd
  unfold laws_sameMap
  refine TW.seq ?_
  refine TW.region ?_
  refine TO.y (Y.assign rfl) rfl rfl rfl ?_
  refine TO.nil ?_
  refine TE.next ?_
  refine TW.seq ?_
  refine TW.seq ?_
  refine TW.region ?_
  refine TO.y (Y.move rfl) rfl rfl rfl ?_
  refine TO.y (Y.len (l := a) ke24 (Base.can HB_V_a0) rfl) rfl rfl rfl ?_
  refine TO.y (Y.move rfl) rfl rfl rfl ?_
  refine TO.y (Y.len (l := b) ke24 (Base.can HB_V_b0) rfl) rfl rfl rfl ?_
  refine TO.y (Y.neq rfl rfl) rfl rfl rfl ?_
  refine TO.nil ?_
  refine TE.next ?_
  refine TW.cond rfl (fun H1 => ?_) (fun H1 => ?_)
  · refine TW.seq ?_
    refine TW.region ?_
    refine TO.y (Y.assign rfl) rfl rfl rfl ?_
    refine TO.nil ?_
    refine TE.next ?_
    refine TW.ret ?_
    refine TE.then_ret ?_
    exact TE.leaf fun _ _ hf_ hs_ => ret_any (rs := [.tmp 4]) (vs := [.bool false]) (.inl rfl) rfl ⟨rfl, trivial⟩ hf_ hs_ ⟨(), rfl, hs_.pulls [] rfl⟩
  · refine TW.skip ?_
    refine TE.next ?_
    refine TW.seq ?_
    refine TW.seq ?_
    refine TW.region ?_
    refine TO.y (Y.assign rfl) rfl rfl rfl ?_
    refine TO.nil ?_
    refine TE.next ?_
    refine TW.joinX (τ := Unit) (X := Unit) (fun _ _ => []) (fun _ _ => []) ?_ (fun T4 X5 => ?_)
    · refine TW.block ?_
      refine TW.loopX (σ := Int) (X := Unit) (fun T _ => [(0, V_a0), (1, V_b0), (5, .int .i64 T)]) (fun _ _ => []) () [] ⟨rfl, rfl, rfl, trivial⟩ rfl (fun S2 X3 => ?_)
      refine TW.seq ?_
      refine TW.seq ?_
      refine TW.region ?_
      refine TO.y (Y.move rfl) rfl rfl rfl ?_
      refine TO.y (Y.move rfl) rfl rfl rfl ?_
      refine TO.y (Y.len (l := a) ke24 (Base.can HB_V_a0) rfl) rfl rfl rfl ?_
      refine TO.y (Y.lss rfl rfl) rfl rfl rfl ?_
      refine TO.nil ?_
      refine TE.next ?_
      refine TW.cond rfl (fun H6 => ?_) (fun H6 => ?_)
      · refine TW.skip ?_
        refine TE.next ?_
        refine TW.seq ?_
        refine TW.block ?_
        refine TW.seq ?_
        refine TW.draw (isH := []) hMix ?_
        refine TA.y (listed' := #[true, false, false, false, false, false, false, false, false]) 0 [] rfl (Y.move rfl) rfl rfl rfl (by kernel_rfl) (by kernel_rfl) (by kernel_rfl) rfl rfl ?_
        refine TA.y (listed' := #[true, true, false, false, false, false, false, false, false]) 1 [] rfl (Y.move rfl) rfl rfl rfl (by kernel_rfl) (by kernel_rfl) (by kernel_rfl) rfl rfl ?_
        refine TA.bind fun E7 H8 => ?_
        refine TA.y (listed' := #[true, true, true, false, false, false, false, false, false]) 2 [] rfl (Y.index ke24 (Base.can HB_V_a0) H8 rfl rfl) rfl rfl rfl (by kernel_rfl) (by kernel_rfl) (by kernel_rfl) rfl rfl ?_
        refine TA.y (listed' := #[true, true, true, true, false, false, false, false, false]) 3 [] rfl (Y.load_el (us := [strV E7.Key, strV E7.Val]) (u := .agg #[strV E7.Key, strV E7.Val]) kk33 rfl (Base.can HB_V_a0) (idx_get H8).2.2 rfl rfl rfl rfl rfl) rfl rfl rfl (by kernel_rfl) (by kernel_rfl) (by kernel_rfl) rfl rfl ?_
        refine TA.y (listed' := #[true, true, true, true, true, false, false, false, false]) 4 [] rfl (Y.move rfl) rfl rfl rfl (by kernel_rfl) (by kernel_rfl) (by kernel_rfl) rfl rfl ?_
        refine TA.y (listed' := #[true, true, true, true, true, true, false, false, false]) 5 [] rfl (Y.move rfl) rfl rfl rfl (by kernel_rfl) (by kernel_rfl) (by kernel_rfl) rfl rfl ?_
        refine TA.bind fun E9 H10 => ?_
        refine TA.y (listed' := #[true, true, true, true, true, true, true, false, false]) 6 [] rfl (Y.index ke24 (Base.can HB_V_b0) H10 rfl rfl) rfl rfl rfl (by kernel_rfl) (by kernel_rfl) (by kernel_rfl) rfl rfl ?_
        refine TA.y (listed' := #[true, true, true, true, true, true, true, true, false]) 7 [] rfl (Y.load_el (us := [strV E9.Key, strV E9.Val]) (u := .agg #[strV E9.Key, strV E9.Val]) kk33 rfl (Base.can HB_V_b0) (idx_get H10).2.2 rfl rfl rfl rfl rfl) rfl rfl rfl (by kernel_rfl) (by kernel_rfl) (by kernel_rfl) rfl rfl ?_
        refine TA.y (listed' := #[true, true, true, true, true, true, true, true, true]) 8 [] rfl (Y.neqA keq33 (EqA.str (EqA.str EqA.nil)) rfl rfl) rfl rfl rfl (by kernel_rfl) (by kernel_rfl) (by kernel_rfl) rfl rfl ?_
        refine TA.nil (by kernel_rfl) ?_
        refine TE.next ?_
        refine TW.cond rfl (fun H11 => ?_) (fun H11 => ?_)
        · refine TW.seq ?_
          refine TW.region ?_
          refine TO.y (Y.assign rfl) rfl rfl rfl ?_
          refine TO.nil ?_
          refine TE.next ?_
          refine TW.ret ?_
          refine TE.block_ret ?_
          refine TE.then_ret ?_
          refine TE.lp_ret ?_
          refine TE.block_ret ?_
          refine TE.jn_done ?_
          refine TE.then_ret ?_
          exact TE.leaf fun _ _ hf_ hs_ => ret_any (rs := [.tmp 4]) (vs := [.bool false]) (.inl rfl) rfl ⟨rfl, trivial⟩ hf_ hs_ ⟨(), rfl, hs_.pulls [] rfl⟩
        · refine TW.skip ?_
          refine TE.block_normal ?_
          refine TE.next ?_
          refine TW.region ?_
          refine TO.y (Y.move rfl) rfl rfl rfl ?_
          refine TO.y (Y.add rfl rfl) rfl rfl rfl ?_
          refine TO.y (Y.assign rfl) rfl rfl rfl ?_
          refine TO.nil ?_
          exact TE.lp_go () [] ⟨rfl, rfl, rfl, trivial⟩ rfl
      · refine TW.exit ?_
        refine TE.then_exit ?_
        refine TE.lp_exit ?_
        refine TE.block_exit ?_
        exact TE.jn_go () [] trivial rfl
    · refine TE.next ?_
      refine TW.seq ?_
      refine TW.region ?_
      refine TO.y (Y.assign rfl) rfl rfl rfl ?_
      refine TO.nil ?_
      refine TE.next ?_
      refine TW.ret ?_
      exact TE.leaf fun _ _ hf_ hs_ => ret_any (rs := [.tmp 4]) (vs := [.bool true]) (.inl rfl) rfl ⟨rfl, trivial⟩ hf_ hs_ ⟨(), rfl, hs_.pulls [] rfl⟩

/-- loop.example/g00950/spec.l1PickInt -/
noncomputable def spec_l1PickInt (c : L1Cur) (list : List Int) : Option (Int × L1Cur) :=
  (spec_l1Below c ((list.length : Nat) : Int)).bind fun R1 =>
  (idx list R1.1).bind fun E4 =>
  some (E4, { b := c.b, i := R1.2.i, h := R1.2.h : L1Cur })

theorem spec_l1PickInt_con (c : L1Cur) (list : List Int) (V_c0 : Value) (B_c : Nat) (V_list0 : Value) (r : Int × L1Cur) (hm : spec_l1PickInt c list = some r) :
    Con Try.prog 54 [.pointer (some ⟨B_c, 0, none⟩), V_list0] [.box B_c 94 [V_c0, .int .i64 c.i, .int .i64 c.h]] [(V_c0, lc c.b), (V_list0, lc list)] (fun _ : Unit => .int .i64 r.1) (fun _ => [.box B_c 94 [V_c0, .int .i64 r.2.i, .int .i64 r.2.h]]) := by
  refine Con.intro (args := [.pointer (some ⟨B_c, 0, none⟩), V_list0]) (n := 12) (val := fun r (_ : Unit) => .int .i64 r.1) (post := fun r _ => [.box B_c 94 [V_c0, .int .i64 r.2.i, .int .i64 r.2.h]]) (m := spec_l1PickInt c list) Try.func54 rfl rfl rfl hm ?_
  intro w S hrd
  have HB_V_c0 := hrd _ (.head _)
  have HB_V_list0 := hrd _ (.tail _ (.head _))
  clear hrd
  unfold spec_l1PickInt
  refine TW.seq ?_
  refine TW.region ?_
  refine TO.y (Y.assign rfl) rfl rfl rfl ?_
  refine TO.nil ?_
  refine TE.next ?_
  refine TW.seq ?_
  refine TW.region ?_
  refine TO.y (Y.move rfl) rfl rfl rfl ?_
  refine TO.y (Y.move rfl) rfl rfl rfl ?_
  refine TO.y (Y.move rfl) rfl rfl rfl ?_
  refine TO.y (Y.len (l := list) ke41 (Base.can HB_V_list0) rfl) rfl rfl rfl ?_
  refine TO.bind fun R1 H2 => ?_
  refine TO.ef (Ef.call (rest := []) [0] (spec_l1Below_con c ((list.length : Nat) : Int) V_c0 B_c R1 H2) kc64 rfl rfl ⟨(Base.can HB_V_c0), trivial⟩) rfl rfl rfl (fun _ => ?_)
  refine TO.bind fun E4 H5 => ?_
  refine TO.y (Y.index ke41 (Base.can HB_V_list0) H5 rfl rfl) rfl rfl rfl ?_
  refine TO.y (Y.load_el (us := [.int .i64 E4]) (u := .int .i64 E4) kk3 rfl (Base.can HB_V_list0) (idx_get H5).2.2 rfl rfl rfl rfl rfl) rfl rfl rfl ?_
  refine TO.y (Y.assign rfl) rfl rfl rfl ?_
  refine TO.nil ?_
  refine TE.next ?_
  refine TW.ret ?_
  exact TE.leaf fun _ _ hf_ hs_ => ret_any (rs := [.tmp 4]) (vs := [.int .i64 E4]) (.inl rfl) rfl ⟨rfl, trivial⟩ hf_ hs_ ⟨(), rfl, hs_.pulls [0] rfl⟩

/-- loop.example/g00950/spec.l14Some -/
noncomputable def spec_l14Some (c : L1Cur) : Option (Iter × L1Cur) :=
  (spec_l7Map c).bind fun R2 =>
  (spec_l1Once ({ b := c.b, i := R2.2.i, h := R2.2.h : L1Cur }) (2 : Int)).bind fun R6 =>
  bindC (if R6.1 = true then ((spec_l7Key ({ b := c.b, i := R6.2.i, h := R6.2.h : L1Cur })).bind fun R12 =>
  some (.go (R12.2.i, R12.2.h, R12.1)))
  else (some (.go (R6.2.i, R6.2.h, []))))
  (fun (T9 : Int × Int × List UInt8) => (spec_l1Once ({ b := c.b, i := T9.1, h := T9.2.1 : L1Cur }) (2 : Int)).bind fun R15 =>
  bindC (if R15.1 = true then ((spec_l7Key ({ b := c.b, i := R15.2.i, h := R15.2.h : L1Cur })).bind fun R21 =>
  some (.go (R21.2.i, R21.2.h, R21.1)))
  else (some (.go (R15.2.i, R15.2.h, []))))
  (fun (T18 : Int × Int × List UInt8) => (spec_l1Below ({ b := c.b, i := T18.1, h := T18.2.1 : L1Cur }) (IntKind.i64.wrap (((R2.1.length : Nat) : Int) + (2 : Int)))).bind fun R24 =>
  (spec_l1Once ({ b := c.b, i := R24.2.i, h := R24.2.h : L1Cur }) (12 : Int)).bind fun R27 =>
  bindC (if R27.1 = true then ((spec_l1PickInt ({ b := c.b, i := R27.2.i, h := R27.2.h : L1Cur }) ([(-2 : Int), (99 : Int)])).bind fun R34 =>
  some (.go (R34.1, R34.2.i, R34.2.h)))
  else (some (.go (IntKind.i64.wrap (R24.1 - (1 : Int)), R27.2.i, R27.2.h))))
  (fun (T30 : Int × Int × Int) => some ({ List := R2.1, From := T9.2.2, To := T18.2.2, At := T30.1 : Iter }, { b := c.b, i := T30.2.1, h := T30.2.2 : L1Cur }))))

theorem spec_l14Some_con (c : L1Cur) (V_c0 : Value) (B_c : Nat) (r : Iter × L1Cur) (hm : spec_l14Some c = some r) :
    Con Try.prog 41 [.pointer (some ⟨B_c, 0, none⟩)] [.box B_c 94 [V_c0, .int .i64 c.i, .int .i64 c.h]] [(V_c0, lc c.b)] (fun X : Value => .agg #[X, strV r.1.From, strV r.1.To, .int .i64 r.1.At]) (fun X => [.box B_c 94 [V_c0, .int .i64 r.2.i, .int .i64 r.2.h], .own X (lc r.1.List)]) := by
  refine Con.intro (args := [.pointer (some ⟨B_c, 0, none⟩)]) (n := 32) (val := fun r (X : Value) => .agg #[X, strV r.1.From, strV r.1.To, .int .i64 r.1.At]) (post := fun r X => [.box B_c 94 [V_c0, .int .i64 r.2.i, .int .i64 r.2.h], .own X (lc r.1.List)]) (m := spec_l14Some c) Try.func41 rfl rfl rfl hm ?_
  intro w S hrd
  have HB_V_c0 := hrd _ (.head _)
  clear hrd
  unfold spec_l14Some
  refine TW.seq ?_
  refine TW.region ?_
  refine TO.ef (Ef.alloc kz28 rfl) rfl rfl rfl (fun B1 => ?_)
  refine TO.nil ?_
  refine TE.next ?_
  refine TW.seq ?_
  refine TW.region ?_
  refine TO.y (Y.move rfl) rfl rfl rfl ?_
  refine TO.bind fun R2 H3 => ?_
  refine TO.ef (Ef.call (rest := [.box B1 28 [.slice none 0 0, strV ([]), strV ([]), .int .i64 (0 : Int)]]) [1, 0] (spec_l7Map_con c V_c0 B_c R2 H3) kc33 rfl rfl ⟨(Base.can HB_V_c0), trivial⟩) rfl rfl rfl (fun Y4 => ?_)
  refine TO.y (Y.build (cells := [Y4, strV ([]), strV ([]), .int .i64 (-1 : Int)]) [(0, [Y4]), (3, [.int .i64 (-1 : Int)])] kp28 kz28 ⟨rfl, ⟨_, rfl, (Cel.one (One.can (Can.own 1 rfl)))⟩, ⟨rfl, ⟨_, rfl, (Cel.plain rfl rfl)⟩, trivial⟩⟩ rfl) rfl rfl rfl ?_
  refine TO.ef (Ef.alloc kz28 rfl) rfl rfl rfl (fun B5 => ?_)
  refine TO.ef0 (Ef.store_box (us := [Y4, strV ([]), strV ([]), .int .i64 (-1 : Int)]) (vs' := [Y4, strV ([]), strV ([]), .int .i64 (-1 : Int)]) (is' := [.box B5 28 [Y4, strV ([]), strV ([]), .int .i64 (-1 : Int)], .box B_c 94 [V_c0, .int .i64 R2.2.i, .int .i64 R2.2.h], .own Y4 (lc R2.1), .box B1 28 [.slice none 0 0, strV ([]), strV ([]), .int .i64 (0 : Int)]]) 0 kk28 rfl rfl rfl (Cel.agg ⟨(One.can (Can.own 2 rfl)), (One.plain rfl), (One.plain rfl), (One.plain rfl), trivial⟩) rfl rfl rfl rfl) rfl rfl (fun _ => ?_)
  refine TO.nil ?_
  refine TE.next ?_
  refine TW.seq ?_
  refine TW.seq ?_
  refine TW.region ?_
  refine TO.y (Y.move rfl) rfl rfl rfl ?_
  refine TO.bind fun R6 H7 => ?_
  refine TO.ef (Ef.call (rest := [.box B5 28 [Y4, strV ([]), strV ([]), .int .i64 (-1 : Int)], .own Y4 (lc R2.1), .box B1 28 [.slice none 0 0, strV ([]), strV ([]), .int .i64 (0 : Int)]]) [1, 0, 0, 0] (spec_l1Once_con ({ b := c.b, i := R2.2.i, h := R2.2.h : L1Cur }) (2 : Int) V_c0 B_c R6 H7) kc46 rfl rfl ⟨(Base.can HB_V_c0), trivial⟩) rfl rfl rfl (fun _ => ?_)
  refine TO.nil ?_
  refine TE.next ?_
  refine TW.joinX (τ := Int × Int × List UInt8) (X := Unit) (fun _ _ => [(0, .pointer (some ⟨B_c, 0, none⟩)), (2, .pointer (some ⟨B1, 0, none⟩)), (3, .pointer (some ⟨B5, 0, none⟩))]) (fun T _ => [.box B_c 94 [V_c0, .int .i64 T.1, .int .i64 T.2.1], .box B1 28 [.slice none 0 0, strV ([]), strV ([]), .int .i64 (0 : Int)], .box B5 28 [Y4, strV T.2.2, strV ([]), .int .i64 (-1 : Int)], .own Y4 (lc R2.1)]) ?_ (fun T9 X10 => ?_)
  · refine TW.cond rfl (fun H11 => ?_) (fun H11 => ?_)
    · refine TW.region ?_
      refine TO.y (Y.move rfl) rfl rfl rfl ?_
      refine TO.bind fun R12 H13 => ?_
      refine TO.ef (Ef.call (rest := [.box B5 28 [Y4, strV ([]), strV ([]), .int .i64 (-1 : Int)], .own Y4 (lc R2.1), .box B1 28 [.slice none 0 0, strV ([]), strV ([]), .int .i64 (0 : Int)]]) [0, 0, 0, 0] (spec_l7Key_con ({ b := c.b, i := R6.2.i, h := R6.2.h : L1Cur }) V_c0 B_c R12 H13) kc34 rfl rfl ⟨(Base.can HB_V_c0), trivial⟩) rfl rfl rfl (fun _ => ?_)
      refine TO.y (Y.field_box kf28_1 rfl rfl) rfl rfl rfl ?_
      refine TO.ef0 (Ef.store_box (us := [strV R12.1]) (vs' := [Y4, strV R12.1, strV ([]), .int .i64 (-1 : Int)]) (is' := [.box B_c 94 [V_c0, .int .i64 R12.2.i, .int .i64 R12.2.h], .box B5 28 [Y4, strV R12.1, strV ([]), .int .i64 (-1 : Int)], .own Y4 (lc R2.1), .box B1 28 [.slice none 0 0, strV ([]), strV ([]), .int .i64 (0 : Int)]]) 1 kk9 rfl rfl rfl (Cel.plain rfl rfl) rfl rfl rfl rfl) rfl rfl (fun _ => ?_)
      refine TO.nil ?_
      exact TE.jn_go () [0, 2, 0, 0] ⟨rfl, rfl, rfl, trivial⟩ rfl
    · refine TW.skip ?_
      exact TE.jn_go () [0, 2, 0, 0] ⟨rfl, rfl, rfl, trivial⟩ rfl
  · refine TE.next ?_
    refine TW.seq ?_
    refine TW.seq ?_
    refine TW.region ?_
    refine TO.y (Y.move rfl) rfl rfl rfl ?_
    refine TO.bind fun R15 H16 => ?_
    refine TO.ef (Ef.call (rest := [.box B1 28 [.slice none 0 0, strV ([]), strV ([]), .int .i64 (0 : Int)], .box B5 28 [Y4, strV T9.2.2, strV ([]), .int .i64 (-1 : Int)], .own Y4 (lc R2.1)]) [0, 0, 0, 0] (spec_l1Once_con ({ b := c.b, i := T9.1, h := T9.2.1 : L1Cur }) (2 : Int) V_c0 B_c R15 H16) kc46 rfl rfl ⟨(Base.can HB_V_c0), trivial⟩) rfl rfl rfl (fun _ => ?_)
    refine TO.nil ?_
    refine TE.next ?_
    refine TW.joinX (τ := Int × Int × List UInt8) (X := Unit) (fun _ _ => [(0, .pointer (some ⟨B_c, 0, none⟩)), (2, .pointer (some ⟨B1, 0, none⟩)), (3, .pointer (some ⟨B5, 0, none⟩))]) (fun T _ => [.box B_c 94 [V_c0, .int .i64 T.1, .int .i64 T.2.1], .box B1 28 [.slice none 0 0, strV ([]), strV ([]), .int .i64 (0 : Int)], .box B5 28 [Y4, strV T9.2.2, strV T.2.2, .int .i64 (-1 : Int)], .own Y4 (lc R2.1)]) ?_ (fun T18 X19 => ?_)
    · refine TW.cond rfl (fun H20 => ?_) (fun H20 => ?_)
      · refine TW.region ?_
        refine TO.y (Y.move rfl) rfl rfl rfl ?_
        refine TO.bind fun R21 H22 => ?_
        refine TO.ef (Ef.call (rest := [.box B1 28 [.slice none 0 0, strV ([]), strV ([]), .int .i64 (0 : Int)], .box B5 28 [Y4, strV T9.2.2, strV ([]), .int .i64 (-1 : Int)], .own Y4 (lc R2.1)]) [0, 0, 0, 0] (spec_l7Key_con ({ b := c.b, i := R15.2.i, h := R15.2.h : L1Cur }) V_c0 B_c R21 H22) kc34 rfl rfl ⟨(Base.can HB_V_c0), trivial⟩) rfl rfl rfl (fun _ => ?_)
        refine TO.y (Y.field_box kf28_2 rfl rfl) rfl rfl rfl ?_
        refine TO.ef0 (Ef.store_box (us := [strV R21.1]) (vs' := [Y4, strV T9.2.2, strV R21.1, .int .i64 (-1 : Int)]) (is' := [.box B_c 94 [V_c0, .int .i64 R21.2.i, .int .i64 R21.2.h], .box B1 28 [.slice none 0 0, strV ([]), strV ([]), .int .i64 (0 : Int)], .box B5 28 [Y4, strV T9.2.2, strV R21.1, .int .i64 (-1 : Int)], .own Y4 (lc R2.1)]) 2 kk9 rfl rfl rfl (Cel.plain rfl rfl) rfl rfl rfl rfl) rfl rfl (fun _ => ?_)
        refine TO.nil ?_
        exact TE.jn_go () [0, 0, 0, 0] ⟨rfl, rfl, rfl, trivial⟩ rfl
      · refine TW.skip ?_
        exact TE.jn_go () [0, 0, 0, 0] ⟨rfl, rfl, rfl, trivial⟩ rfl
    · refine TE.next ?_
      refine TW.seq ?_
      refine TW.region ?_
      refine TO.y (Y.move rfl) rfl rfl rfl ?_
      refine TO.y (Y.field_box kf28_0 rfl rfl) rfl rfl rfl ?_
      refine TO.y (Y.load_box (v := Y4) 2 kk24 rfl rfl rfl) rfl rfl rfl ?_
      refine TO.y (Y.len (l := R2.1) ke24 (Can.own 3 rfl) rfl) rfl rfl rfl ?_
      refine TO.y (Y.add rfl rfl) rfl rfl rfl ?_
      refine TO.bind fun R24 H25 => ?_
      refine TO.ef (Ef.call (rest := [.box B1 28 [.slice none 0 0, strV ([]), strV ([]), .int .i64 (0 : Int)], .box B5 28 [Y4, strV T9.2.2, strV T18.2.2, .int .i64 (-1 : Int)], .own Y4 (lc R2.1)]) [0, 0, 0, 0] (spec_l1Below_con ({ b := c.b, i := T18.1, h := T18.2.1 : L1Cur }) (IntKind.i64.wrap (((R2.1.length : Nat) : Int) + (2 : Int))) V_c0 B_c R24 H25) kc64 rfl rfl ⟨(Base.can HB_V_c0), trivial⟩) rfl rfl rfl (fun _ => ?_)
      refine TO.y (Y.sub rfl rfl) rfl rfl rfl ?_
      refine TO.y (Y.field_box kf28_3 rfl rfl) rfl rfl rfl ?_
      refine TO.ef0 (Ef.store_box (us := [.int .i64 (IntKind.i64.wrap (R24.1 - (1 : Int)))]) (vs' := [Y4, strV T9.2.2, strV T18.2.2, .int .i64 (IntKind.i64.wrap (R24.1 - (1 : Int)))]) (is' := [.box B_c 94 [V_c0, .int .i64 R24.2.i, .int .i64 R24.2.h], .box B1 28 [.slice none 0 0, strV ([]), strV ([]), .int .i64 (0 : Int)], .box B5 28 [Y4, strV T9.2.2, strV T18.2.2, .int .i64 (IntKind.i64.wrap (R24.1 - (1 : Int)))], .own Y4 (lc R2.1)]) 2 kk3 rfl rfl rfl (Cel.plain rfl rfl) rfl rfl rfl rfl) rfl rfl (fun _ => ?_)
      refine TO.nil ?_
      refine TE.next ?_
      refine TW.seq ?_
      refine TW.seq ?_
      refine TW.region ?_
      refine TO.y (Y.move rfl) rfl rfl rfl ?_
      refine TO.bind fun R27 H28 => ?_
      refine TO.ef (Ef.call (rest := [.box B1 28 [.slice none 0 0, strV ([]), strV ([]), .int .i64 (0 : Int)], .box B5 28 [Y4, strV T9.2.2, strV T18.2.2, .int .i64 (IntKind.i64.wrap (R24.1 - (1 : Int)))], .own Y4 (lc R2.1)]) [0, 0, 0, 0] (spec_l1Once_con ({ b := c.b, i := R24.2.i, h := R24.2.h : L1Cur }) (12 : Int) V_c0 B_c R27 H28) kc46 rfl rfl ⟨(Base.can HB_V_c0), trivial⟩) rfl rfl rfl (fun _ => ?_)
      refine TO.nil ?_
      refine TE.next ?_
      refine TW.joinX (τ := Int × Int × Int) (X := Unit) (fun _ _ => [(2, .pointer (some ⟨B1, 0, none⟩)), (3, .pointer (some ⟨B5, 0, none⟩))]) (fun T _ => [.box B1 28 [.slice none 0 0, strV ([]), strV ([]), .int .i64 (0 : Int)], .box B5 28 [Y4, strV T9.2.2, strV T18.2.2, .int .i64 T.1], .box B_c 94 [V_c0, .int .i64 T.2.1, .int .i64 T.2.2], .own Y4 (lc R2.1)]) ?_ (fun T30 X31 => ?_)
      · refine TW.cond rfl (fun H32 => ?_) (fun H32 => ?_)
        · refine TW.region ?_
          refine TO.y (Y.move rfl) rfl rfl rfl ?_
          refine TO.ef (Ef.buildSlice (α := Int) (Vs := [.int .i64 (-2 : Int), .int .i64 (99 : Int)]) [(-2 : Int), (99 : Int)] ke41 kz3 rfl rfl rfl rfl rfl) rfl rfl rfl (fun B33 => ?_)
          refine TO.bind fun R34 H35 => ?_
          refine TO.ef (Ef.call (rest := [.own (.slice (some ⟨B33, 0, none⟩) 2 2) (lc ([(-2 : Int), (99 : Int)])), .box B1 28 [.slice none 0 0, strV ([]), strV ([]), .int .i64 (0 : Int)], .box B5 28 [Y4, strV T9.2.2, strV T18.2.2, .int .i64 (IntKind.i64.wrap (R24.1 - (1 : Int)))], .own Y4 (lc R2.1)]) [1, 0, 0, 0, 0] (spec_l1PickInt_con ({ b := c.b, i := R27.2.i, h := R27.2.h : L1Cur }) ([(-2 : Int), (99 : Int)]) V_c0 B_c (.slice (some ⟨B33, 0, none⟩) 2 2) R34 H35) kc54 rfl rfl ⟨(Base.can HB_V_c0), (Can.own 0 rfl), trivial⟩) rfl rfl rfl (fun _ => ?_)
          refine TO.y (Y.field_box kf28_3 rfl rfl) rfl rfl rfl ?_
          refine TO.ef0 (Ef.store_box (us := [.int .i64 R34.1]) (vs' := [Y4, strV T9.2.2, strV T18.2.2, .int .i64 R34.1]) (is' := [.box B_c 94 [V_c0, .int .i64 R34.2.i, .int .i64 R34.2.h], .own (.slice (some ⟨B33, 0, none⟩) 2 2) (lc ([(-2 : Int), (99 : Int)])), .box B1 28 [.slice none 0 0, strV ([]), strV ([]), .int .i64 (0 : Int)], .box B5 28 [Y4, strV T9.2.2, strV T18.2.2, .int .i64 R34.1], .own Y4 (lc R2.1)]) 3 kk3 rfl rfl rfl (Cel.plain rfl rfl) rfl rfl rfl rfl) rfl rfl (fun _ => ?_)
          refine TO.nil ?_
          exact TE.jn_go () [2, 2, 0, 1] ⟨rfl, rfl, trivial⟩ rfl
        · refine TW.skip ?_
          exact TE.jn_go () [1, 1, 0, 0] ⟨rfl, rfl, trivial⟩ rfl
      · refine TE.next ?_
        refine TW.seq ?_
        refine TW.region ?_
        refine TO.y (Y.load_box (v := .agg #[Y4, strV T9.2.2, strV T18.2.2, .int .i64 T30.1]) 1 kk28 rfl rfl rfl) rfl rfl rfl ?_
        refine TO.ef0 (Ef.store_box (us := [Y4, strV T9.2.2, strV T18.2.2, .int .i64 T30.1]) (vs' := [Y4, strV T9.2.2, strV T18.2.2, .int .i64 T30.1]) (is' := [.box B1 28 [Y4, strV T9.2.2, strV T18.2.2, .int .i64 T30.1], .box B5 28 [Y4, strV T9.2.2, strV T18.2.2, .int .i64 T30.1], .box B_c 94 [V_c0, .int .i64 T30.2.1, .int .i64 T30.2.2], .own Y4 (lc R2.1)]) 0 kk28 rfl rfl rfl (Cel.agg ⟨(One.can (Can.own 3 rfl)), (One.plain rfl), (One.plain rfl), (One.plain rfl), trivial⟩) rfl rfl rfl rfl) rfl rfl (fun _ => ?_)
        refine TO.nil ?_
        refine TE.next ?_
        refine TW.ret ?_
        exact TE.leaf fun _ _ hf_ hs_ => ret_any (rs := [.cell 2 28]) (vs := [.agg #[Y4, strV T9.2.2, strV T18.2.2, .int .i64 T30.1]]) (.inl rfl) rfl (RV.cell 0 rfl rfl kk28 rfl trivial) hf_ hs_ ⟨Y4, rfl, hs_.pulls [2, 2] rfl⟩

/-- loop.example/g00950/spec.DrawIterSeek -/
noncomputable def spec_DrawIterSeek (code : List UInt8) : Option (Iter × List UInt8) :=
  (spec_l1New code).bind fun R2 =>
  (spec_l14Some ({ b := code, i := R2.i, h := R2.h : L1Cur })).bind fun R5 =>
  (spec_l7Key ({ b := code, i := R5.2.i, h := R5.2.h : L1Cur })).bind fun R9 =>
  some (R5.1, R9.1)

theorem spec_DrawIterSeek_con (code : List UInt8) (V_code0 : Value) (r : Iter × List UInt8) (hm : spec_DrawIterSeek code = some r) :
    Con Try.prog 13 [V_code0] [] [(V_code0, lc code)] (fun X : Value => .tuple #[.agg #[X, strV r.1.From, strV r.1.To, .int .i64 r.1.At], strV r.2]) (fun X => [.own X (lc r.1.List)]) := by
  refine Con.intro (args := [V_code0]) (n := 13) (val := fun r (X : Value) => .tuple #[.agg #[X, strV r.1.From, strV r.1.To, .int .i64 r.1.At], strV r.2]) (post := fun r X => [.own X (lc r.1.List)]) (m := spec_DrawIterSeek code) Try.func13 rfl rfl rfl hm ?_
  intro w S hrd
  have HB_V_code0 := hrd _ (.head _)
  clear hrd
  unfold spec_DrawIterSeek
  refine TW.seq ?_
  refine TW.region ?_
  refine TO.ef (Ef.alloc kz28 rfl) rfl rfl rfl (fun B1 => ?_)
  refine TO.y (Y.assign rfl) rfl rfl rfl ?_
  refine TO.nil ?_
  refine TE.next ?_
  refine TW.seq ?_
  refine TW.region ?_
  refine TO.y (Y.move rfl) rfl rfl rfl ?_
  refine TO.bind fun R2 H3 => ?_
  refine TO.ef (Ef.call (rest := [.box B1 28 [.slice none 0 0, strV ([]), strV ([]), .int .i64 (0 : Int)]]) [0] (spec_l1New_con code V_code0 R2 H3) kc32 rfl rfl ⟨(Base.can HB_V_code0), trivial⟩) rfl rfl rfl (fun Y4 => ?_)
  refine TO.y (Y.assign rfl) rfl rfl rfl ?_
  refine TO.nil ?_
  refine TE.next ?_
  refine TW.seq ?_
  refine TW.region ?_
  refine TO.y (Y.move rfl) rfl rfl rfl ?_
  refine TO.bind fun R5 H6 => ?_
  refine TO.ef (Ef.call (rest := [.box B1 28 [.slice none 0 0, strV ([]), strV ([]), .int .i64 (0 : Int)]]) [0, 0] (spec_l14Some_con ({ b := code, i := R2.i, h := R2.h : L1Cur }) V_code0 Y4 R5 H6) kc41 rfl rfl ⟨(Base.can HB_V_code0), trivial⟩) rfl rfl rfl (fun Y7 => ?_)
  refine TO.ef (Ef.alloc kz28 rfl) rfl rfl rfl (fun B8 => ?_)
  refine TO.ef0 (Ef.store_box (us := [Y7, strV R5.1.From, strV R5.1.To, .int .i64 R5.1.At]) (vs' := [Y7, strV R5.1.From, strV R5.1.To, .int .i64 R5.1.At]) (is' := [.box B8 28 [Y7, strV R5.1.From, strV R5.1.To, .int .i64 R5.1.At], .box Y4 94 [V_code0, .int .i64 R5.2.i, .int .i64 R5.2.h], .own Y7 (lc R5.1.List), .box B1 28 [.slice none 0 0, strV ([]), strV ([]), .int .i64 (0 : Int)]]) 0 kk28 rfl rfl rfl (Cel.agg ⟨(One.can (Can.own 2 rfl)), (One.plain rfl), (One.plain rfl), (One.plain rfl), trivial⟩) rfl rfl rfl rfl) rfl rfl (fun _ => ?_)
  refine TO.nil ?_
  refine TE.next ?_
  refine TW.seq ?_
  refine TW.draw (isH := [.box B8 28 [Y7, strV R5.1.From, strV R5.1.To, .int .i64 R5.1.At], .own Y7 (lc R5.1.List)]) hMix ?_
  refine TA.y (listed' := #[true, false, false, false, false]) 0 [0, 1] rfl (Y.load_box (v := .agg #[Y7, strV R5.1.From, strV R5.1.To, .int .i64 R5.1.At]) 0 kk28 rfl rfl rfl) rfl rfl rfl (by kernel_rfl) (by kernel_rfl) (by kernel_rfl) rfl rfl ?_
  refine TA.y (listed' := #[true, true, false, false, false]) 1 [0, 1] rfl (Y.move rfl) rfl rfl rfl (by kernel_rfl) (by kernel_rfl) (by kernel_rfl) rfl rfl ?_
  refine TA.bind fun R9 H10 => ?_
  refine TA.one 2 (by kernel_rfl) ?_
  refine TX.ef (listed' := #[true, true, true, false, false]) [1, 1] rfl (Ef.call (rest := [.box B8 28 [Y7, strV R5.1.From, strV R5.1.To, .int .i64 R5.1.At], .own Y7 (lc R5.1.List), .box B1 28 [.slice none 0 0, strV ([]), strV ([]), .int .i64 (0 : Int)]]) [1, 0, 0, 0] (spec_l7Key_con ({ b := code, i := R5.2.i, h := R5.2.h : L1Cur }) V_code0 Y4 R9 H10) kc34 rfl rfl ⟨(Base.can HB_V_code0), trivial⟩) rfl rfl rfl rfl (fun _ => rfl) (fun _ => ?_)
  refine TA.one 3 (by kernel_rfl) ?_
  refine TX.ef0 (listed' := #[true, true, true, true, false]) [1, 1] rfl (Ef.store_box (us := [Y7, strV R5.1.From, strV R5.1.To, .int .i64 R5.1.At]) (vs' := [Y7, strV R5.1.From, strV R5.1.To, .int .i64 R5.1.At]) (is' := [.box Y4 94 [V_code0, .int .i64 R9.2.i, .int .i64 R9.2.h], .box B8 28 [Y7, strV R5.1.From, strV R5.1.To, .int .i64 R5.1.At], .own Y7 (lc R5.1.List), .box B1 28 [Y7, strV R5.1.From, strV R5.1.To, .int .i64 R5.1.At]]) 3 kk28 rfl rfl rfl (Cel.agg ⟨(One.can (Can.own 2 rfl)), (One.plain rfl), (One.plain rfl), (One.plain rfl), trivial⟩) rfl rfl rfl rfl) rfl rfl rfl (fun _ => rfl) (fun _ => ?_)
  refine TA.y (listed' := #[true, true, true, true, true]) 4 [1, 1] rfl (Y.assign rfl) rfl rfl rfl (by kernel_rfl) (by kernel_rfl) (by kernel_rfl) rfl rfl ?_
  refine TA.nil (by kernel_rfl) ?_
  refine TE.next ?_
  refine TW.ret ?_
  exact TE.leaf fun _ _ hf_ hs_ => ret_any (rs := [.cell 2 28, .tmp 3]) (vs := [.agg #[Y7, strV R5.1.From, strV R5.1.To, .int .i64 R5.1.At], strV R9.1]) (.inl rfl) rfl (RV.cell 3 rfl rfl kk28 rfl ⟨rfl, trivial⟩) hf_ hs_ ⟨Y7, rfl, hs_.pulls [2] rfl⟩

/-- loop.example/g00950/impl.IterSeek -/
noncomputable def impl_IterSeek (x : Iter) (key : List UInt8) : Option (Iter × KV × Bool) :=
  (impl_IterOk x).bind fun R4 =>
  if (!R4) = true then (some ({ List := ([] : List KV), From := [], To := [], At := (0 : Int) : Iter }, { Key := [], Val := [] : KV }, false))
  else (bindC (loopO (fun (S9 : Int) => (if (decide (S9 < ((x.List.length : Nat) : Int))) = true then ((idx x.List S9).bind fun E16 =>
  if (sLt E16.Key key) = true then (some true)
  else ((impl_Iter_isWithin x S9).bind fun R19 =>
  some (!R19)))
  else (some false)).bind (fun (T13 : Bool) =>
  if T13 = true then (some (.go (IntKind.i64.wrap (S9 + (1 : Int)))))
  else (some (.done (.go S9)))))
  (0 : Int))
  (fun (T11 : Int) => (impl_moveTo x T11).bind fun R23 =>
  some (R23.1, R23.2.1, R23.2.2)))

theorem impl_IterSeek_con (x : Iter) (key : List UInt8) (V_x0 : Value) (r : Iter × KV × Bool) (hm : impl_IterSeek x key = some r) :
    Con Try.prog 14 [.agg #[V_x0, strV x.From, strV x.To, .int .i64 x.At], strV key] [] [(V_x0, lc x.List)] (fun X : Value => .tuple #[.agg #[X, strV r.1.From, strV r.1.To, .int .i64 r.1.At], .agg #[strV r.2.1.Key, strV r.2.1.Val], .bool r.2.2]) (fun X => [.own X (lc r.1.List)]) := by
  refine Con.intro (args := [.agg #[V_x0, strV x.From, strV x.To, .int .i64 x.At], strV key]) (n := 42) (val := fun r (X : Value) => .tuple #[.agg #[X, strV r.1.From, strV r.1.To, .int .i64 r.1.At], .agg #[strV r.2.1.Key, strV r.2.1.Val], .bool r.2.2]) (post := fun r X => [.own X (lc r.1.List)]) (m := impl_IterSeek x key) Try.func14 rfl rfl rfl hm ?_
  intro w S hrd
  have HB_V_x0 := hrd _ (.head _)
  clear hrd
  unfold impl_IterSeek
  refine TW.seq ?_
  refine TW.region ?_
  refine TO.ef (Ef.box rfl (Cel.agg ⟨(One.can (Base.can HB_V_x0)), (One.plain rfl), (One.plain rfl), (One.plain rfl), trivial⟩)) rfl rfl rfl (fun B1 => ?_)
  refine TO.ef (Ef.alloc kz28 rfl) rfl rfl rfl (fun B2 => ?_)
  refine TO.ef (Ef.alloc kz33 rfl) rfl rfl rfl (fun B3 => ?_)
  refine TO.y (Y.assign rfl) rfl rfl rfl ?_
  refine TO.nil ?_
  refine TE.next ?_
  refine TW.seq ?_
  refine TW.seq ?_
  refine TW.region ?_
  refine TO.y (Y.load_box (v := .agg #[V_x0, strV x.From, strV x.To, .int .i64 x.At]) 2 kk28 rfl rfl rfl) rfl rfl rfl ?_
  refine TO.bind fun R4 H5 => ?_
  refine TO.ef (Ef.call (rest := [.box B3 33 [strV ([]), strV ([])], .box B2 28 [.slice none 0 0, strV ([]), strV ([]), .int .i64 (0 : Int)], .box B1 28 [V_x0, strV x.From, strV x.To, .int .i64 x.At]]) [0, 0, 0] (impl_IterOk_con x V_x0 R4 H5) kc38 rfl rfl ⟨(Base.can HB_V_x0), trivial⟩) rfl rfl rfl (fun _ => ?_)
  refine TO.y (Y.not rfl) rfl rfl rfl ?_
  refine TO.nil ?_
  refine TE.next ?_
  refine TW.cond rfl (fun H7 => ?_) (fun H7 => ?_)
  · refine TW.seq ?_
    refine TW.region ?_
    refine TO.y (Y.build (cells := [.slice none 0 0, strV ([]), strV ([]), .int .i64 (0 : Int)]) [] kp28 kz28 trivial rfl) rfl rfl rfl ?_
    refine TO.y (Y.build (cells := [strV ([]), strV ([])]) [] kp33 kz33 trivial rfl) rfl rfl rfl ?_
    refine TO.ef0 (Ef.store_box (us := [.slice none 0 0, strV ([]), strV ([]), .int .i64 (0 : Int)]) (vs' := [.slice none 0 0, strV ([]), strV ([]), .int .i64 (0 : Int)]) (is' := [.box B3 33 [strV ([]), strV ([])], .box B2 28 [.slice none 0 0, strV ([]), strV ([]), .int .i64 (0 : Int)], .box B1 28 [V_x0, strV x.From, strV x.To, .int .i64 x.At]]) 1 kk28 rfl rfl rfl (Cel.plain rfl rfl) rfl rfl rfl rfl) rfl rfl (fun _ => ?_)
    refine TO.ef0 (Ef.store_box (us := [strV ([]), strV ([])]) (vs' := [strV ([]), strV ([])]) (is' := [.box B3 33 [strV ([]), strV ([])], .box B2 28 [.slice none 0 0, strV ([]), strV ([]), .int .i64 (0 : Int)], .box B1 28 [V_x0, strV x.From, strV x.To, .int .i64 x.At]]) 0 kk33 rfl rfl rfl (Cel.plain rfl rfl) rfl rfl rfl rfl) rfl rfl (fun _ => ?_)
    refine TO.y (Y.assign rfl) rfl rfl rfl ?_
    refine TO.nil ?_
    refine TE.next ?_
    refine TW.ret ?_
    refine TE.then_ret ?_
    exact TE.leaf fun _ _ hf_ hs_ => ret_any (rs := [.cell 4 28, .cell 5 33, .tmp 6]) (vs := [.agg #[.slice none 0 0, strV ([]), strV ([]), .int .i64 (0 : Int)], .agg #[strV ([]), strV ([])], .bool false]) (.inl rfl) rfl (RV.cell 1 rfl rfl kk28 rfl (RV.cell 0 rfl rfl kk33 rfl ⟨rfl, trivial⟩)) hf_ hs_ ⟨(.slice none 0 0), rfl, (hs_.nilItem 2).pulls [0] rfl⟩
  · refine TW.skip ?_
    refine TE.next ?_
    refine TW.seq ?_
    refine TW.region ?_
    refine TO.y (Y.assign rfl) rfl rfl rfl ?_
    refine TO.nil ?_
    refine TE.next ?_
    refine TW.seq ?_
    refine TW.joinX (τ := Int) (X := Unit) (fun T _ => [(2, .pointer (some ⟨B1, 0, none⟩)), (4, .pointer (some ⟨B2, 0, none⟩)), (5, .pointer (some ⟨B3, 0, none⟩)), (7, .int .i64 T)]) (fun _ _ => [.box B1 28 [V_x0, strV x.From, strV x.To, .int .i64 x.At], .box B2 28 [.slice none 0 0, strV ([]), strV ([]), .int .i64 (0 : Int)], .box B3 33 [strV ([]), strV ([])]]) ?_ (fun T11 X12 => ?_)
    · refine TW.block ?_
      refine TW.loopX (σ := Int) (X := Unit) (fun T _ => [(1, strV key), (2, .pointer (some ⟨B1, 0, none⟩)), (4, .pointer (some ⟨B2, 0, none⟩)), (5, .pointer (some ⟨B3, 0, none⟩)), (7, .int .i64 T)]) (fun _ _ => [.box B1 28 [V_x0, strV x.From, strV x.To, .int .i64 x.At], .box B2 28 [.slice none 0 0, strV ([]), strV ([]), .int .i64 (0 : Int)], .box B3 33 [strV ([]), strV ([])]]) () [2, 1, 0] ⟨rfl, rfl, rfl, rfl, rfl, trivial⟩ rfl (fun S9 X10 => ?_)
      refine TW.seq ?_
      refine TW.seq ?_
      refine TW.joinBX (τ := Bool) (X := Unit) (fun T _ => [(1, strV key), (2, .pointer (some ⟨B1, 0, none⟩)), (4, .pointer (some ⟨B2, 0, none⟩)), (5, .pointer (some ⟨B3, 0, none⟩)), (7, .int .i64 S9), (33, .bool T)]) (fun _ _ => [.box B1 28 [V_x0, strV x.From, strV x.To, .int .i64 x.At], .box B2 28 [.slice none 0 0, strV ([]), strV ([]), .int .i64 (0 : Int)], .box B3 33 [strV ([]), strV ([])]]) ?_ (fun T13 X14 => ?_)
      · refine TW.region ?_
        refine TO.y (Y.move rfl) rfl rfl rfl ?_
        refine TO.y (Y.field_box kf28_0 rfl rfl) rfl rfl rfl ?_
        refine TO.y (Y.load_box (v := V_x0) 0 kk24 rfl rfl rfl) rfl rfl rfl ?_
        refine TO.y (Y.len (l := x.List) ke24 (Base.can HB_V_x0) rfl) rfl rfl rfl ?_
        refine TO.y (Y.lss rfl rfl) rfl rfl rfl ?_
        refine TO.y (Y.move rfl) rfl rfl rfl ?_
        refine TO.ite (b := decide (S9 < ((x.List.length : Nat) : Int))) (fun H15 => ?_) (fun H15 => ?_)
        · refine TO.y (Y.field_box kf28_0 rfl rfl) (Gd.at 5 true 18 (decide (S9 < ((x.List.length : Nat) : Int))) rfl rfl rfl (beq_tt H15)) rfl rfl ?_
          refine TO.y (Y.load_box (v := V_x0) 0 kk24 rfl rfl rfl) (Gd.at 5 true 18 (decide (S9 < ((x.List.length : Nat) : Int))) rfl rfl rfl (beq_tt H15)) rfl rfl ?_
          refine TO.y (Y.move rfl) (Gd.at 5 true 18 (decide (S9 < ((x.List.length : Nat) : Int))) rfl rfl rfl (beq_tt H15)) rfl rfl ?_
          refine TO.bind fun E16 H17 => ?_
          refine TO.y (Y.index ke24 (Base.can HB_V_x0) H17 rfl rfl) (Gd.at 5 true 18 (decide (S9 < ((x.List.length : Nat) : Int))) rfl rfl rfl (beq_tt H15)) rfl rfl ?_
          refine TO.y (Y.field_el kf33_0 (Base.can HB_V_x0) (idx_get H17).2.2 rfl rfl) (Gd.at 5 true 18 (decide (S9 < ((x.List.length : Nat) : Int))) rfl rfl rfl (beq_tt H15)) rfl rfl ?_
          refine TO.y (Y.load_el (us := [strV E16.Key]) (u := strV E16.Key) kk9 rfl (Base.can HB_V_x0) (idx_get H17).2.2 rfl rfl rfl rfl rfl) (Gd.at 5 true 18 (decide (S9 < ((x.List.length : Nat) : Int))) rfl rfl rfl (beq_tt H15)) rfl rfl ?_
          refine TO.y (Y.move rfl) (Gd.at 5 true 18 (decide (S9 < ((x.List.length : Nat) : Int))) rfl rfl rfl (beq_tt H15)) rfl rfl ?_
          refine TO.y (Y.slss rfl rfl) (Gd.at 5 true 18 (decide (S9 < ((x.List.length : Nat) : Int))) rfl rfl rfl (beq_tt H15)) rfl rfl ?_
          refine TO.y (Y.move rfl) (Gd.at 5 true 18 (decide (S9 < ((x.List.length : Nat) : Int))) rfl rfl rfl (beq_tt H15)) rfl rfl ?_
          refine TO.ite (b := sLt E16.Key key) (fun H18 => ?_) (fun H18 => ?_)
          · refine TO.off (Gd.at 14 false 27 (sLt E16.Key key) rfl rfl rfl (beq_tf H18)) rfl rfl ?_
            refine TO.off (Gd.at 14 false 27 (sLt E16.Key key) rfl rfl rfl (beq_tf H18)) rfl rfl ?_
            refine TO.off (Gd.at 14 false 27 (sLt E16.Key key) rfl rfl rfl (beq_tf H18)) rfl rfl ?_
            refine TO.off (Gd.at 14 false 27 (sLt E16.Key key) rfl rfl rfl (beq_tf H18)) rfl rfl ?_
            refine TO.y (Y.pick_t H18 rfl rfl) (Gd.at 5 true 18 (decide (S9 < ((x.List.length : Nat) : Int))) rfl rfl rfl (beq_tt H15)) rfl rfl ?_
            refine TO.y (Y.pick_t H15 rfl rfl) rfl rfl rfl ?_
            refine TO.nil ?_
            exact TE.jb_go () [0, 0, 0] ⟨rfl, rfl, rfl, rfl, rfl, rfl, trivial⟩ rfl
          · refine TO.y (Y.load_box (v := .agg #[V_x0, strV x.From, strV x.To, .int .i64 x.At]) 0 kk28 rfl rfl rfl) (Gd.at 14 false 27 (sLt E16.Key key) rfl rfl rfl (beq_ff H18)) rfl rfl ?_
            refine TO.y (Y.move rfl) (Gd.at 14 false 27 (sLt E16.Key key) rfl rfl rfl (beq_ff H18)) rfl rfl ?_
            refine TO.bind fun R19 H20 => ?_
            refine TO.ef (Ef.call (rest := [.box B1 28 [V_x0, strV x.From, strV x.To, .int .i64 x.At], .box B2 28 [.slice none 0 0, strV ([]), strV ([]), .int .i64 (0 : Int)], .box B3 33 [strV ([]), strV ([])]]) [0, 0, 0] (impl_Iter_isWithin_con x S9 V_x0 R19 H20) kc39 rfl rfl ⟨(Base.can HB_V_x0), trivial⟩) (Gd.at 14 false 27 (sLt E16.Key key) rfl rfl rfl (beq_ff H18)) rfl rfl (fun _ => ?_)
            refine TO.y (Y.not rfl) (Gd.at 14 false 27 (sLt E16.Key key) rfl rfl rfl (beq_ff H18)) rfl rfl ?_
            refine TO.y (Y.pick_f H18 rfl rfl) (Gd.at 5 true 18 (decide (S9 < ((x.List.length : Nat) : Int))) rfl rfl rfl (beq_tt H15)) rfl rfl ?_
            refine TO.y (Y.pick_t H15 rfl rfl) rfl rfl rfl ?_
            refine TO.nil ?_
            exact TE.jb_go () [0, 0, 0] ⟨rfl, rfl, rfl, rfl, rfl, rfl, trivial⟩ rfl
        · refine TO.off (Gd.at 5 true 18 (decide (S9 < ((x.List.length : Nat) : Int))) rfl rfl rfl (beq_ft H15)) rfl rfl ?_
          refine TO.off (Gd.at 5 true 18 (decide (S9 < ((x.List.length : Nat) : Int))) rfl rfl rfl (beq_ft H15)) rfl rfl ?_
          refine TO.off (Gd.at 5 true 18 (decide (S9 < ((x.List.length : Nat) : Int))) rfl rfl rfl (beq_ft H15)) rfl rfl ?_
          refine TO.off (Gd.at 5 true 18 (decide (S9 < ((x.List.length : Nat) : Int))) rfl rfl rfl (beq_ft H15)) rfl rfl ?_
          refine TO.off (Gd.at 5 true 18 (decide (S9 < ((x.List.length : Nat) : Int))) rfl rfl rfl (beq_ft H15)) rfl rfl ?_
          refine TO.off (Gd.at 5 true 18 (decide (S9 < ((x.List.length : Nat) : Int))) rfl rfl rfl (beq_ft H15)) rfl rfl ?_
          refine TO.off (Gd.at 5 true 18 (decide (S9 < ((x.List.length : Nat) : Int))) rfl rfl rfl (beq_ft H15)) rfl rfl ?_
          refine TO.off (Gd.at 5 true 18 (decide (S9 < ((x.List.length : Nat) : Int))) rfl rfl rfl (beq_ft H15)) rfl rfl ?_
          refine TO.off (Gd.at 5 true 18 (decide (S9 < ((x.List.length : Nat) : Int))) rfl rfl rfl (beq_ft H15)) rfl rfl ?_
          refine TO.off (Gd.un 14 false 27 rfl rfl rfl) rfl rfl ?_
          refine TO.off (Gd.un 14 false 27 rfl rfl rfl) rfl rfl ?_
          refine TO.off (Gd.un 14 false 27 rfl rfl rfl) rfl rfl ?_
          refine TO.off (Gd.un 14 false 27 rfl rfl rfl) rfl rfl ?_
          refine TO.off (Gd.at 5 true 18 (decide (S9 < ((x.List.length : Nat) : Int))) rfl rfl rfl (beq_ft H15)) rfl rfl ?_
          refine TO.y (Y.pick_f H15 rfl rfl) rfl rfl rfl ?_
          refine TO.nil ?_
          exact TE.jb_go () [0, 0, 0] ⟨rfl, rfl, rfl, rfl, rfl, rfl, trivial⟩ rfl
      · refine TE.next ?_
        refine TW.cond rfl (fun H22 => ?_) (fun H22 => ?_)
        · refine TW.skip ?_
          refine TE.next ?_
          refine TW.block ?_
          refine TW.region ?_
          refine TO.y (Y.move rfl) rfl rfl rfl ?_
          refine TO.y (Y.add rfl rfl) rfl rfl rfl ?_
          refine TO.y (Y.assign rfl) rfl rfl rfl ?_
          refine TO.nil ?_
          refine TE.block_normal ?_
          exact TE.lp_go () [0, 0, 0] ⟨rfl, rfl, rfl, rfl, rfl, trivial⟩ rfl
        · refine TW.exit ?_
          refine TE.then_exit ?_
          refine TE.lp_exit ?_
          refine TE.block_exit ?_
          exact TE.jn_go () [0, 0, 0] ⟨rfl, rfl, rfl, rfl, trivial⟩ rfl
    · refine TE.next ?_
      refine TW.seq ?_
      refine TW.region ?_
      refine TO.y (Y.load_box (v := .agg #[V_x0, strV x.From, strV x.To, .int .i64 x.At]) 0 kk28 rfl rfl rfl) rfl rfl rfl ?_
      refine TO.y (Y.move rfl) rfl rfl rfl ?_
      refine TO.bind fun R23 H24 => ?_
      refine TO.ef (Ef.call (rest := [.box B1 28 [V_x0, strV x.From, strV x.To, .int .i64 x.At], .box B2 28 [.slice none 0 0, strV ([]), strV ([]), .int .i64 (0 : Int)], .box B3 33 [strV ([]), strV ([])]]) [0, 0, 0] (impl_moveTo_con x T11 V_x0 R23 H24) kc40 rfl rfl ⟨(Base.can HB_V_x0), trivial⟩) rfl rfl rfl (fun Y25 => ?_)
      refine TO.y (Y.extract rfl rfl) rfl rfl rfl ?_
      refine TO.y (Y.extract rfl rfl) rfl rfl rfl ?_
      refine TO.y (Y.extract rfl rfl) rfl rfl rfl ?_
      refine TO.ef0 (Ef.store_box (us := [Y25, strV R23.1.From, strV R23.1.To, .int .i64 R23.1.At]) (vs' := [Y25, strV R23.1.From, strV R23.1.To, .int .i64 R23.1.At]) (is' := [.own Y25 (lc R23.1.List), .box B1 28 [V_x0, strV x.From, strV x.To, .int .i64 x.At], .box B2 28 [Y25, strV R23.1.From, strV R23.1.To, .int .i64 R23.1.At], .box B3 33 [strV ([]), strV ([])]]) 2 kk28 rfl rfl rfl (Cel.agg ⟨(One.can (Can.own 0 rfl)), (One.plain rfl), (One.plain rfl), (One.plain rfl), trivial⟩) rfl rfl rfl rfl) rfl rfl (fun _ => ?_)
      refine TO.ef0 (Ef.store_box (us := [strV R23.2.1.Key, strV R23.2.1.Val]) (vs' := [strV R23.2.1.Key, strV R23.2.1.Val]) (is' := [.own Y25 (lc R23.1.List), .box B1 28 [V_x0, strV x.From, strV x.To, .int .i64 x.At], .box B2 28 [Y25, strV R23.1.From, strV R23.1.To, .int .i64 R23.1.At], .box B3 33 [strV R23.2.1.Key, strV R23.2.1.Val]]) 3 kk33 rfl rfl rfl (Cel.plain rfl rfl) rfl rfl rfl rfl) rfl rfl (fun _ => ?_)
      refine TO.y (Y.assign rfl) rfl rfl rfl ?_
      refine TO.nil ?_
      refine TE.next ?_
      refine TW.ret ?_
      exact TE.leaf fun _ _ hf_ hs_ => ret_any (rs := [.cell 4 28, .cell 5 33, .tmp 6]) (vs := [.agg #[Y25, strV R23.1.From, strV R23.1.To, .int .i64 R23.1.At], .agg #[strV R23.2.1.Key, strV R23.2.1.Val], .bool R23.2.2]) (.inl rfl) rfl (RV.cell 2 rfl rfl kk28 rfl (RV.cell 3 rfl rfl kk33 rfl ⟨rfl, trivial⟩)) hf_ hs_ ⟨Y25, rfl, hs_.pulls [0] rfl⟩

/-- loop.example/g00950/spec.IterOk -/
noncomputable def spec_IterOk (x : Iter) : Option Bool :=
  ((spec_MapOk x.List).bind fun R4 =>
  if R4 = true then ((spec_l1In x.At (-1 : Int) ((x.List.length : Nat) : Int)).bind fun R8 =>
  some R8)
  else (some false)).bind (fun (T2 : Bool) =>
  some T2)

theorem spec_IterOk_con (x : Iter) (V_x0 : Value) (r : Bool) (hm : spec_IterOk x = some r) :
    Con Try.prog 42 [.agg #[V_x0, strV x.From, strV x.To, .int .i64 x.At]] [] [(V_x0, lc x.List)] (fun _ : Unit => .bool r) (fun _ => []) := by
  refine Con.intro (args := [.agg #[V_x0, strV x.From, strV x.To, .int .i64 x.At]]) (n := 14) (val := fun r (_ : Unit) => .bool r) (post := fun _ _ => []) (m := spec_IterOk x) Try.func42 rfl rfl rfl hm ?_
  intro w S hrd
  have HB_V_x0 := hrd _ (.head _)
  clear hrd
  unfold spec_IterOk
  refine TW.seq ?_
  refine TW.region ?_
  refine TO.ef (Ef.box rfl (Cel.agg ⟨(One.can (Base.can HB_V_x0)), (One.plain rfl), (One.plain rfl), (One.plain rfl), trivial⟩)) rfl rfl rfl (fun B1 => ?_)
  refine TO.y (Y.assign rfl) rfl rfl rfl ?_
  refine TO.nil ?_
  refine TE.next ?_
  refine TW.seq ?_
  refine TW.joinBX (τ := Bool) (X := Unit) (fun T _ => [(2, .bool T)]) (fun _ _ => []) ?_ (fun T2 X3 => ?_)
  · refine TW.region ?_
    refine TO.y (Y.field_box kf28_0 rfl rfl) rfl rfl rfl ?_
    refine TO.y (Y.load_box (v := V_x0) 0 kk24 rfl rfl rfl) rfl rfl rfl ?_
    refine TO.bind fun R4 H5 => ?_
    refine TO.ef (Ef.call (rest := [.box B1 28 [V_x0, strV x.From, strV x.To, .int .i64 x.At]]) [0] (spec_MapOk_con x.List V_x0 R4 H5) kc9 rfl rfl ⟨(Base.can HB_V_x0), trivial⟩) rfl rfl rfl (fun _ => ?_)
    refine TO.y (Y.move rfl) rfl rfl rfl ?_
    refine TO.ite (b := R4) (fun H7 => ?_) (fun H7 => ?_)
    · refine TO.y (Y.field_box kf28_3 rfl rfl) (Gd.at 3 true 6 R4 rfl rfl rfl (beq_tt H7)) rfl rfl ?_
      refine TO.y (Y.load_box (v := .int .i64 x.At) 0 kk3 rfl rfl rfl) (Gd.at 3 true 6 R4 rfl rfl rfl (beq_tt H7)) rfl rfl ?_
      refine TO.y (Y.field_box kf28_0 rfl rfl) (Gd.at 3 true 6 R4 rfl rfl rfl (beq_tt H7)) rfl rfl ?_
      refine TO.y (Y.load_box (v := V_x0) 0 kk24 rfl rfl rfl) (Gd.at 3 true 6 R4 rfl rfl rfl (beq_tt H7)) rfl rfl ?_
      refine TO.y (Y.len (l := x.List) ke24 (Base.can HB_V_x0) rfl) (Gd.at 3 true 6 R4 rfl rfl rfl (beq_tt H7)) rfl rfl ?_
      refine TO.bind fun R8 H9 => ?_
      refine TO.ef (Ef.call (rest := [.box B1 28 [V_x0, strV x.From, strV x.To, .int .i64 x.At]]) [0] (spec_l1In_con x.At (-1 : Int) ((x.List.length : Nat) : Int)  R8 H9) kc60 rfl rfl trivial) (Gd.at 3 true 6 R4 rfl rfl rfl (beq_tt H7)) rfl rfl (fun _ => ?_)
      refine TO.y (Y.pick_t H7 rfl rfl) rfl rfl rfl ?_
      refine TO.y (Y.assign rfl) rfl rfl rfl ?_
      refine TO.nil ?_
      exact TE.jb_go () [] ⟨rfl, trivial⟩ rfl
    · refine TO.off (Gd.at 3 true 6 R4 rfl rfl rfl (beq_ft H7)) rfl rfl ?_
      refine TO.off (Gd.at 3 true 6 R4 rfl rfl rfl (beq_ft H7)) rfl rfl ?_
      refine TO.off (Gd.at 3 true 6 R4 rfl rfl rfl (beq_ft H7)) rfl rfl ?_
      refine TO.off (Gd.at 3 true 6 R4 rfl rfl rfl (beq_ft H7)) rfl rfl ?_
      refine TO.off (Gd.at 3 true 6 R4 rfl rfl rfl (beq_ft H7)) rfl rfl ?_
      refine TO.off (Gd.at 3 true 6 R4 rfl rfl rfl (beq_ft H7)) rfl rfl ?_
      refine TO.y (Y.pick_f H7 rfl rfl) rfl rfl rfl ?_
      refine TO.y (Y.assign rfl) rfl rfl rfl ?_
      refine TO.nil ?_
      exact TE.jb_go () [] ⟨rfl, trivial⟩ rfl
  · refine TE.next ?_
    refine TW.ret ?_
    exact TE.leaf fun _ _ hf_ hs_ => ret_any (rs := [.tmp 2]) (vs := [.bool T2]) (.inl rfl) rfl ⟨rfl, trivial⟩ hf_ hs_ ⟨(), rfl, hs_.pulls [] rfl⟩

/-- loop.example/g00950/spec.l14Copy -/
noncomputable def spec_l14Copy (x : Iter) : Option Iter :=
  (app 32 ([] : List KV) x.List).bind fun E5 =>
  some ({ List := E5, From := x.From, To := x.To, At := x.At : Iter })

theorem spec_l14Copy_con (x : Iter) (V_x0 : Value) (r : Iter) (hm : spec_l14Copy x = some r) :
    Con Try.prog 71 [.agg #[V_x0, strV x.From, strV x.To, .int .i64 x.At]] [] [(V_x0, lc x.List)] (fun X : Value => .agg #[X, strV r.From, strV r.To, .int .i64 r.At]) (fun X => [.own X (lc r.List)]) := by
  refine Con.intro (args := [.agg #[V_x0, strV x.From, strV x.To, .int .i64 x.At]]) (n := 9) (val := fun r (X : Value) => .agg #[X, strV r.From, strV r.To, .int .i64 r.At]) (post := fun r X => [.own X (lc r.List)]) (m := spec_l14Copy x) Try.func71 rfl rfl rfl hm ?_
  intro w S hrd
  have HB_V_x0 := hrd _ (.head _)
  clear hrd
  unfold spec_l14Copy
  refine TW.seq ?_
  refine TW.region ?_
  refine TO.ef (Ef.box rfl (Cel.agg ⟨(One.can (Base.can HB_V_x0)), (One.plain rfl), (One.plain rfl), (One.plain rfl), trivial⟩)) rfl rfl rfl (fun B1 => ?_)
  refine TO.ef (Ef.alloc kz28 rfl) rfl rfl rfl (fun B2 => ?_)
  refine TO.nil ?_
  refine TE.next ?_
  refine TW.seq ?_
  refine TW.region ?_
  refine TO.ef (Ef.buildSlice (α := KV) (Vs := []) ([] : List KV) ke24 kz33 rfl rfl rfl rfl rfl) rfl rfl rfl (fun B3 => ?_)
  refine TO.y (Y.field_box kf28_0 rfl rfl) rfl rfl rfl ?_
  refine TO.y (Y.load_box (v := V_x0) 2 kk24 rfl rfl rfl) rfl rfl rfl ?_
  refine TO.bind fun E5 H6 => ?_
  refine TO.ef (Ef.append (α := KV) (is' := [.box B2 28 [.slice none 0 0, strV ([]), strV ([]), .int .i64 (0 : Int)], .box B1 28 [V_x0, strV x.From, strV x.To, .int .i64 x.At]]) [0, 0, 0] H6 ke24 kz33 rfl rfl rfl rfl rfl (Base.can HB_V_x0)) rfl rfl rfl (fun V4 => ?_)
  refine TO.y (Y.field_box kf28_0 rfl rfl) rfl rfl rfl ?_
  refine TO.ef0 (Ef.store_box (us := [V4]) (vs' := [V4, strV x.From, strV x.To, .int .i64 x.At]) (is' := [.own V4 (lc E5), .box B2 28 [.slice none 0 0, strV ([]), strV ([]), .int .i64 (0 : Int)], .box B1 28 [V4, strV x.From, strV x.To, .int .i64 x.At]]) 2 kk24 rfl rfl rfl (Cel.one (One.can (Can.own 0 rfl))) rfl rfl rfl rfl) rfl rfl (fun _ => ?_)
  refine TO.nil ?_
  refine TE.next ?_
  refine TW.seq ?_
  refine TW.region ?_
  refine TO.y (Y.load_box (v := .agg #[V4, strV x.From, strV x.To, .int .i64 x.At]) 2 kk28 rfl rfl rfl) rfl rfl rfl ?_
  refine TO.ef0 (Ef.store_box (us := [V4, strV x.From, strV x.To, .int .i64 x.At]) (vs' := [V4, strV x.From, strV x.To, .int .i64 x.At]) (is' := [.own V4 (lc E5), .box B2 28 [V4, strV x.From, strV x.To, .int .i64 x.At], .box B1 28 [V4, strV x.From, strV x.To, .int .i64 x.At]]) 1 kk28 rfl rfl rfl (Cel.agg ⟨(One.can (Can.own 0 rfl)), (One.plain rfl), (One.plain rfl), (One.plain rfl), trivial⟩) rfl rfl rfl rfl) rfl rfl (fun _ => ?_)
  refine TO.nil ?_
  refine TE.next ?_
  refine TW.ret ?_
  exact TE.leaf fun _ _ hf_ hs_ => ret_any (rs := [.cell 2 28]) (vs := [.agg #[V4, strV x.From, strV x.To, .int .i64 x.At]]) (.inl rfl) rfl (RV.cell 1 rfl rfl kk28 rfl trivial) hf_ hs_ ⟨V4, rfl, hs_.pulls [0] rfl⟩

/-- loop.example/g00950/spec.l9Within -/
noncomputable def spec_l9Within (key : List UInt8) (from_ : List UInt8) (to : List UInt8) : Option Bool :=
  (if (!(sLt key from_)) = true then (if (decide (to = ([]))) = true then (some true)
  else (some (sLt key to)))
  else (some false)).bind (fun (T1 : Bool) =>
  some T1)

theorem spec_l9Within_con (key : List UInt8) (from_ : List UInt8) (to : List UInt8)  (r : Bool) (hm : spec_l9Within key from_ to = some r) :
    Con Try.prog 72 [strV key, strV from_, strV to] [] [] (fun _ : Unit => .bool r) (fun _ => []) := by
  refine Con.intro (args := [strV key, strV from_, strV to]) (n := 19) (val := fun r (_ : Unit) => .bool r) (post := fun _ _ => []) (m := spec_l9Within key from_ to) Try.func72 rfl rfl rfl hm ?_
  intro w S _
  unfold spec_l9Within
  refine TW.seq ?_
  refine TW.region ?_
  refine TO.y (Y.assign rfl) rfl rfl rfl ?_
  refine TO.nil ?_
  refine TE.next ?_
  refine TW.seq ?_
  refine TW.joinBX (τ := Bool) (X := Unit) (fun T _ => [(6, .bool T)]) (fun _ _ => []) ?_ (fun T1 X2 => ?_)
  · refine TW.region ?_
    refine TO.y (Y.move rfl) rfl rfl rfl ?_
    refine TO.y (Y.move rfl) rfl rfl rfl ?_
    refine TO.y (Y.sgeq rfl rfl) rfl rfl rfl ?_
    refine TO.y (Y.move rfl) rfl rfl rfl ?_
    refine TO.ite (b := !(sLt key from_)) (fun H3 => ?_) (fun H3 => ?_)
    · refine TO.y (Y.move rfl) (Gd.at 3 true 10 (!(sLt key from_)) rfl rfl rfl (beq_tt H3)) rfl rfl ?_
      refine TO.y (Y.seql rfl rfl) (Gd.at 3 true 10 (!(sLt key from_)) rfl rfl rfl (beq_tt H3)) rfl rfl ?_
      refine TO.y (Y.move rfl) (Gd.at 3 true 10 (!(sLt key from_)) rfl rfl rfl (beq_tt H3)) rfl rfl ?_
      refine TO.ite (b := decide (to = ([]))) (fun H4 => ?_) (fun H4 => ?_)
      · refine TO.off (Gd.at 6 false 13 (decide (to = ([]))) rfl rfl rfl (beq_tf H4)) rfl rfl ?_
        refine TO.off (Gd.at 6 false 13 (decide (to = ([]))) rfl rfl rfl (beq_tf H4)) rfl rfl ?_
        refine TO.off (Gd.at 6 false 13 (decide (to = ([]))) rfl rfl rfl (beq_tf H4)) rfl rfl ?_
        refine TO.y (Y.pick_t H4 rfl rfl) (Gd.at 3 true 10 (!(sLt key from_)) rfl rfl rfl (beq_tt H3)) rfl rfl ?_
        refine TO.y (Y.pick_t H3 rfl rfl) rfl rfl rfl ?_
        refine TO.y (Y.assign rfl) rfl rfl rfl ?_
        refine TO.nil ?_
        exact TE.jb_go () [] ⟨rfl, trivial⟩ rfl
      · refine TO.y (Y.move rfl) (Gd.at 6 false 13 (decide (to = ([]))) rfl rfl rfl (beq_ff H4)) rfl rfl ?_
        refine TO.y (Y.move rfl) (Gd.at 6 false 13 (decide (to = ([]))) rfl rfl rfl (beq_ff H4)) rfl rfl ?_
        refine TO.y (Y.slss rfl rfl) (Gd.at 6 false 13 (decide (to = ([]))) rfl rfl rfl (beq_ff H4)) rfl rfl ?_
        refine TO.y (Y.pick_f H4 rfl rfl) (Gd.at 3 true 10 (!(sLt key from_)) rfl rfl rfl (beq_tt H3)) rfl rfl ?_
        refine TO.y (Y.pick_t H3 rfl rfl) rfl rfl rfl ?_
        refine TO.y (Y.assign rfl) rfl rfl rfl ?_
        refine TO.nil ?_
        exact TE.jb_go () [] ⟨rfl, trivial⟩ rfl
    · refine TO.off (Gd.at 3 true 10 (!(sLt key from_)) rfl rfl rfl (beq_ft H3)) rfl rfl ?_
      refine TO.off (Gd.at 3 true 10 (!(sLt key from_)) rfl rfl rfl (beq_ft H3)) rfl rfl ?_
      refine TO.off (Gd.at 3 true 10 (!(sLt key from_)) rfl rfl rfl (beq_ft H3)) rfl rfl ?_
      refine TO.off (Gd.un 6 false 13 rfl rfl rfl) rfl rfl ?_
      refine TO.off (Gd.un 6 false 13 rfl rfl rfl) rfl rfl ?_
      refine TO.off (Gd.un 6 false 13 rfl rfl rfl) rfl rfl ?_
      refine TO.off (Gd.at 3 true 10 (!(sLt key from_)) rfl rfl rfl (beq_ft H3)) rfl rfl ?_
      refine TO.y (Y.pick_f H3 rfl rfl) rfl rfl rfl ?_
      refine TO.y (Y.assign rfl) rfl rfl rfl ?_
      refine TO.nil ?_
      exact TE.jb_go () [] ⟨rfl, trivial⟩ rfl
  · refine TE.next ?_
    refine TW.ret ?_
    exact TE.leaf fun _ _ hf_ hs_ => ret_any (rs := [.tmp 6]) (vs := [.bool T1]) (.inl rfl) rfl ⟨rfl, trivial⟩ hf_ hs_ ⟨(), rfl, hs_.pulls [] rfl⟩

/-- loop.example/g00950/spec.l14Go -/
noncomputable def spec_l14Go (x : Iter) (at_ : Int) (step : Int) (key : List UInt8) : Option (Iter × KV × Bool) :=
  (spec_l14Copy x).bind fun R4 =>
  bindC (loopO (fun (S7 : Int) => (if (decide (S7 ≥ (0 : Int))) = true then (some (decide (S7 < ((R4.List.length : Nat) : Int))))
  else (some false)).bind (fun (T11 : Bool) =>
  if T11 = true then (((idx R4.List S7).bind fun E17 =>
  (spec_l9Within E17.Key R4.From R4.To).bind fun R19 =>
  if R19 = true then (some (!(sLt E17.Key key)))
  else (some false)).bind (fun (T15 : Bool) =>
  if T15 = true then ((idx R4.List S7).bind fun E24 =>
  some (.done (.done ({ List := R4.List, From := R4.From, To := R4.To, At := S7 : Iter }, E24, true))))
  else (some (.go (IntKind.i64.wrap (S7 + step))))))
  else (some (.done (.go ())))))
  at_)
  (fun (T9 : Unit) => bindC (if (decide (step > (0 : Int))) = true then (some (.go ((R4.List.length : Nat) : Int)))
  else (some (.go (-1 : Int))))
  (fun (T26 : Int) => some ({ List := R4.List, From := R4.From, To := R4.To, At := T26 : Iter }, { Key := [], Val := [] : KV }, false)))

theorem spec_l14Go_con (x : Iter) (at_ : Int) (step : Int) (key : List UInt8) (V_x0 : Value) (r : Iter × KV × Bool) (hm : spec_l14Go x at_ step key = some r) :
    Con Try.prog 43 [.agg #[V_x0, strV x.From, strV x.To, .int .i64 x.At], .int .i64 at_, .int .i64 step, strV key] [] [(V_x0, lc x.List)] (fun X : Value => .tuple #[.agg #[X, strV r.1.From, strV r.1.To, .int .i64 r.1.At], .agg #[strV r.2.1.Key, strV r.2.1.Val], .bool r.2.2]) (fun X => [.own X (lc r.1.List)]) := by
  refine Con.intro (args := [.agg #[V_x0, strV x.From, strV x.To, .int .i64 x.At], .int .i64 at_, .int .i64 step, strV key]) (n := 65) (val := fun r (X : Value) => .tuple #[.agg #[X, strV r.1.From, strV r.1.To, .int .i64 r.1.At], .agg #[strV r.2.1.Key, strV r.2.1.Val], .bool r.2.2]) (post := fun r X => [.own X (lc r.1.List)]) (m := spec_l14Go x at_ step key) Try.func43 rfl rfl rfl hm ?_
  intro w S hrd
  have HB_V_x0 := hrd _ (.head _)
  clear hrd
  unfold spec_l14Go
  refine TW.seq ?_
  refine TW.region ?_
  refine TO.ef (Ef.box rfl (Cel.agg ⟨(One.can (Base.can HB_V_x0)), (One.plain rfl), (One.plain rfl), (One.plain rfl), trivial⟩)) rfl rfl rfl (fun B1 => ?_)
  refine TO.ef (Ef.alloc kz28 rfl) rfl rfl rfl (fun B2 => ?_)
  refine TO.ef (Ef.alloc kz33 rfl) rfl rfl rfl (fun B3 => ?_)
  refine TO.y (Y.assign rfl) rfl rfl rfl ?_
  refine TO.nil ?_
  refine TE.next ?_
  refine TW.seq ?_
  refine TW.region ?_
  refine TO.y (Y.load_box (v := .agg #[V_x0, strV x.From, strV x.To, .int .i64 x.At]) 2 kk28 rfl rfl rfl) rfl rfl rfl ?_
  refine TO.bind fun R4 H5 => ?_
  refine TO.ef (Ef.call (rest := [.box B3 33 [strV ([]), strV ([])], .box B2 28 [.slice none 0 0, strV ([]), strV ([]), .int .i64 (0 : Int)], .box B1 28 [V_x0, strV x.From, strV x.To, .int .i64 x.At]]) [0, 0, 0] (spec_l14Copy_con x V_x0 R4 H5) kc71 rfl rfl ⟨(Base.can HB_V_x0), trivial⟩) rfl rfl rfl (fun Y6 => ?_)
  refine TO.ef0 (Ef.store_box (us := [Y6, strV R4.From, strV R4.To, .int .i64 R4.At]) (vs' := [Y6, strV R4.From, strV R4.To, .int .i64 R4.At]) (is' := [.own Y6 (lc R4.List), .box B3 33 [strV ([]), strV ([])], .box B2 28 [.slice none 0 0, strV ([]), strV ([]), .int .i64 (0 : Int)], .box B1 28 [Y6, strV R4.From, strV R4.To, .int .i64 R4.At]]) 3 kk28 rfl rfl rfl (Cel.agg ⟨(One.can (Can.own 0 rfl)), (One.plain rfl), (One.plain rfl), (One.plain rfl), trivial⟩) rfl rfl rfl rfl) rfl rfl (fun _ => ?_)
  refine TO.nil ?_
  refine TE.next ?_
  refine TW.seq ?_
  refine TW.seq ?_
  refine TW.region ?_
  refine TO.y (Y.move rfl) rfl rfl rfl ?_
  refine TO.y (Y.assign rfl) rfl rfl rfl ?_
  refine TO.nil ?_
  refine TE.next ?_
  refine TW.joinX (τ := Unit) (X := Unit) (fun _ _ => [(2, .int .i64 step), (4, .pointer (some ⟨B1, 0, none⟩)), (8, .pointer (some ⟨B2, 0, none⟩)), (9, .pointer (some ⟨B3, 0, none⟩))]) (fun _ _ => [.box B1 28 [Y6, strV R4.From, strV R4.To, .int .i64 R4.At], .box B2 28 [.slice none 0 0, strV ([]), strV ([]), .int .i64 (0 : Int)], .box B3 33 [strV ([]), strV ([])], .own Y6 (lc R4.List)]) ?_ (fun T9 X10 => ?_)
  · refine TW.block ?_
    refine TW.loopX (σ := Int) (X := Unit) (fun T _ => [(2, .int .i64 step), (3, strV key), (4, .pointer (some ⟨B1, 0, none⟩)), (8, .pointer (some ⟨B2, 0, none⟩)), (9, .pointer (some ⟨B3, 0, none⟩)), (11, .int .i64 T)]) (fun _ _ => [.box B1 28 [Y6, strV R4.From, strV R4.To, .int .i64 R4.At], .box B2 28 [.slice none 0 0, strV ([]), strV ([]), .int .i64 (0 : Int)], .box B3 33 [strV ([]), strV ([])], .own Y6 (lc R4.List)]) () [3, 2, 1, 0] ⟨rfl, rfl, rfl, rfl, rfl, rfl, trivial⟩ rfl (fun S7 X8 => ?_)
    refine TW.seq ?_
    refine TW.seq ?_
    refine TW.joinBX (τ := Bool) (X := Unit) (fun T _ => [(2, .int .i64 step), (3, strV key), (4, .pointer (some ⟨B1, 0, none⟩)), (8, .pointer (some ⟨B2, 0, none⟩)), (9, .pointer (some ⟨B3, 0, none⟩)), (11, .int .i64 S7), (23, .bool T)]) (fun _ _ => [.box B1 28 [Y6, strV R4.From, strV R4.To, .int .i64 R4.At], .box B2 28 [.slice none 0 0, strV ([]), strV ([]), .int .i64 (0 : Int)], .box B3 33 [strV ([]), strV ([])], .own Y6 (lc R4.List)]) ?_ (fun T11 X12 => ?_)
    · refine TW.region ?_
      refine TO.y (Y.move rfl) rfl rfl rfl ?_
      refine TO.y (Y.geq rfl rfl) rfl rfl rfl ?_
      refine TO.y (Y.move rfl) rfl rfl rfl ?_
      refine TO.ite (b := decide (S7 ≥ (0 : Int))) (fun H13 => ?_) (fun H13 => ?_)
      · refine TO.y (Y.move rfl) (Gd.at 2 true 17 (decide (S7 ≥ (0 : Int))) rfl rfl rfl (beq_tt H13)) rfl rfl ?_
        refine TO.y (Y.field_box kf28_0 rfl rfl) (Gd.at 2 true 17 (decide (S7 ≥ (0 : Int))) rfl rfl rfl (beq_tt H13)) rfl rfl ?_
        refine TO.y (Y.load_box (v := Y6) 0 kk24 rfl rfl rfl) (Gd.at 2 true 17 (decide (S7 ≥ (0 : Int))) rfl rfl rfl (beq_tt H13)) rfl rfl ?_
        refine TO.y (Y.len (l := R4.List) ke24 (Can.own 3 rfl) rfl) (Gd.at 2 true 17 (decide (S7 ≥ (0 : Int))) rfl rfl rfl (beq_tt H13)) rfl rfl ?_
        refine TO.y (Y.lss rfl rfl) (Gd.at 2 true 17 (decide (S7 ≥ (0 : Int))) rfl rfl rfl (beq_tt H13)) rfl rfl ?_
        refine TO.y (Y.pick_t H13 rfl rfl) rfl rfl rfl ?_
        refine TO.nil ?_
        exact TE.jb_go () [0, 0, 0, 0] ⟨rfl, rfl, rfl, rfl, rfl, rfl, rfl, trivial⟩ rfl
      · refine TO.off (Gd.at 2 true 17 (decide (S7 ≥ (0 : Int))) rfl rfl rfl (beq_ft H13)) rfl rfl ?_
        refine TO.off (Gd.at 2 true 17 (decide (S7 ≥ (0 : Int))) rfl rfl rfl (beq_ft H13)) rfl rfl ?_
        refine TO.off (Gd.at 2 true 17 (decide (S7 ≥ (0 : Int))) rfl rfl rfl (beq_ft H13)) rfl rfl ?_
        refine TO.off (Gd.at 2 true 17 (decide (S7 ≥ (0 : Int))) rfl rfl rfl (beq_ft H13)) rfl rfl ?_
        refine TO.off (Gd.at 2 true 17 (decide (S7 ≥ (0 : Int))) rfl rfl rfl (beq_ft H13)) rfl rfl ?_
        refine TO.y (Y.pick_f H13 rfl rfl) rfl rfl rfl ?_
        refine TO.nil ?_
        exact TE.jb_go () [0, 0, 0, 0] ⟨rfl, rfl, rfl, rfl, rfl, rfl, rfl, trivial⟩ rfl
    · refine TE.next ?_
      refine TW.cond rfl (fun H14 => ?_) (fun H14 => ?_)
      · refine TW.skip ?_
        refine TE.next ?_
        refine TW.seq ?_
        refine TW.block ?_
        refine TW.seq ?_
        refine TW.joinBX (τ := Bool) (X := Unit) (fun T _ => [(2, .int .i64 step), (3, strV key), (4, .pointer (some ⟨B1, 0, none⟩)), (8, .pointer (some ⟨B2, 0, none⟩)), (9, .pointer (some ⟨B3, 0, none⟩)), (11, .int .i64 S7), (47, .bool T)]) (fun _ _ => [.box B1 28 [Y6, strV R4.From, strV R4.To, .int .i64 R4.At], .box B2 28 [.slice none 0 0, strV ([]), strV ([]), .int .i64 (0 : Int)], .box B3 33 [strV ([]), strV ([])], .own Y6 (lc R4.List)]) ?_ (fun T15 X16 => ?_)
        · refine TW.draw (isH := [.box B1 28 [Y6, strV R4.From, strV R4.To, .int .i64 R4.At], .box B2 28 [.slice none 0 0, strV ([]), strV ([]), .int .i64 (0 : Int)], .box B3 33 [strV ([]), strV ([])], .own Y6 (lc R4.List)]) hMix ?_
          refine TA.y (listed' := #[true, false, false, false, false, false, false, false, false, false, false, false, false, false, false, false, false, false, false, false, false]) 0 [0, 0, 0, 0] rfl (Y.field_box kf28_0 rfl rfl) rfl rfl rfl (by kernel_rfl) (by kernel_rfl) (by kernel_rfl) rfl rfl ?_
          refine TA.y (listed' := #[true, true, false, false, false, false, false, false, false, false, false, false, false, false, false, false, false, false, false, false, false]) 1 [0, 0, 0, 0] rfl (Y.load_box (v := Y6) 0 kk24 rfl rfl rfl) rfl rfl rfl (by kernel_rfl) (by kernel_rfl) (by kernel_rfl) rfl rfl ?_
          refine TA.y (listed' := #[true, true, true, false, false, false, false, false, false, false, false, false, false, false, false, false, false, false, false, false, false]) 2 [0, 0, 0, 0] rfl (Y.move rfl) rfl rfl rfl (by kernel_rfl) (by kernel_rfl) (by kernel_rfl) rfl rfl ?_
          refine TA.bind fun E17 H18 => ?_
          refine TA.y (listed' := #[true, true, true, true, false, false, false, false, false, false, false, false, false, false, false, false, false, false, false, false, false]) 3 [0, 0, 0, 0] rfl (Y.index ke24 (Can.own 3 rfl) H18 rfl rfl) rfl rfl rfl (by kernel_rfl) (by kernel_rfl) (by kernel_rfl) rfl rfl ?_
          refine TA.y (listed' := #[true, true, true, true, true, false, false, false, false, false, false, false, false, false, false, false, false, false, false, false, false]) 4 [0, 0, 0, 0] rfl (Y.field_el kf33_0 (Can.own 3 rfl) (idx_get H18).2.2 rfl rfl) rfl rfl rfl (by kernel_rfl) (by kernel_rfl) (by kernel_rfl) rfl rfl ?_
          refine TA.y (listed' := #[true, true, true, true, true, true, false, false, false, false, false, false, false, false, false, false, false, false, false, false, false]) 5 [0, 0, 0, 0] rfl (Y.load_el (us := [strV E17.Key]) (u := strV E17.Key) kk9 rfl (Can.own 3 rfl) (idx_get H18).2.2 rfl rfl rfl rfl rfl) rfl rfl rfl (by kernel_rfl) (by kernel_rfl) (by kernel_rfl) rfl rfl ?_
          refine TA.y (listed' := #[true, true, true, true, true, true, true, false, false, false, false, false, false, false, false, false, false, false, false, false, false]) 6 [0, 0, 0, 0] rfl (Y.field_box kf28_1 rfl rfl) rfl rfl rfl (by kernel_rfl) (by kernel_rfl) (by kernel_rfl) rfl rfl ?_
          refine TA.y (listed' := #[true, true, true, true, true, true, true, true, false, false, false, false, false, false, false, false, false, false, false, false, false]) 7 [0, 0, 0, 0] rfl (Y.load_box (v := strV R4.From) 0 kk9 rfl rfl rfl) rfl rfl rfl (by kernel_rfl) (by kernel_rfl) (by kernel_rfl) rfl rfl ?_
          refine TA.y (listed' := #[true, true, true, true, true, true, true, true, true, false, false, false, false, false, false, false, false, false, false, false, false]) 8 [0, 0, 0, 0] rfl (Y.field_box kf28_2 rfl rfl) rfl rfl rfl (by kernel_rfl) (by kernel_rfl) (by kernel_rfl) rfl rfl ?_
          refine TA.y (listed' := #[true, true, true, true, true, true, true, true, true, true, false, false, false, false, false, false, false, false, false, false, false]) 9 [0, 0, 0, 0] rfl (Y.load_box (v := strV R4.To) 0 kk9 rfl rfl rfl) rfl rfl rfl (by kernel_rfl) (by kernel_rfl) (by kernel_rfl) rfl rfl ?_
          refine TA.bind fun R19 H20 => ?_
          refine TA.one 10 (by kernel_rfl) ?_
          refine TX.ef (listed' := #[true, true, true, true, true, true, true, true, true, true, true, false, false, false, false, false, false, false, false, false, false]) [0, 0, 0, 0] rfl (Ef.call (rest := [.box B1 28 [Y6, strV R4.From, strV R4.To, .int .i64 R4.At], .box B2 28 [.slice none 0 0, strV ([]), strV ([]), .int .i64 (0 : Int)], .box B3 33 [strV ([]), strV ([])], .own Y6 (lc R4.List)]) [0, 0, 0, 0] (spec_l9Within_con E17.Key R4.From R4.To  R19 H20) kc72 rfl rfl trivial) rfl rfl rfl rfl (fun _ => rfl) (fun _ => ?_)
          refine TA.y (listed' := #[true, true, true, true, true, true, true, true, true, true, true, true, false, false, false, false, false, false, false, false, false]) 11 [0, 0, 0, 0] rfl (Y.move rfl) rfl rfl rfl (by kernel_rfl) (by kernel_rfl) (by kernel_rfl) rfl rfl ?_
          refine TA.ite (b := R19) (fun H22 => ?_) (fun H22 => ?_)
          · refine TA.y (listed' := #[true, true, true, true, true, true, true, true, true, true, true, true, true, false, false, false, false, false, false, false, false]) 12 [0, 0, 0, 0] rfl (Y.field_box kf28_0 rfl rfl) (Gd.at 11 true 38 R19 rfl rfl rfl (beq_tt H22)) rfl rfl (by kernel_rfl) (by kernel_rfl) (by kernel_rfl) rfl rfl ?_
            refine TA.y (listed' := #[true, true, true, true, true, true, true, true, true, true, true, true, true, true, false, false, false, false, false, false, false]) 13 [0, 0, 0, 0] rfl (Y.load_box (v := Y6) 0 kk24 rfl rfl rfl) (Gd.at 11 true 38 R19 rfl rfl rfl (beq_tt H22)) rfl rfl (by kernel_rfl) (by kernel_rfl) (by kernel_rfl) rfl rfl ?_
            refine TA.y (listed' := #[true, true, true, true, true, true, true, true, true, true, true, true, true, true, true, false, false, false, false, false, false]) 14 [0, 0, 0, 0] rfl (Y.move rfl) (Gd.at 11 true 38 R19 rfl rfl rfl (beq_tt H22)) rfl rfl (by kernel_rfl) (by kernel_rfl) (by kernel_rfl) rfl rfl ?_
            refine TA.y (listed' := #[true, true, true, true, true, true, true, true, true, true, true, true, true, true, true, true, false, false, false, false, false]) 15 [0, 0, 0, 0] rfl (Y.index ke24 (Can.own 3 rfl) H18 rfl rfl) (Gd.at 11 true 38 R19 rfl rfl rfl (beq_tt H22)) rfl rfl (by kernel_rfl) (by kernel_rfl) (by kernel_rfl) rfl rfl ?_
            refine TA.y (listed' := #[true, true, true, true, true, true, true, true, true, true, true, true, true, true, true, true, true, false, false, false, false]) 16 [0, 0, 0, 0] rfl (Y.field_el kf33_0 (Can.own 3 rfl) (idx_get H18).2.2 rfl rfl) (Gd.at 11 true 38 R19 rfl rfl rfl (beq_tt H22)) rfl rfl (by kernel_rfl) (by kernel_rfl) (by kernel_rfl) rfl rfl ?_
            refine TA.y (listed' := #[true, true, true, true, true, true, true, true, true, true, true, true, true, true, true, true, true, true, false, false, false]) 17 [0, 0, 0, 0] rfl (Y.load_el (us := [strV E17.Key]) (u := strV E17.Key) kk9 rfl (Can.own 3 rfl) (idx_get H18).2.2 rfl rfl rfl rfl rfl) (Gd.at 11 true 38 R19 rfl rfl rfl (beq_tt H22)) rfl rfl (by kernel_rfl) (by kernel_rfl) (by kernel_rfl) rfl rfl ?_
            refine TA.y (listed' := #[true, true, true, true, true, true, true, true, true, true, true, true, true, true, true, true, true, true, true, false, false]) 18 [0, 0, 0, 0] rfl (Y.move rfl) (Gd.at 11 true 38 R19 rfl rfl rfl (beq_tt H22)) rfl rfl (by kernel_rfl) (by kernel_rfl) (by kernel_rfl) rfl rfl ?_
            refine TA.y (listed' := #[true, true, true, true, true, true, true, true, true, true, true, true, true, true, true, true, true, true, true, true, false]) 19 [0, 0, 0, 0] rfl (Y.sgeq rfl rfl) (Gd.at 11 true 38 R19 rfl rfl rfl (beq_tt H22)) rfl rfl (by kernel_rfl) (by kernel_rfl) (by kernel_rfl) rfl rfl ?_
            refine TA.y (listed' := #[true, true, true, true, true, true, true, true, true, true, true, true, true, true, true, true, true, true, true, true, true]) 20 [0, 0, 0, 0] rfl (Y.pick_t H22 rfl rfl) rfl rfl rfl (by kernel_rfl) (by kernel_rfl) (by kernel_rfl) rfl rfl ?_
            refine TA.nil (by kernel_rfl) ?_
            exact TE.jb_go () [0, 0, 0, 0] ⟨rfl, rfl, rfl, rfl, rfl, rfl, rfl, trivial⟩ rfl
          · refine TA.off (listed' := #[true, true, true, true, true, true, true, true, true, true, true, true, true, false, false, false, false, false, false, false, false]) 12 [0, 0, 0, 0] rfl (Gd.at 11 true 38 R19 rfl rfl rfl (beq_ft H22)) rfl rfl (by kernel_rfl) (by kernel_rfl) (by kernel_rfl) rfl rfl ?_
            refine TA.off (listed' := #[true, true, true, true, true, true, true, true, true, true, true, true, true, true, false, false, false, false, false, false, false]) 13 [0, 0, 0, 0] rfl (Gd.at 11 true 38 R19 rfl rfl rfl (beq_ft H22)) rfl rfl (by kernel_rfl) (by kernel_rfl) (by kernel_rfl) rfl rfl ?_
            refine TA.off (listed' := #[true, true, true, true, true, true, true, true, true, true, true, true, true, true, true, false, false, false, false, false, false]) 14 [0, 0, 0, 0] rfl (Gd.at 11 true 38 R19 rfl rfl rfl (beq_ft H22)) rfl rfl (by kernel_rfl) (by kernel_rfl) (by kernel_rfl) rfl rfl ?_
            refine TA.off (listed' := #[true, true, true, true, true, true, true, true, true, true, true, true, true, true, true, true, false, false, false, false, false]) 15 [0, 0, 0, 0] rfl (Gd.at 11 true 38 R19 rfl rfl rfl (beq_ft H22)) rfl rfl (by kernel_rfl) (by kernel_rfl) (by kernel_rfl) rfl rfl ?_
            refine TA.off (listed' := #[true, true, true, true, true, true, true, true, true, true, true, true, true, true, true, true, true, false, false, false, false]) 16 [0, 0, 0, 0] rfl (Gd.at 11 true 38 R19 rfl rfl rfl (beq_ft H22)) rfl rfl (by kernel_rfl) (by kernel_rfl) (by kernel_rfl) rfl rfl ?_
            refine TA.off (listed' := #[true, true, true, true, true, true, true, true, true, true, true, true, true, true, true, true, true, true, false, false, false]) 17 [0, 0, 0, 0] rfl (Gd.at 11 true 38 R19 rfl rfl rfl (beq_ft H22)) rfl rfl (by kernel_rfl) (by kernel_rfl) (by kernel_rfl) rfl rfl ?_
            refine TA.off (listed' := #[true, true, true, true, true, true, true, true, true, true, true, true, true, true, true, true, true, true, true, false, false]) 18 [0, 0, 0, 0] rfl (Gd.at 11 true 38 R19 rfl rfl rfl (beq_ft H22)) rfl rfl (by kernel_rfl) (by kernel_rfl) (by kernel_rfl) rfl rfl ?_
            refine TA.off (listed' := #[true, true, true, true, true, true, true, true, true, true, true, true, true, true, true, true, true, true, true, true, false]) 19 [0, 0, 0, 0] rfl (Gd.at 11 true 38 R19 rfl rfl rfl (beq_ft H22)) rfl rfl (by kernel_rfl) (by kernel_rfl) (by kernel_rfl) rfl rfl ?_
            refine TA.y (listed' := #[true, true, true, true, true, true, true, true, true, true, true, true, true, true, true, true, true, true, true, true, true]) 20 [0, 0, 0, 0] rfl (Y.pick_f H22 rfl rfl) rfl rfl rfl (by kernel_rfl) (by kernel_rfl) (by kernel_rfl) rfl rfl ?_
            refine TA.nil (by kernel_rfl) ?_
            exact TE.jb_go () [0, 0, 0, 0] ⟨rfl, rfl, rfl, rfl, rfl, rfl, rfl, trivial⟩ rfl
        · refine TE.next ?_
          refine TW.cond rfl (fun H23 => ?_) (fun H23 => ?_)
          · refine TW.seq ?_
            refine TW.region ?_
            refine TO.y (Y.move rfl) rfl rfl rfl ?_
            refine TO.y (Y.field_box kf28_3 rfl rfl) rfl rfl rfl ?_
            refine TO.ef0 (Ef.store_box (us := [.int .i64 S7]) (vs' := [Y6, strV R4.From, strV R4.To, .int .i64 S7]) (is' := [.box B1 28 [Y6, strV R4.From, strV R4.To, .int .i64 S7], .box B2 28 [.slice none 0 0, strV ([]), strV ([]), .int .i64 (0 : Int)], .box B3 33 [strV ([]), strV ([])], .own Y6 (lc R4.List)]) 0 kk3 rfl rfl rfl (Cel.plain rfl rfl) rfl rfl rfl rfl) rfl rfl (fun _ => ?_)
            refine TO.nil ?_
            refine TE.next ?_
            refine TW.seq ?_
            refine TW.draw (isH := [.box B1 28 [Y6, strV R4.From, strV R4.To, .int .i64 S7], .own Y6 (lc R4.List)]) hMix ?_
            refine TA.y (listed' := #[true, false, false, false, false, false, false, false, false]) 0 [0, 2] rfl (Y.load_box (v := .agg #[Y6, strV R4.From, strV R4.To, .int .i64 S7]) 0 kk28 rfl rfl rfl) rfl rfl rfl (by kernel_rfl) (by kernel_rfl) (by kernel_rfl) rfl rfl ?_
            refine TA.y (listed' := #[true, true, false, false, false, false, false, false, false]) 1 [0, 2] rfl (Y.field_box kf28_0 rfl rfl) rfl rfl rfl (by kernel_rfl) (by kernel_rfl) (by kernel_rfl) rfl rfl ?_
            refine TA.y (listed' := #[true, true, true, false, false, false, false, false, false]) 2 [0, 2] rfl (Y.load_box (v := Y6) 0 kk24 rfl rfl rfl) rfl rfl rfl (by kernel_rfl) (by kernel_rfl) (by kernel_rfl) rfl rfl ?_
            refine TA.y (listed' := #[true, true, true, true, false, false, false, false, false]) 3 [0, 2] rfl (Y.move rfl) rfl rfl rfl (by kernel_rfl) (by kernel_rfl) (by kernel_rfl) rfl rfl ?_
            refine TA.bind fun E24 H25 => ?_
            refine TA.y (listed' := #[true, true, true, true, true, false, false, false, false]) 4 [0, 2] rfl (Y.index ke24 (Can.own 1 rfl) H25 rfl rfl) rfl rfl rfl (by kernel_rfl) (by kernel_rfl) (by kernel_rfl) rfl rfl ?_
            refine TA.y (listed' := #[true, true, true, true, true, true, false, false, false]) 5 [0, 2] rfl (Y.load_el (us := [strV E24.Key, strV E24.Val]) (u := .agg #[strV E24.Key, strV E24.Val]) kk33 rfl (Can.own 1 rfl) (idx_get H25).2.2 rfl rfl rfl rfl rfl) rfl rfl rfl (by kernel_rfl) (by kernel_rfl) (by kernel_rfl) rfl rfl ?_
            refine TA.one 6 (by kernel_rfl) ?_
            refine TX.ef0 (listed' := #[true, true, true, true, true, true, true, false, false]) [0, 2] rfl (Ef.store_box (us := [Y6, strV R4.From, strV R4.To, .int .i64 S7]) (vs' := [Y6, strV R4.From, strV R4.To, .int .i64 S7]) (is' := [.box B1 28 [Y6, strV R4.From, strV R4.To, .int .i64 S7], .box B2 28 [Y6, strV R4.From, strV R4.To, .int .i64 S7], .box B3 33 [strV ([]), strV ([])], .own Y6 (lc R4.List)]) 1 kk28 rfl rfl rfl (Cel.agg ⟨(One.can (Can.own 3 rfl)), (One.plain rfl), (One.plain rfl), (One.plain rfl), trivial⟩) rfl rfl rfl rfl) rfl rfl rfl (fun _ => rfl) (fun _ => ?_)
            refine TA.one 7 (by kernel_rfl) ?_
            refine TX.ef0 (listed' := #[true, true, true, true, true, true, true, true, false]) [0, 2] rfl (Ef.store_box (us := [strV E24.Key, strV E24.Val]) (vs' := [strV E24.Key, strV E24.Val]) (is' := [.box B1 28 [Y6, strV R4.From, strV R4.To, .int .i64 S7], .box B2 28 [Y6, strV R4.From, strV R4.To, .int .i64 S7], .box B3 33 [strV E24.Key, strV E24.Val], .own Y6 (lc R4.List)]) 2 kk33 rfl rfl rfl (Cel.plain rfl rfl) rfl rfl rfl rfl) rfl rfl rfl (fun _ => rfl) (fun _ => ?_)
            refine TA.y (listed' := #[true, true, true, true, true, true, true, true, true]) 8 [0, 2] rfl (Y.assign rfl) rfl rfl rfl (by kernel_rfl) (by kernel_rfl) (by kernel_rfl) rfl rfl ?_
            refine TA.nil (by kernel_rfl) ?_
            refine TE.next ?_
            refine TW.ret ?_
            refine TE.block_ret ?_
            refine TE.then_ret ?_
            refine TE.lp_ret ?_
            refine TE.block_ret ?_
            refine TE.jn_done ?_
            refine TE.then_ret ?_
            exact TE.leaf fun _ _ hf_ hs_ => ret_any (rs := [.cell 8 28, .cell 9 33, .tmp 10]) (vs := [.agg #[Y6, strV R4.From, strV R4.To, .int .i64 S7], .agg #[strV E24.Key, strV E24.Val], .bool true]) (.inl rfl) rfl (RV.cell 1 rfl rfl kk28 rfl (RV.cell 2 rfl rfl kk33 rfl ⟨rfl, trivial⟩)) hf_ hs_ ⟨Y6, rfl, hs_.pulls [3] rfl⟩
          · refine TW.skip ?_
            refine TE.block_normal ?_
            refine TE.next ?_
            refine TW.region ?_
            refine TO.y (Y.move rfl) rfl rfl rfl ?_
            refine TO.y (Y.move rfl) rfl rfl rfl ?_
            refine TO.y (Y.add rfl rfl) rfl rfl rfl ?_
            refine TO.y (Y.assign rfl) rfl rfl rfl ?_
            refine TO.nil ?_
            exact TE.lp_go () [0, 0, 0, 0] ⟨rfl, rfl, rfl, rfl, rfl, rfl, trivial⟩ rfl
      · refine TW.exit ?_
        refine TE.then_exit ?_
        refine TE.lp_exit ?_
        refine TE.block_exit ?_
        exact TE.jn_go () [0, 0, 0, 0] ⟨rfl, rfl, rfl, rfl, trivial⟩ rfl
  · refine TE.next ?_
    refine TW.seq ?_
    refine TW.region ?_
    refine TO.y (Y.field_box kf28_3 rfl rfl) rfl rfl rfl ?_
    refine TO.ef0 (Ef.store_box (us := [.int .i64 (-1 : Int)]) (vs' := [Y6, strV R4.From, strV R4.To, .int .i64 (-1 : Int)]) (is' := [.box B1 28 [Y6, strV R4.From, strV R4.To, .int .i64 (-1 : Int)], .box B2 28 [.slice none 0 0, strV ([]), strV ([]), .int .i64 (0 : Int)], .box B3 33 [strV ([]), strV ([])], .own Y6 (lc R4.List)]) 0 kk3 rfl rfl rfl (Cel.plain rfl rfl) rfl rfl rfl rfl) rfl rfl (fun _ => ?_)
    refine TO.nil ?_
    refine TE.next ?_
    refine TW.seq ?_
    refine TW.seq ?_
    refine TW.region ?_
    refine TO.y (Y.move rfl) rfl rfl rfl ?_
    refine TO.y (Y.gtr rfl rfl) rfl rfl rfl ?_
    refine TO.nil ?_
    refine TE.next ?_
    refine TW.joinX (τ := Int) (X := Unit) (fun _ _ => [(4, .pointer (some ⟨B1, 0, none⟩)), (8, .pointer (some ⟨B2, 0, none⟩)), (9, .pointer (some ⟨B3, 0, none⟩))]) (fun T _ => [.box B1 28 [Y6, strV R4.From, strV R4.To, .int .i64 T], .box B2 28 [.slice none 0 0, strV ([]), strV ([]), .int .i64 (0 : Int)], .box B3 33 [strV ([]), strV ([])], .own Y6 (lc R4.List)]) ?_ (fun T26 X27 => ?_)
    · refine TW.cond rfl (fun H28 => ?_) (fun H28 => ?_)
      · refine TW.region ?_
        refine TO.y (Y.field_box kf28_0 rfl rfl) rfl rfl rfl ?_
        refine TO.y (Y.load_box (v := Y6) 0 kk24 rfl rfl rfl) rfl rfl rfl ?_
        refine TO.y (Y.len (l := R4.List) ke24 (Can.own 3 rfl) rfl) rfl rfl rfl ?_
        refine TO.y (Y.field_box kf28_3 rfl rfl) rfl rfl rfl ?_
        refine TO.ef0 (Ef.store_box (us := [.int .i64 ((R4.List.length : Nat) : Int)]) (vs' := [Y6, strV R4.From, strV R4.To, .int .i64 ((R4.List.length : Nat) : Int)]) (is' := [.box B1 28 [Y6, strV R4.From, strV R4.To, .int .i64 ((R4.List.length : Nat) : Int)], .box B2 28 [.slice none 0 0, strV ([]), strV ([]), .int .i64 (0 : Int)], .box B3 33 [strV ([]), strV ([])], .own Y6 (lc R4.List)]) 0 kk3 rfl rfl rfl (Cel.plain rfl rfl) rfl rfl rfl rfl) rfl rfl (fun _ => ?_)
        refine TO.nil ?_
        exact TE.jn_go () [0, 0, 0, 0] ⟨rfl, rfl, rfl, trivial⟩ rfl
      · refine TW.skip ?_
        exact TE.jn_go () [0, 0, 0, 0] ⟨rfl, rfl, rfl, trivial⟩ rfl
    · refine TE.next ?_
      refine TW.seq ?_
      refine TW.region ?_
      refine TO.y (Y.load_box (v := .agg #[Y6, strV R4.From, strV R4.To, .int .i64 T26]) 0 kk28 rfl rfl rfl) rfl rfl rfl ?_
      refine TO.y (Y.build (cells := [strV ([]), strV ([])]) [] kp33 kz33 trivial rfl) rfl rfl rfl ?_
      refine TO.ef0 (Ef.store_box (us := [Y6, strV R4.From, strV R4.To, .int .i64 T26]) (vs' := [Y6, strV R4.From, strV R4.To, .int .i64 T26]) (is' := [.box B1 28 [Y6, strV R4.From, strV R4.To, .int .i64 T26], .box B2 28 [Y6, strV R4.From, strV R4.To, .int .i64 T26], .box B3 33 [strV ([]), strV ([])], .own Y6 (lc R4.List)]) 1 kk28 rfl rfl rfl (Cel.agg ⟨(One.can (Can.own 3 rfl)), (One.plain rfl), (One.plain rfl), (One.plain rfl), trivial⟩) rfl rfl rfl rfl) rfl rfl (fun _ => ?_)
      refine TO.ef0 (Ef.store_box (us := [strV ([]), strV ([])]) (vs' := [strV ([]), strV ([])]) (is' := [.box B1 28 [Y6, strV R4.From, strV R4.To, .int .i64 T26], .box B2 28 [Y6, strV R4.From, strV R4.To, .int .i64 T26], .box B3 33 [strV ([]), strV ([])], .own Y6 (lc R4.List)]) 2 kk33 rfl rfl rfl (Cel.plain rfl rfl) rfl rfl rfl rfl) rfl rfl (fun _ => ?_)
      refine TO.y (Y.assign rfl) rfl rfl rfl ?_
      refine TO.nil ?_
      refine TE.next ?_
      refine TW.ret ?_
      exact TE.leaf fun _ _ hf_ hs_ => ret_any (rs := [.cell 8 28, .cell 9 33, .tmp 10]) (vs := [.agg #[Y6, strV R4.From, strV R4.To, .int .i64 T26], .agg #[strV ([]), strV ([])], .bool false]) (.inl rfl) rfl (RV.cell 1 rfl rfl kk28 rfl (RV.cell 2 rfl rfl kk33 rfl ⟨rfl, trivial⟩)) hf_ hs_ ⟨Y6, rfl, hs_.pulls [3] rfl⟩

/-- loop.example/g00950/spec.IterSeek -/
noncomputable def spec_IterSeek (x : Iter) (key : List UInt8) : Option (Iter × KV × Bool) :=
  (spec_IterOk x).bind fun R4 =>
  if (!R4) = true then (some ({ List := ([] : List KV), From := [], To := [], At := (0 : Int) : Iter }, { Key := [], Val := [] : KV }, false))
  else ((spec_l14Go x (0 : Int) (1 : Int) key).bind fun R9 =>
  some (R9.1, R9.2.1, R9.2.2))

theorem spec_IterSeek_con (x : Iter) (key : List UInt8) (V_x0 : Value) (r : Iter × KV × Bool) (hm : spec_IterSeek x key = some r) :
    Con Try.prog 15 [.agg #[V_x0, strV x.From, strV x.To, .int .i64 x.At], strV key] [] [(V_x0, lc x.List)] (fun X : Value => .tuple #[.agg #[X, strV r.1.From, strV r.1.To, .int .i64 r.1.At], .agg #[strV r.2.1.Key, strV r.2.1.Val], .bool r.2.2]) (fun X => [.own X (lc r.1.List)]) := by
  refine Con.intro (args := [.agg #[V_x0, strV x.From, strV x.To, .int .i64 x.At], strV key]) (n := 25) (val := fun r (X : Value) => .tuple #[.agg #[X, strV r.1.From, strV r.1.To, .int .i64 r.1.At], .agg #[strV r.2.1.Key, strV r.2.1.Val], .bool r.2.2]) (post := fun r X => [.own X (lc r.1.List)]) (m := spec_IterSeek x key) Try.func15 rfl rfl rfl hm ?_
  intro w S hrd
  have HB_V_x0 := hrd _ (.head _)
  clear hrd
  unfold spec_IterSeek
  refine TW.seq ?_
  refine TW.region ?_
  refine TO.ef (Ef.box rfl (Cel.agg ⟨(One.can (Base.can HB_V_x0)), (One.plain rfl), (One.plain rfl), (One.plain rfl), trivial⟩)) rfl rfl rfl (fun B1 => ?_)
  refine TO.ef (Ef.alloc kz28 rfl) rfl rfl rfl (fun B2 => ?_)
  refine TO.ef (Ef.alloc kz33 rfl) rfl rfl rfl (fun B3 => ?_)
  refine TO.y (Y.assign rfl) rfl rfl rfl ?_
  refine TO.nil ?_
  refine TE.next ?_
  refine TW.seq ?_
  refine TW.seq ?_
  refine TW.region ?_
  refine TO.y (Y.load_box (v := .agg #[V_x0, strV x.From, strV x.To, .int .i64 x.At]) 2 kk28 rfl rfl rfl) rfl rfl rfl ?_
  refine TO.bind fun R4 H5 => ?_
  refine TO.ef (Ef.call (rest := [.box B3 33 [strV ([]), strV ([])], .box B2 28 [.slice none 0 0, strV ([]), strV ([]), .int .i64 (0 : Int)], .box B1 28 [V_x0, strV x.From, strV x.To, .int .i64 x.At]]) [0, 0, 0] (spec_IterOk_con x V_x0 R4 H5) kc42 rfl rfl ⟨(Base.can HB_V_x0), trivial⟩) rfl rfl rfl (fun _ => ?_)
  refine TO.y (Y.not rfl) rfl rfl rfl ?_
  refine TO.nil ?_
  refine TE.next ?_
  refine TW.cond rfl (fun H7 => ?_) (fun H7 => ?_)
  · refine TW.seq ?_
    refine TW.region ?_
    refine TO.y (Y.build (cells := [.slice none 0 0, strV ([]), strV ([]), .int .i64 (0 : Int)]) [] kp28 kz28 trivial rfl) rfl rfl rfl ?_
    refine TO.y (Y.build (cells := [strV ([]), strV ([])]) [] kp33 kz33 trivial rfl) rfl rfl rfl ?_
    refine TO.ef0 (Ef.store_box (us := [.slice none 0 0, strV ([]), strV ([]), .int .i64 (0 : Int)]) (vs' := [.slice none 0 0, strV ([]), strV ([]), .int .i64 (0 : Int)]) (is' := [.box B3 33 [strV ([]), strV ([])], .box B2 28 [.slice none 0 0, strV ([]), strV ([]), .int .i64 (0 : Int)], .box B1 28 [V_x0, strV x.From, strV x.To, .int .i64 x.At]]) 1 kk28 rfl rfl rfl (Cel.plain rfl rfl) rfl rfl rfl rfl) rfl rfl (fun _ => ?_)
    refine TO.ef0 (Ef.store_box (us := [strV ([]), strV ([])]) (vs' := [strV ([]), strV ([])]) (is' := [.box B3 33 [strV ([]), strV ([])], .box B2 28 [.slice none 0 0, strV ([]), strV ([]), .int .i64 (0 : Int)], .box B1 28 [V_x0, strV x.From, strV x.To, .int .i64 x.At]]) 0 kk33 rfl rfl rfl (Cel.plain rfl rfl) rfl rfl rfl rfl) rfl rfl (fun _ => ?_)
    refine TO.y (Y.assign rfl) rfl rfl rfl ?_
    refine TO.nil ?_
    refine TE.next ?_
    refine TW.ret ?_
    refine TE.then_ret ?_
    exact TE.leaf fun _ _ hf_ hs_ => ret_any (rs := [.cell 4 28, .cell 5 33, .tmp 6]) (vs := [.agg #[.slice none 0 0, strV ([]), strV ([]), .int .i64 (0 : Int)], .agg #[strV ([]), strV ([])], .bool false]) (.inl rfl) rfl (RV.cell 1 rfl rfl kk28 rfl (RV.cell 0 rfl rfl kk33 rfl ⟨rfl, trivial⟩)) hf_ hs_ ⟨(.slice none 0 0), rfl, (hs_.nilItem 2).pulls [0] rfl⟩
  · refine TW.skip ?_
    refine TE.next ?_
    refine TW.seq ?_
    refine TW.region ?_
    refine TO.y (Y.load_box (v := .agg #[V_x0, strV x.From, strV x.To, .int .i64 x.At]) 2 kk28 rfl rfl rfl) rfl rfl rfl ?_
    refine TO.y (Y.move rfl) rfl rfl rfl ?_
    refine TO.bind fun R9 H10 => ?_
    refine TO.ef (Ef.call (rest := [.box B3 33 [strV ([]), strV ([])], .box B2 28 [.slice none 0 0, strV ([]), strV ([]), .int .i64 (0 : Int)], .box B1 28 [V_x0, strV x.From, strV x.To, .int .i64 x.At]]) [0, 0, 0] (spec_l14Go_con x (0 : Int) (1 : Int) key V_x0 R9 H10) kc43 rfl rfl ⟨(Base.can HB_V_x0), trivial⟩) rfl rfl rfl (fun Y11 => ?_)
    refine TO.y (Y.move rfl) rfl rfl rfl ?_
    refine TO.y (Y.extract rfl rfl) rfl rfl rfl ?_
    refine TO.y (Y.extract rfl rfl) rfl rfl rfl ?_
    refine TO.y (Y.extract rfl rfl) rfl rfl rfl ?_
    refine TO.ef (Ef.alloc kz28 rfl) rfl rfl rfl (fun B12 => ?_)
    refine TO.ef (Ef.alloc kz33 rfl) rfl rfl rfl (fun B13 => ?_)
    refine TO.ef0 (Ef.store_box (us := [Y11, strV R9.1.From, strV R9.1.To, .int .i64 R9.1.At]) (vs' := [Y11, strV R9.1.From, strV R9.1.To, .int .i64 R9.1.At]) (is' := [.box B13 33 [strV ([]), strV ([])], .box B12 28 [Y11, strV R9.1.From, strV R9.1.To, .int .i64 R9.1.At], .own Y11 (lc R9.1.List), .box B3 33 [strV ([]), strV ([])], .box B2 28 [.slice none 0 0, strV ([]), strV ([]), .int .i64 (0 : Int)], .box B1 28 [V_x0, strV x.From, strV x.To, .int .i64 x.At]]) 1 kk28 rfl rfl rfl (Cel.agg ⟨(One.can (Can.own 2 rfl)), (One.plain rfl), (One.plain rfl), (One.plain rfl), trivial⟩) rfl rfl rfl rfl) rfl rfl (fun _ => ?_)
    refine TO.ef0 (Ef.store_box (us := [strV R9.2.1.Key, strV R9.2.1.Val]) (vs' := [strV R9.2.1.Key, strV R9.2.1.Val]) (is' := [.box B13 33 [strV R9.2.1.Key, strV R9.2.1.Val], .box B12 28 [Y11, strV R9.1.From, strV R9.1.To, .int .i64 R9.1.At], .own Y11 (lc R9.1.List), .box B3 33 [strV ([]), strV ([])], .box B2 28 [.slice none 0 0, strV ([]), strV ([]), .int .i64 (0 : Int)], .box B1 28 [V_x0, strV x.From, strV x.To, .int .i64 x.At]]) 0 kk33 rfl rfl rfl (Cel.plain rfl rfl) rfl rfl rfl rfl) rfl rfl (fun _ => ?_)
    refine TO.y (Y.assign rfl) rfl rfl rfl ?_
    refine TO.nil ?_
    refine TE.next ?_
    refine TW.seq ?_
    refine TW.draw (isH := [.box B13 33 [strV R9.2.1.Key, strV R9.2.1.Val], .box B12 28 [Y11, strV R9.1.From, strV R9.1.To, .int .i64 R9.1.At], .own Y11 (lc R9.1.List), .box B1 28 [V_x0, strV x.From, strV x.To, .int .i64 x.At]]) hMix ?_
    refine TA.y (listed' := #[true, false, false, false, false, false]) 0 [0, 0, 0, 2] rfl (Y.load_box (v := .agg #[Y11, strV R9.1.From, strV R9.1.To, .int .i64 R9.1.At]) 1 kk28 rfl rfl rfl) rfl rfl rfl (by kernel_rfl) (by kernel_rfl) (by kernel_rfl) rfl rfl ?_
    refine TA.y (listed' := #[true, true, false, false, false, false]) 1 [0, 0, 0, 2] rfl (Y.load_box (v := .agg #[strV R9.2.1.Key, strV R9.2.1.Val]) 0 kk33 rfl rfl rfl) rfl rfl rfl (by kernel_rfl) (by kernel_rfl) (by kernel_rfl) rfl rfl ?_
    refine TA.y (listed' := #[true, true, true, false, false, false]) 2 [0, 0, 0, 2] rfl (Y.move rfl) rfl rfl rfl (by kernel_rfl) (by kernel_rfl) (by kernel_rfl) rfl rfl ?_
    refine TA.one 3 (by kernel_rfl) ?_
    refine TX.ef0 (listed' := #[true, true, true, true, false, false]) [0, 0, 0, 2] rfl (Ef.store_box (us := [Y11, strV R9.1.From, strV R9.1.To, .int .i64 R9.1.At]) (vs' := [Y11, strV R9.1.From, strV R9.1.To, .int .i64 R9.1.At]) (is' := [.box B13 33 [strV R9.2.1.Key, strV R9.2.1.Val], .box B12 28 [Y11, strV R9.1.From, strV R9.1.To, .int .i64 R9.1.At], .own Y11 (lc R9.1.List), .box B3 33 [strV ([]), strV ([])], .box B2 28 [Y11, strV R9.1.From, strV R9.1.To, .int .i64 R9.1.At], .box B1 28 [V_x0, strV x.From, strV x.To, .int .i64 x.At]]) 4 kk28 rfl rfl rfl (Cel.agg ⟨(One.can (Can.own 2 rfl)), (One.plain rfl), (One.plain rfl), (One.plain rfl), trivial⟩) rfl rfl rfl rfl) rfl rfl rfl (fun _ => rfl) (fun _ => ?_)
    refine TA.one 4 (by kernel_rfl) ?_
    refine TX.ef0 (listed' := #[true, true, true, true, true, false]) [0, 0, 0, 2] rfl (Ef.store_box (us := [strV R9.2.1.Key, strV R9.2.1.Val]) (vs' := [strV R9.2.1.Key, strV R9.2.1.Val]) (is' := [.box B13 33 [strV R9.2.1.Key, strV R9.2.1.Val], .box B12 28 [Y11, strV R9.1.From, strV R9.1.To, .int .i64 R9.1.At], .own Y11 (lc R9.1.List), .box B3 33 [strV R9.2.1.Key, strV R9.2.1.Val], .box B2 28 [Y11, strV R9.1.From, strV R9.1.To, .int .i64 R9.1.At], .box B1 28 [V_x0, strV x.From, strV x.To, .int .i64 x.At]]) 3 kk33 rfl rfl rfl (Cel.plain rfl rfl) rfl rfl rfl rfl) rfl rfl rfl (fun _ => rfl) (fun _ => ?_)
    refine TA.y (listed' := #[true, true, true, true, true, true]) 5 [0, 0, 0, 2] rfl (Y.assign rfl) rfl rfl rfl (by kernel_rfl) (by kernel_rfl) (by kernel_rfl) rfl rfl ?_
    refine TA.nil (by kernel_rfl) ?_
    refine TE.next ?_
    refine TW.ret ?_
    exact TE.leaf fun _ _ hf_ hs_ => ret_any (rs := [.cell 4 28, .cell 5 33, .tmp 6]) (vs := [.agg #[Y11, strV R9.1.From, strV R9.1.To, .int .i64 R9.1.At], .agg #[strV R9.2.1.Key, strV R9.2.1.Val], .bool R9.2.2]) (.inl rfl) rfl (RV.cell 4 rfl rfl kk28 rfl (RV.cell 3 rfl rfl kk33 rfl ⟨rfl, trivial⟩)) hf_ hs_ ⟨Y11, rfl, hs_.pulls [2] rfl⟩

/-- loop.example/g00950/laws.FnIter -/
noncomputable def laws_FnIter (code : List UInt8) : Option Bool :=
  (laws_big code).bind fun R1 =>
  if R1 = true then (some true)
  else ((spec_DrawIterNew code).bind fun R5 =>
  (impl_IterNew R5.1 R5.2.1 R5.2.2).bind fun R8 =>
  (spec_MapOk R5.1).bind fun R12 =>
  if (!(decide (R8.2 = R12))) = true then (some false)
  else (if (!R8.2) = true then (some (decide (((R8.1.List.length : Nat) : Int) = (0 : Int))))
  else (bindC (loopO (fun (S18 : List UInt8 × List UInt8 × Int × Int × List KV × List KV) => if (decide (S18.2.2.2.1 ≤ ((R5.1.length : Nat) : Int))) = true then ((impl_IterNext ({ List := S18.2.2.2.2.1, From := S18.1, To := S18.2.1, At := S18.2.2.1 : Iter })).bind fun R23 =>
  bindC (if R23.2.2 = true then ((app 32 S18.2.2.2.2.2 ([R23.2.1])).bind fun E33 =>
  some (.go E33))
  else (some (.go S18.2.2.2.2.2)))
  (fun (T28 : List KV) => some (.go (R23.1.From, R23.1.To, R23.1.At, IntKind.i64.wrap (S18.2.2.2.1 + (1 : Int)), R23.1.List, T28))))
  else (some (.done (.go (S18.1, S18.2.1, S18.2.2.1, S18.2.2.2.2.1, S18.2.2.2.2.2)))))
  (R8.1.From, R8.1.To, R8.1.At, (0 : Int), R8.1.List, ([] : List KV)))
  (fun (T20 : List UInt8 × List UInt8 × Int × List KV × List KV) => bindC (loopO (fun (S36 : List UInt8 × List UInt8 × Int × Int × List KV × List KV) => if (decide (S36.2.2.2.1 ≤ ((R5.1.length : Nat) : Int))) = true then ((impl_IterPrev ({ List := S36.2.2.2.2.1, From := S36.1, To := S36.2.1, At := S36.2.2.1 : Iter })).bind fun R41 =>
  bindC (if R41.2.2 = true then ((app 32 S36.2.2.2.2.2 ([R41.2.1])).bind fun E51 =>
  some (.go E51))
  else (some (.go S36.2.2.2.2.2)))
  (fun (T46 : List KV) => some (.go (R41.1.From, R41.1.To, R41.1.At, IntKind.i64.wrap (S36.2.2.2.1 + (1 : Int)), R41.1.List, T46))))
  else (some (.done (.go S36.2.2.2.2.2))))
  (T20.1, T20.2.1, T20.2.2.1, (0 : Int), T20.2.2.2.1, ([] : List KV)))
  (fun (T38 : List KV) => bindC (loopO (fun (S54 : Int × List KV) => if (decide (S54.1 < ((R5.1.length : Nat) : Int))) = true then (((idx R5.1 S54.1).bind fun E61 =>
  if (!(sLt E61.Key R5.2.1)) = true then (if (decide (R5.2.2 = ([]))) = true then (some true)
  else (some (sLt E61.Key R5.2.2)))
  else (some false)).bind (fun (T59 : Bool) =>
  bindC (if T59 = true then ((idx R5.1 S54.1).bind fun E68 =>
  (app 32 S54.2 ([E68])).bind fun E72 =>
  some (.go E72))
  else (some (.go S54.2)))
  (fun (T65 : List KV) => some (.go (IntKind.i64.wrap (S54.1 + (1 : Int)), T65)))))
  else (some (.done (.go S54.2))))
  ((0 : Int), ([] : List KV)))
  (fun (T56 : List KV) => ((laws_sameMap T20.2.2.2.2 T56).bind fun R76 =>
  if (!R76) = true then (some true)
  else (some (!(decide (((T38.length : Nat) : Int) = ((T56.length : Nat) : Int)))))).bind (fun (T74 : Bool) =>
  if T74 = true then (some false)
  else (bindC (loopO (fun (S81 : Int) => if (decide (S81 < ((T38.length : Nat) : Int))) = true then ((idx T38 S81).bind fun E86 =>
  (idx T56 (IntKind.i64.wrap (IntKind.i64.wrap (((T56.length : Nat) : Int) - (1 : Int)) - S81))).bind fun E88 =>
  if (!(decide (E86.Key = E88.Key) && (decide (E86.Val = E88.Val) && true))) = true then (some (.done (.done false)))
  else (some (.go (IntKind.i64.wrap (S81 + (1 : Int))))))
  else (some (.done (.go ()))))
  (0 : Int))
  (fun (T83 : Unit) => (spec_DrawIterSeek code).bind fun R91 =>
  (impl_IterSeek R91.1 R91.2).bind fun R95 =>
  (spec_IterSeek R91.1 R91.2).bind fun R100 =>
  (if (decide (R95.2.2 = R100.2.2)) = true then (if (decide (R95.2.1.Key = R100.2.1.Key) && (decide (R95.2.1.Val = R100.2.1.Val) && true)) = true then (if (!R95.2.2) = true then (some true)
  else (some (!(sLt R95.2.1.Key R91.2))))
  else (some false))
  else (some false)).bind (fun (T105 : Bool) =>
  some T105))))))))))

theorem laws_FnIter_con (code : List UInt8) (V_code0 : Value) (r : Bool) (hm : laws_FnIter code = some r) :
    Con Try.prog 3 [V_code0] [] [(V_code0, lc code)] (fun _ : Unit => .bool r) (fun _ => []) := by
  refine Con.intro (args := [V_code0]) (n := 193) (val := fun r (_ : Unit) => .bool r) (post := fun _ _ => []) (m := laws_FnIter code) Try.func3 rfl rfl rfl hm ?_
  intro w S hrd
  have HB_V_code0 := hrd _ (.head _)
  clear hrd
  unfold laws_FnIter
  refine TW.seq ?_
  refine TW.region ?_
  refine TO.y (Y.assign rfl) rfl rfl rfl ?_
  refine TO.nil ?_
  refine TE.next ?_
  refine TW.seq ?_
  refine TW.seq ?_
  refine TW.region ?_
  refine TO.y (Y.move rfl) rfl rfl rfl ?_
  refine TO.bind fun R1 H2 => ?_
  refine TO.ef (Ef.call (rest := []) [] (laws_big_con code V_code0 R1 H2) kc6 rfl rfl ⟨(Base.can HB_V_code0), trivial⟩) rfl rfl rfl (fun _ => ?_)
  refine TO.nil ?_
  refine TE.next ?_
  refine TW.cond rfl (fun H4 => ?_) (fun H4 => ?_)
  · refine TW.seq ?_
    refine TW.region ?_
    refine TO.y (Y.assign rfl) rfl rfl rfl ?_
    refine TO.nil ?_
    refine TE.next ?_
    refine TW.ret ?_
    refine TE.then_ret ?_
    exact TE.leaf fun _ _ hf_ hs_ => ret_any (rs := [.tmp 2]) (vs := [.bool true]) (.inl rfl) rfl ⟨rfl, trivial⟩ hf_ hs_ ⟨(), rfl, hs_.pulls [] rfl⟩
  · refine TW.skip ?_
    refine TE.next ?_
    refine TW.seq ?_
    refine TW.region ?_
    refine TO.y (Y.move rfl) rfl rfl rfl ?_
    refine TO.bind fun R5 H6 => ?_
    refine TO.ef (Ef.call (rest := []) [] (spec_DrawIterNew_con code V_code0 R5 H6) kc7 rfl rfl ⟨(Base.can HB_V_code0), trivial⟩) rfl rfl rfl (fun Y7 => ?_)
    refine TO.y (Y.move rfl) rfl rfl rfl ?_
    refine TO.y (Y.extract rfl rfl) rfl rfl rfl ?_
    refine TO.y (Y.extract rfl rfl) rfl rfl rfl ?_
    refine TO.y (Y.extract rfl rfl) rfl rfl rfl ?_
    refine TO.y (Y.assign rfl) rfl rfl rfl ?_
    refine TO.y (Y.assign rfl) rfl rfl rfl ?_
    refine TO.y (Y.assign rfl) rfl rfl rfl ?_
    refine TO.nil ?_
    refine TE.next ?_
    refine TW.seq ?_
    refine TW.region ?_
    refine TO.y (Y.move rfl) rfl rfl rfl ?_
    refine TO.y (Y.move rfl) rfl rfl rfl ?_
    refine TO.y (Y.move rfl) rfl rfl rfl ?_
    refine TO.bind fun R8 H9 => ?_
    refine TO.ef (Ef.call (rest := [.own Y7 (lc R5.1)]) [0] (impl_IterNew_con R5.1 R5.2.1 R5.2.2 Y7 R8 H9) kc8 rfl rfl ⟨(Can.own 0 rfl), trivial⟩) rfl rfl rfl (fun Y10 => ?_)
    refine TO.y (Y.move rfl) rfl rfl rfl ?_
    refine TO.y (Y.extract rfl rfl) rfl rfl rfl ?_
    refine TO.y (Y.extract rfl rfl) rfl rfl rfl ?_
    refine TO.ef (Ef.alloc kz28 rfl) rfl rfl rfl (fun B11 => ?_)
    refine TO.ef0 (Ef.store_box (us := [Y10, strV R8.1.From, strV R8.1.To, .int .i64 R8.1.At]) (vs' := [Y10, strV R8.1.From, strV R8.1.To, .int .i64 R8.1.At]) (is' := [.box B11 28 [Y10, strV R8.1.From, strV R8.1.To, .int .i64 R8.1.At], .own Y10 (lc R8.1.List), .own Y7 (lc R5.1)]) 0 kk28 rfl rfl rfl (Cel.agg ⟨(One.can (Can.own 1 rfl)), (One.plain rfl), (One.plain rfl), (One.plain rfl), trivial⟩) rfl rfl rfl rfl) rfl rfl (fun _ => ?_)
    refine TO.y (Y.assign rfl) rfl rfl rfl ?_
    refine TO.nil ?_
    refine TE.next ?_
    refine TW.seq ?_
    refine TW.seq ?_
    refine TW.region ?_
    refine TO.y (Y.move rfl) rfl rfl rfl ?_
    refine TO.y (Y.move rfl) rfl rfl rfl ?_
    refine TO.bind fun R12 H13 => ?_
    refine TO.ef (Ef.call (rest := [.box B11 28 [Y10, strV R8.1.From, strV R8.1.To, .int .i64 R8.1.At], .own Y10 (lc R8.1.List), .own Y7 (lc R5.1)]) [0, 0, 0] (spec_MapOk_con R5.1 Y7 R12 H13) kc9 rfl rfl ⟨(Can.own 2 rfl), trivial⟩) rfl rfl rfl (fun _ => ?_)
    refine TO.y (Y.neb kb4 rfl rfl) rfl rfl rfl ?_
    refine TO.nil ?_
    refine TE.next ?_
    refine TW.cond rfl (fun H15 => ?_) (fun H15 => ?_)
    · refine TW.seq ?_
      refine TW.region ?_
      refine TO.y (Y.assign rfl) rfl rfl rfl ?_
      refine TO.nil ?_
      refine TE.next ?_
      refine TW.ret ?_
      refine TE.then_ret ?_
      exact TE.leaf fun _ _ hf_ hs_ => ret_any (rs := [.tmp 2]) (vs := [.bool false]) (.inl rfl) rfl ⟨rfl, trivial⟩ hf_ hs_ ⟨(), rfl, hs_.pulls [] rfl⟩
    · refine TW.skip ?_
      refine TE.next ?_
      refine TW.seq ?_
      refine TW.seq ?_
      refine TW.region ?_
      refine TO.y (Y.move rfl) rfl rfl rfl ?_
      refine TO.y (Y.not rfl) rfl rfl rfl ?_
      refine TO.nil ?_
      refine TE.next ?_
      refine TW.cond rfl (fun H16 => ?_) (fun H16 => ?_)
      · refine TW.seq ?_
        refine TW.region ?_
        refine TO.y (Y.field_box kf28_0 rfl rfl) rfl rfl rfl ?_
        refine TO.y (Y.load_box (v := Y10) 0 kk24 rfl rfl rfl) rfl rfl rfl ?_
        refine TO.y (Y.len (l := R8.1.List) ke24 (Can.own 1 rfl) rfl) rfl rfl rfl ?_
        refine TO.y (Y.eql rfl rfl) rfl rfl rfl ?_
        refine TO.y (Y.assign rfl) rfl rfl rfl ?_
        refine TO.nil ?_
        refine TE.next ?_
        refine TW.ret ?_
        refine TE.then_ret ?_
        exact TE.leaf fun _ _ hf_ hs_ => ret_any (rs := [.tmp 2]) (vs := [.bool (decide (((R8.1.List.length : Nat) : Int) = (0 : Int)))]) (.inl rfl) rfl ⟨rfl, trivial⟩ hf_ hs_ ⟨(), rfl, hs_.pulls [] rfl⟩
      · refine TW.skip ?_
        refine TE.next ?_
        refine TW.seq ?_
        refine TW.region ?_
        refine TO.ef (Ef.buildSlice (α := KV) (Vs := []) ([] : List KV) ke24 kz33 rfl rfl rfl rfl rfl) rfl rfl rfl (fun B17 => ?_)
        refine TO.y (Y.assign rfl) rfl rfl rfl ?_
        refine TO.nil ?_
        refine TE.next ?_
        refine TW.seq ?_
        refine TW.seq ?_
        refine TW.region ?_
        refine TO.y (Y.assign rfl) rfl rfl rfl ?_
        refine TO.nil ?_
        refine TE.next ?_
        refine TW.joinX (τ := List UInt8 × List UInt8 × Int × List KV × List KV) (X := Value × Value) (fun _ X => [(0, V_code0), (3, Y7), (4, strV R5.2.1), (5, strV R5.2.2), (6, .pointer (some ⟨B11, 0, none⟩)), (8, X.2)]) (fun T X => [.box B11 28 [X.1, strV T.1, strV T.2.1, .int .i64 T.2.2.1], .own Y7 (lc R5.1), .own X.1 (lc T.2.2.2.1), .own X.2 (lc T.2.2.2.2)]) ?_ (fun T20 X21 => ?_)
        · refine TW.block ?_
          refine TW.loopX (σ := List UInt8 × List UInt8 × Int × Int × List KV × List KV) (X := Value × Value) (fun T X => [(0, V_code0), (3, Y7), (4, strV R5.2.1), (5, strV R5.2.2), (6, .pointer (some ⟨B11, 0, none⟩)), (8, X.2), (9, .int .i64 T.2.2.2.1)]) (fun T X => [.box B11 28 [X.1, strV T.1, strV T.2.1, .int .i64 T.2.2.1], .own Y7 (lc R5.1), .own X.1 (lc T.2.2.2.2.1), .own X.2 (lc T.2.2.2.2.2)]) (Y10, .slice (some ⟨B17, 0, none⟩) 0 0) [1, 2, 1, 0] ⟨rfl, rfl, rfl, rfl, rfl, rfl, rfl, trivial⟩ rfl (fun S18 X19 => ?_)
          refine TW.seq ?_
          refine TW.seq ?_
          refine TW.region ?_
          refine TO.y (Y.move rfl) rfl rfl rfl ?_
          refine TO.y (Y.move rfl) rfl rfl rfl ?_
          refine TO.y (Y.len (l := R5.1) ke24 (Can.own 1 rfl) rfl) rfl rfl rfl ?_
          refine TO.y (Y.leq rfl rfl) rfl rfl rfl ?_
          refine TO.nil ?_
          refine TE.next ?_
          refine TW.cond rfl (fun H22 => ?_) (fun H22 => ?_)
          · refine TW.skip ?_
            refine TE.next ?_
            refine TW.seq ?_
            refine TW.block ?_
            refine TW.seq ?_
            refine TW.region ?_
            refine TO.y (Y.load_box (v := .agg #[X19.1, strV S18.1, strV S18.2.1, .int .i64 S18.2.2.1]) 0 kk28 rfl rfl rfl) rfl rfl rfl ?_
            refine TO.bind fun R23 H24 => ?_
            refine TO.ef (Ef.call (rest := [.box B11 28 [X19.1, strV S18.1, strV S18.2.1, .int .i64 S18.2.2.1], .own Y7 (lc R5.1), .own X19.1 (lc S18.2.2.2.2.1), .own X19.2 (lc S18.2.2.2.2.2)]) [0, 0, 0, 0] (impl_IterNext_con ({ List := S18.2.2.2.2.1, From := S18.1, To := S18.2.1, At := S18.2.2.1 : Iter }) X19.1 R23 H24) kc10 rfl rfl ⟨(Can.own 2 rfl), trivial⟩) rfl rfl rfl (fun Y25 => ?_)
            refine TO.y (Y.move rfl) rfl rfl rfl ?_
            refine TO.y (Y.extract rfl rfl) rfl rfl rfl ?_
            refine TO.y (Y.extract rfl rfl) rfl rfl rfl ?_
            refine TO.y (Y.extract rfl rfl) rfl rfl rfl ?_
            refine TO.ef (Ef.alloc kz28 rfl) rfl rfl rfl (fun B26 => ?_)
            refine TO.ef (Ef.alloc kz33 rfl) rfl rfl rfl (fun B27 => ?_)
            refine TO.ef0 (Ef.store_box (us := [Y25, strV R23.1.From, strV R23.1.To, .int .i64 R23.1.At]) (vs' := [Y25, strV R23.1.From, strV R23.1.To, .int .i64 R23.1.At]) (is' := [.box B27 33 [strV ([]), strV ([])], .box B26 28 [Y25, strV R23.1.From, strV R23.1.To, .int .i64 R23.1.At], .own Y25 (lc R23.1.List), .box B11 28 [X19.1, strV S18.1, strV S18.2.1, .int .i64 S18.2.2.1], .own Y7 (lc R5.1), .own X19.1 (lc S18.2.2.2.2.1), .own X19.2 (lc S18.2.2.2.2.2)]) 1 kk28 rfl rfl rfl (Cel.agg ⟨(One.can (Can.own 2 rfl)), (One.plain rfl), (One.plain rfl), (One.plain rfl), trivial⟩) rfl rfl rfl rfl) rfl rfl (fun _ => ?_)
            refine TO.ef0 (Ef.store_box (us := [strV R23.2.1.Key, strV R23.2.1.Val]) (vs' := [strV R23.2.1.Key, strV R23.2.1.Val]) (is' := [.box B27 33 [strV R23.2.1.Key, strV R23.2.1.Val], .box B26 28 [Y25, strV R23.1.From, strV R23.1.To, .int .i64 R23.1.At], .own Y25 (lc R23.1.List), .box B11 28 [X19.1, strV S18.1, strV S18.2.1, .int .i64 S18.2.2.1], .own Y7 (lc R5.1), .own X19.1 (lc S18.2.2.2.2.1), .own X19.2 (lc S18.2.2.2.2.2)]) 0 kk33 rfl rfl rfl (Cel.plain rfl rfl) rfl rfl rfl rfl) rfl rfl (fun _ => ?_)
            refine TO.y (Y.assign rfl) rfl rfl rfl ?_
            refine TO.nil ?_
            refine TE.next ?_
            refine TW.seq ?_
            refine TW.region ?_
            refine TO.y (Y.load_box (v := .agg #[Y25, strV R23.1.From, strV R23.1.To, .int .i64 R23.1.At]) 1 kk28 rfl rfl rfl) rfl rfl rfl ?_
            refine TO.ef0 (Ef.store_box (us := [Y25, strV R23.1.From, strV R23.1.To, .int .i64 R23.1.At]) (vs' := [Y25, strV R23.1.From, strV R23.1.To, .int .i64 R23.1.At]) (is' := [.box B27 33 [strV R23.2.1.Key, strV R23.2.1.Val], .box B26 28 [Y25, strV R23.1.From, strV R23.1.To, .int .i64 R23.1.At], .own Y25 (lc R23.1.List), .box B11 28 [Y25, strV R23.1.From, strV R23.1.To, .int .i64 R23.1.At], .own Y7 (lc R5.1), .own X19.1 (lc S18.2.2.2.2.1), .own X19.2 (lc S18.2.2.2.2.2)]) 3 kk28 rfl rfl rfl (Cel.agg ⟨(One.can (Can.own 2 rfl)), (One.plain rfl), (One.plain rfl), (One.plain rfl), trivial⟩) rfl rfl rfl rfl) rfl rfl (fun _ => ?_)
            refine TO.nil ?_
            refine TE.next ?_
            refine TW.seq ?_
            refine TW.region ?_
            refine TO.y (Y.move rfl) rfl rfl rfl ?_
            refine TO.nil ?_
            refine TE.next ?_
            refine TW.joinX (τ := List KV) (X := Value) (fun _ X => [(0, V_code0), (3, Y7), (4, strV R5.2.1), (5, strV R5.2.2), (6, .pointer (some ⟨B11, 0, none⟩)), (8, X), (9, .int .i64 S18.2.2.2.1)]) (fun T X => [.box B11 28 [Y25, strV R23.1.From, strV R23.1.To, .int .i64 R23.1.At], .own Y7 (lc R5.1), .own Y25 (lc R23.1.List), .own X (lc T)]) ?_ (fun T28 X29 => ?_)
            · refine TW.cond rfl (fun H30 => ?_) (fun H30 => ?_)
              · refine TW.region ?_
                refine TO.y (Y.move rfl) rfl rfl rfl ?_
                refine TO.y (Y.load_box (v := .agg #[strV R23.2.1.Key, strV R23.2.1.Val]) 0 kk33 rfl rfl rfl) rfl rfl rfl ?_
                refine TO.ef (Ef.buildSlice (α := KV) (Vs := [.agg #[strV R23.2.1.Key, strV R23.2.1.Val]]) [R23.2.1] ke24 kz33 rfl rfl rfl rfl rfl) rfl rfl rfl (fun B31 => ?_)
                refine TO.bind fun E33 H34 => ?_
                refine TO.ef (Ef.append (α := KV) (is' := [.own (.slice (some ⟨B31, 0, none⟩) 1 1) (lc ([R23.2.1])), .box B27 33 [strV R23.2.1.Key, strV R23.2.1.Val], .box B26 28 [Y25, strV R23.1.From, strV R23.1.To, .int .i64 R23.1.At], .own Y25 (lc R23.1.List), .box B11 28 [Y25, strV R23.1.From, strV R23.1.To, .int .i64 R23.1.At], .own Y7 (lc R5.1), .own X19.1 (lc S18.2.2.2.2.1)]) [7, 0, 0, 0, 0, 0, 0, 0] H34 ke24 kz33 rfl rfl rfl rfl rfl (Can.own 0 rfl)) rfl rfl rfl (fun V32 => ?_)
                refine TO.y (Y.assign rfl) rfl rfl rfl ?_
                refine TO.nil ?_
                exact TE.jn_go V32 [5, 5, 4, 0] ⟨rfl, rfl, rfl, rfl, rfl, rfl, rfl, trivial⟩ rfl
              · refine TW.skip ?_
                exact TE.jn_go X19.2 [3, 3, 2, 3] ⟨rfl, rfl, rfl, rfl, rfl, rfl, rfl, trivial⟩ rfl
            · refine TE.block_normal ?_
              refine TE.next ?_
              refine TW.region ?_
              refine TO.y (Y.move rfl) rfl rfl rfl ?_
              refine TO.y (Y.add rfl rfl) rfl rfl rfl ?_
              refine TO.y (Y.assign rfl) rfl rfl rfl ?_
              refine TO.nil ?_
              exact TE.lp_go (Y25, X29) [0, 0, 0, 0] ⟨rfl, rfl, rfl, rfl, rfl, rfl, rfl, trivial⟩ rfl
          · refine TW.exit ?_
            refine TE.then_exit ?_
            refine TE.lp_exit ?_
            refine TE.block_exit ?_
            exact TE.jn_go (X19.1, X19.2) [0, 0, 0, 0] ⟨rfl, rfl, rfl, rfl, rfl, rfl, trivial⟩ rfl
        · refine TE.next ?_
          refine TW.seq ?_
          refine TW.region ?_
          refine TO.ef (Ef.buildSlice (α := KV) (Vs := []) ([] : List KV) ke24 kz33 rfl rfl rfl rfl rfl) rfl rfl rfl (fun B35 => ?_)
          refine TO.y (Y.assign rfl) rfl rfl rfl ?_
          refine TO.nil ?_
          refine TE.next ?_
          refine TW.seq ?_
          refine TW.seq ?_
          refine TW.region ?_
          refine TO.y (Y.assign rfl) rfl rfl rfl ?_
          refine TO.nil ?_
          refine TE.next ?_
          refine TW.joinX (τ := List KV) (X := Value) (fun _ X => [(0, V_code0), (3, Y7), (4, strV R5.2.1), (5, strV R5.2.2), (8, X21.2), (13, X)]) (fun T X => [.own Y7 (lc R5.1), .own X21.2 (lc T20.2.2.2.2), .own X (lc T)]) ?_ (fun T38 X39 => ?_)
          · refine TW.block ?_
            refine TW.loopX (σ := List UInt8 × List UInt8 × Int × Int × List KV × List KV) (X := Value × Value) (fun T X => [(0, V_code0), (3, Y7), (4, strV R5.2.1), (5, strV R5.2.2), (6, .pointer (some ⟨B11, 0, none⟩)), (8, X21.2), (13, X.2), (14, .int .i64 T.2.2.2.1)]) (fun T X => [.box B11 28 [X.1, strV T.1, strV T.2.1, .int .i64 T.2.2.1], .own Y7 (lc R5.1), .own X.1 (lc T.2.2.2.2.1), .own X21.2 (lc T20.2.2.2.2), .own X.2 (lc T.2.2.2.2.2)]) (X21.1, .slice (some ⟨B35, 0, none⟩) 0 0) [1, 1, 1, 1, 0] ⟨rfl, rfl, rfl, rfl, rfl, rfl, rfl, rfl, trivial⟩ rfl (fun S36 X37 => ?_)
            refine TW.seq ?_
            refine TW.seq ?_
            refine TW.region ?_
            refine TO.y (Y.move rfl) rfl rfl rfl ?_
            refine TO.y (Y.move rfl) rfl rfl rfl ?_
            refine TO.y (Y.len (l := R5.1) ke24 (Can.own 1 rfl) rfl) rfl rfl rfl ?_
            refine TO.y (Y.leq rfl rfl) rfl rfl rfl ?_
            refine TO.nil ?_
            refine TE.next ?_
            refine TW.cond rfl (fun H40 => ?_) (fun H40 => ?_)
            · refine TW.skip ?_
              refine TE.next ?_
              refine TW.seq ?_
              refine TW.block ?_
              refine TW.seq ?_
              refine TW.region ?_
              refine TO.y (Y.load_box (v := .agg #[X37.1, strV S36.1, strV S36.2.1, .int .i64 S36.2.2.1]) 0 kk28 rfl rfl rfl) rfl rfl rfl ?_
              refine TO.bind fun R41 H42 => ?_
              refine TO.ef (Ef.call (rest := [.box B11 28 [X37.1, strV S36.1, strV S36.2.1, .int .i64 S36.2.2.1], .own Y7 (lc R5.1), .own X37.1 (lc S36.2.2.2.2.1), .own X21.2 (lc T20.2.2.2.2), .own X37.2 (lc S36.2.2.2.2.2)]) [0, 0, 0, 0, 0] (impl_IterPrev_con ({ List := S36.2.2.2.2.1, From := S36.1, To := S36.2.1, At := S36.2.2.1 : Iter }) X37.1 R41 H42) kc11 rfl rfl ⟨(Can.own 2 rfl), trivial⟩) rfl rfl rfl (fun Y43 => ?_)
              refine TO.y (Y.move rfl) rfl rfl rfl ?_
              refine TO.y (Y.extract rfl rfl) rfl rfl rfl ?_
              refine TO.y (Y.extract rfl rfl) rfl rfl rfl ?_
              refine TO.y (Y.extract rfl rfl) rfl rfl rfl ?_
              refine TO.ef (Ef.alloc kz28 rfl) rfl rfl rfl (fun B44 => ?_)
              refine TO.ef (Ef.alloc kz33 rfl) rfl rfl rfl (fun B45 => ?_)
              refine TO.ef0 (Ef.store_box (us := [Y43, strV R41.1.From, strV R41.1.To, .int .i64 R41.1.At]) (vs' := [Y43, strV R41.1.From, strV R41.1.To, .int .i64 R41.1.At]) (is' := [.box B45 33 [strV ([]), strV ([])], .box B44 28 [Y43, strV R41.1.From, strV R41.1.To, .int .i64 R41.1.At], .own Y43 (lc R41.1.List), .box B11 28 [X37.1, strV S36.1, strV S36.2.1, .int .i64 S36.2.2.1], .own Y7 (lc R5.1), .own X37.1 (lc S36.2.2.2.2.1), .own X21.2 (lc T20.2.2.2.2), .own X37.2 (lc S36.2.2.2.2.2)]) 1 kk28 rfl rfl rfl (Cel.agg ⟨(One.can (Can.own 2 rfl)), (One.plain rfl), (One.plain rfl), (One.plain rfl), trivial⟩) rfl rfl rfl rfl) rfl rfl (fun _ => ?_)
              refine TO.ef0 (Ef.store_box (us := [strV R41.2.1.Key, strV R41.2.1.Val]) (vs' := [strV R41.2.1.Key, strV R41.2.1.Val]) (is' := [.box B45 33 [strV R41.2.1.Key, strV R41.2.1.Val], .box B44 28 [Y43, strV R41.1.From, strV R41.1.To, .int .i64 R41.1.At], .own Y43 (lc R41.1.List), .box B11 28 [X37.1, strV S36.1, strV S36.2.1, .int .i64 S36.2.2.1], .own Y7 (lc R5.1), .own X37.1 (lc S36.2.2.2.2.1), .own X21.2 (lc T20.2.2.2.2), .own X37.2 (lc S36.2.2.2.2.2)]) 0 kk33 rfl rfl rfl (Cel.plain rfl rfl) rfl rfl rfl rfl) rfl rfl (fun _ => ?_)
              refine TO.y (Y.assign rfl) rfl rfl rfl ?_
              refine TO.nil ?_
              refine TE.next ?_
              refine TW.seq ?_
              refine TW.region ?_
              refine TO.y (Y.load_box (v := .agg #[Y43, strV R41.1.From, strV R41.1.To, .int .i64 R41.1.At]) 1 kk28 rfl rfl rfl) rfl rfl rfl ?_
              refine TO.ef0 (Ef.store_box (us := [Y43, strV R41.1.From, strV R41.1.To, .int .i64 R41.1.At]) (vs' := [Y43, strV R41.1.From, strV R41.1.To, .int .i64 R41.1.At]) (is' := [.box B45 33 [strV R41.2.1.Key, strV R41.2.1.Val], .box B44 28 [Y43, strV R41.1.From, strV R41.1.To, .int .i64 R41.1.At], .own Y43 (lc R41.1.List), .box B11 28 [Y43, strV R41.1.From, strV R41.1.To, .int .i64 R41.1.At], .own Y7 (lc R5.1), .own X37.1 (lc S36.2.2.2.2.1), .own X21.2 (lc T20.2.2.2.2), .own X37.2 (lc S36.2.2.2.2.2)]) 3 kk28 rfl rfl rfl (Cel.agg ⟨(One.can (Can.own 2 rfl)), (One.plain rfl), (One.plain rfl), (One.plain rfl), trivial⟩) rfl rfl rfl rfl) rfl rfl (fun _ => ?_)
              refine TO.nil ?_
              refine TE.next ?_
              refine TW.seq ?_
              refine TW.region ?_
              refine TO.y (Y.move rfl) rfl rfl rfl ?_
              refine TO.nil ?_
              refine TE.next ?_
              refine TW.joinX (τ := List KV) (X := Value) (fun _ X => [(0, V_code0), (3, Y7), (4, strV R5.2.1), (5, strV R5.2.2), (6, .pointer (some ⟨B11, 0, none⟩)), (8, X21.2), (13, X), (14, .int .i64 S36.2.2.2.1)]) (fun T X => [.box B11 28 [Y43, strV R41.1.From, strV R41.1.To, .int .i64 R41.1.At], .own Y7 (lc R5.1), .own Y43 (lc R41.1.List), .own X21.2 (lc T20.2.2.2.2), .own X (lc T)]) ?_ (fun T46 X47 => ?_)
              · refine TW.cond rfl (fun H48 => ?_) (fun H48 => ?_)
                · refine TW.region ?_
                  refine TO.y (Y.move rfl) rfl rfl rfl ?_
                  refine TO.y (Y.load_box (v := .agg #[strV R41.2.1.Key, strV R41.2.1.Val]) 0 kk33 rfl rfl rfl) rfl rfl rfl ?_
                  refine TO.ef (Ef.buildSlice (α := KV) (Vs := [.agg #[strV R41.2.1.Key, strV R41.2.1.Val]]) [R41.2.1] ke24 kz33 rfl rfl rfl rfl rfl) rfl rfl rfl (fun B49 => ?_)
                  refine TO.bind fun E51 H52 => ?_
                  refine TO.ef (Ef.append (α := KV) (is' := [.own (.slice (some ⟨B49, 0, none⟩) 1 1) (lc ([R41.2.1])), .box B45 33 [strV R41.2.1.Key, strV R41.2.1.Val], .box B44 28 [Y43, strV R41.1.From, strV R41.1.To, .int .i64 R41.1.At], .own Y43 (lc R41.1.List), .box B11 28 [Y43, strV R41.1.From, strV R41.1.To, .int .i64 R41.1.At], .own Y7 (lc R5.1), .own X37.1 (lc S36.2.2.2.2.1), .own X21.2 (lc T20.2.2.2.2)]) [8, 0, 0, 0, 0, 0, 0, 0, 0] H52 ke24 kz33 rfl rfl rfl rfl rfl (Can.own 0 rfl)) rfl rfl rfl (fun V50 => ?_)
                  refine TO.y (Y.assign rfl) rfl rfl rfl ?_
                  refine TO.nil ?_
                  exact TE.jn_go V50 [5, 5, 4, 5, 0] ⟨rfl, rfl, rfl, rfl, rfl, rfl, rfl, rfl, trivial⟩ rfl
                · refine TW.skip ?_
                  exact TE.jn_go X37.2 [3, 3, 2, 3, 3] ⟨rfl, rfl, rfl, rfl, rfl, rfl, rfl, rfl, trivial⟩ rfl
              · refine TE.block_normal ?_
                refine TE.next ?_
                refine TW.region ?_
                refine TO.y (Y.move rfl) rfl rfl rfl ?_
                refine TO.y (Y.add rfl rfl) rfl rfl rfl ?_
                refine TO.y (Y.assign rfl) rfl rfl rfl ?_
                refine TO.nil ?_
                exact TE.lp_go (Y43, X47) [0, 0, 0, 0, 0] ⟨rfl, rfl, rfl, rfl, rfl, rfl, rfl, rfl, trivial⟩ rfl
            · refine TW.exit ?_
              refine TE.then_exit ?_
              refine TE.lp_exit ?_
              refine TE.block_exit ?_
              exact TE.jn_go X37.2 [1, 2, 2] ⟨rfl, rfl, rfl, rfl, rfl, rfl, trivial⟩ rfl
          · refine TE.next ?_
            refine TW.seq ?_
            refine TW.region ?_
            refine TO.ef (Ef.buildSlice (α := KV) (Vs := []) ([] : List KV) ke24 kz33 rfl rfl rfl rfl rfl) rfl rfl rfl (fun B53 => ?_)
            refine TO.y (Y.assign rfl) rfl rfl rfl ?_
            refine TO.nil ?_
            refine TE.next ?_
            refine TW.seq ?_
            refine TW.seq ?_
            refine TW.region ?_
            refine TO.y (Y.assign rfl) rfl rfl rfl ?_
            refine TO.nil ?_
            refine TE.next ?_
            refine TW.joinX (τ := List KV) (X := Value) (fun _ X => [(0, V_code0), (8, X21.2), (13, X39), (18, X)]) (fun T X => [.own X21.2 (lc T20.2.2.2.2), .own X39 (lc T38), .own X (lc T)]) ?_ (fun T56 X57 => ?_)
            · refine TW.block ?_
              refine TW.loopX (σ := Int × List KV) (X := Value) (fun T X => [(0, V_code0), (3, Y7), (4, strV R5.2.1), (5, strV R5.2.2), (8, X21.2), (13, X39), (18, X), (19, .int .i64 T.1)]) (fun T X => [.own Y7 (lc R5.1), .own X21.2 (lc T20.2.2.2.2), .own X39 (lc T38), .own X (lc T.2)]) (.slice (some ⟨B53, 0, none⟩) 0 0) [1, 1, 1, 0] ⟨rfl, rfl, rfl, rfl, rfl, rfl, rfl, rfl, trivial⟩ rfl (fun S54 X55 => ?_)
              refine TW.seq ?_
              refine TW.seq ?_
              refine TW.region ?_
              refine TO.y (Y.move rfl) rfl rfl rfl ?_
              refine TO.y (Y.move rfl) rfl rfl rfl ?_
              refine TO.y (Y.len (l := R5.1) ke24 (Can.own 0 rfl) rfl) rfl rfl rfl ?_
              refine TO.y (Y.lss rfl rfl) rfl rfl rfl ?_
              refine TO.nil ?_
              refine TE.next ?_
              refine TW.cond rfl (fun H58 => ?_) (fun H58 => ?_)
              · refine TW.skip ?_
                refine TE.next ?_
                refine TW.seq ?_
                refine TW.block ?_
                refine TW.seq ?_
                refine TW.joinBX (τ := Bool) (X := Unit) (fun T _ => [(0, V_code0), (3, Y7), (4, strV R5.2.1), (5, strV R5.2.2), (8, X21.2), (13, X39), (18, X55), (19, .int .i64 S54.1), (118, .bool T)]) (fun _ _ => [.own Y7 (lc R5.1), .own X21.2 (lc T20.2.2.2.2), .own X39 (lc T38), .own X55 (lc S54.2)]) ?_ (fun T59 X60 => ?_)
                · refine TW.region ?_
                  refine TO.y (Y.move rfl) rfl rfl rfl ?_
                  refine TO.y (Y.move rfl) rfl rfl rfl ?_
                  refine TO.bind fun E61 H62 => ?_
                  refine TO.y (Y.index ke24 (Can.own 0 rfl) H62 rfl rfl) rfl rfl rfl ?_
                  refine TO.y (Y.field_el kf33_0 (Can.own 0 rfl) (idx_get H62).2.2 rfl rfl) rfl rfl rfl ?_
                  refine TO.y (Y.load_el (us := [strV E61.Key]) (u := strV E61.Key) kk9 rfl (Can.own 0 rfl) (idx_get H62).2.2 rfl rfl rfl rfl rfl) rfl rfl rfl ?_
                  refine TO.y (Y.move rfl) rfl rfl rfl ?_
                  refine TO.y (Y.sgeq rfl rfl) rfl rfl rfl ?_
                  refine TO.y (Y.move rfl) rfl rfl rfl ?_
                  refine TO.ite (b := !(sLt E61.Key R5.2.1)) (fun H63 => ?_) (fun H63 => ?_)
                  · refine TO.y (Y.move rfl) (Gd.at 7 true 106 (!(sLt E61.Key R5.2.1)) rfl rfl rfl (beq_tt H63)) rfl rfl ?_
                    refine TO.y (Y.seql rfl rfl) (Gd.at 7 true 106 (!(sLt E61.Key R5.2.1)) rfl rfl rfl (beq_tt H63)) rfl rfl ?_
                    refine TO.y (Y.move rfl) (Gd.at 7 true 106 (!(sLt E61.Key R5.2.1)) rfl rfl rfl (beq_tt H63)) rfl rfl ?_
                    refine TO.ite (b := decide (R5.2.2 = ([]))) (fun H64 => ?_) (fun H64 => ?_)
                    · refine TO.off (Gd.at 10 false 109 (decide (R5.2.2 = ([]))) rfl rfl rfl (beq_tf H64)) rfl rfl ?_
                      refine TO.off (Gd.at 10 false 109 (decide (R5.2.2 = ([]))) rfl rfl rfl (beq_tf H64)) rfl rfl ?_
                      refine TO.off (Gd.at 10 false 109 (decide (R5.2.2 = ([]))) rfl rfl rfl (beq_tf H64)) rfl rfl ?_
                      refine TO.off (Gd.at 10 false 109 (decide (R5.2.2 = ([]))) rfl rfl rfl (beq_tf H64)) rfl rfl ?_
                      refine TO.off (Gd.at 10 false 109 (decide (R5.2.2 = ([]))) rfl rfl rfl (beq_tf H64)) rfl rfl ?_
                      refine TO.off (Gd.at 10 false 109 (decide (R5.2.2 = ([]))) rfl rfl rfl (beq_tf H64)) rfl rfl ?_
                      refine TO.off (Gd.at 10 false 109 (decide (R5.2.2 = ([]))) rfl rfl rfl (beq_tf H64)) rfl rfl ?_
                      refine TO.y (Y.pick_t H64 rfl rfl) (Gd.at 7 true 106 (!(sLt E61.Key R5.2.1)) rfl rfl rfl (beq_tt H63)) rfl rfl ?_
                      refine TO.y (Y.pick_t H63 rfl rfl) rfl rfl rfl ?_
                      refine TO.nil ?_
                      exact TE.jb_go () [0, 0, 0, 0] ⟨rfl, rfl, rfl, rfl, rfl, rfl, rfl, rfl, rfl, trivial⟩ rfl
                    · refine TO.y (Y.move rfl) (Gd.at 10 false 109 (decide (R5.2.2 = ([]))) rfl rfl rfl (beq_ff H64)) rfl rfl ?_
                      refine TO.y (Y.move rfl) (Gd.at 10 false 109 (decide (R5.2.2 = ([]))) rfl rfl rfl (beq_ff H64)) rfl rfl ?_
                      refine TO.y (Y.index ke24 (Can.own 0 rfl) H62 rfl rfl) (Gd.at 10 false 109 (decide (R5.2.2 = ([]))) rfl rfl rfl (beq_ff H64)) rfl rfl ?_
                      refine TO.y (Y.field_el kf33_0 (Can.own 0 rfl) (idx_get H62).2.2 rfl rfl) (Gd.at 10 false 109 (decide (R5.2.2 = ([]))) rfl rfl rfl (beq_ff H64)) rfl rfl ?_
                      refine TO.y (Y.load_el (us := [strV E61.Key]) (u := strV E61.Key) kk9 rfl (Can.own 0 rfl) (idx_get H62).2.2 rfl rfl rfl rfl rfl) (Gd.at 10 false 109 (decide (R5.2.2 = ([]))) rfl rfl rfl (beq_ff H64)) rfl rfl ?_
                      refine TO.y (Y.move rfl) (Gd.at 10 false 109 (decide (R5.2.2 = ([]))) rfl rfl rfl (beq_ff H64)) rfl rfl ?_
                      refine TO.y (Y.slss rfl rfl) (Gd.at 10 false 109 (decide (R5.2.2 = ([]))) rfl rfl rfl (beq_ff H64)) rfl rfl ?_
                      refine TO.y (Y.pick_f H64 rfl rfl) (Gd.at 7 true 106 (!(sLt E61.Key R5.2.1)) rfl rfl rfl (beq_tt H63)) rfl rfl ?_
                      refine TO.y (Y.pick_t H63 rfl rfl) rfl rfl rfl ?_
                      refine TO.nil ?_
                      exact TE.jb_go () [0, 0, 0, 0] ⟨rfl, rfl, rfl, rfl, rfl, rfl, rfl, rfl, rfl, trivial⟩ rfl
                  · refine TO.off (Gd.at 7 true 106 (!(sLt E61.Key R5.2.1)) rfl rfl rfl (beq_ft H63)) rfl rfl ?_
                    refine TO.off (Gd.at 7 true 106 (!(sLt E61.Key R5.2.1)) rfl rfl rfl (beq_ft H63)) rfl rfl ?_
                    refine TO.off (Gd.at 7 true 106 (!(sLt E61.Key R5.2.1)) rfl rfl rfl (beq_ft H63)) rfl rfl ?_
                    refine TO.off (Gd.un 10 false 109 rfl rfl rfl) rfl rfl ?_
                    refine TO.off (Gd.un 10 false 109 rfl rfl rfl) rfl rfl ?_
                    refine TO.off (Gd.un 10 false 109 rfl rfl rfl) rfl rfl ?_
                    refine TO.off (Gd.un 10 false 109 rfl rfl rfl) rfl rfl ?_
                    refine TO.off (Gd.un 10 false 109 rfl rfl rfl) rfl rfl ?_
                    refine TO.off (Gd.un 10 false 109 rfl rfl rfl) rfl rfl ?_
                    refine TO.off (Gd.un 10 false 109 rfl rfl rfl) rfl rfl ?_
                    refine TO.off (Gd.at 7 true 106 (!(sLt E61.Key R5.2.1)) rfl rfl rfl (beq_ft H63)) rfl rfl ?_
                    refine TO.y (Y.pick_f H63 rfl rfl) rfl rfl rfl ?_
                    refine TO.nil ?_
                    exact TE.jb_go () [0, 0, 0, 0] ⟨rfl, rfl, rfl, rfl, rfl, rfl, rfl, rfl, rfl, trivial⟩ rfl
                · refine TE.next ?_
                  refine TW.joinX (τ := List KV) (X := Value) (fun _ X => [(0, V_code0), (3, Y7), (4, strV R5.2.1), (5, strV R5.2.2), (8, X21.2), (13, X39), (18, X), (19, .int .i64 S54.1)]) (fun T X => [.own Y7 (lc R5.1), .own X21.2 (lc T20.2.2.2.2), .own X39 (lc T38), .own X (lc T)]) ?_ (fun T65 X66 => ?_)
                  · refine TW.cond rfl (fun H67 => ?_) (fun H67 => ?_)
                    · refine TW.region ?_
                      refine TO.y (Y.move rfl) rfl rfl rfl ?_
                      refine TO.y (Y.move rfl) rfl rfl rfl ?_
                      refine TO.y (Y.move rfl) rfl rfl rfl ?_
                      refine TO.bind fun E68 H69 => ?_
                      refine TO.y (Y.index ke24 (Can.own 0 rfl) H69 rfl rfl) rfl rfl rfl ?_
                      refine TO.y (Y.load_el (us := [strV E68.Key, strV E68.Val]) (u := .agg #[strV E68.Key, strV E68.Val]) kk33 rfl (Can.own 0 rfl) (idx_get H69).2.2 rfl rfl rfl rfl rfl) rfl rfl rfl ?_
                      refine TO.ef (Ef.buildSlice (α := KV) (Vs := [.agg #[strV E68.Key, strV E68.Val]]) [E68] ke24 kz33 rfl rfl rfl rfl rfl) rfl rfl rfl (fun B70 => ?_)
                      refine TO.bind fun E72 H73 => ?_
                      refine TO.ef (Ef.append (α := KV) (is' := [.own (.slice (some ⟨B70, 0, none⟩) 1 1) (lc ([E68])), .own Y7 (lc R5.1), .own X21.2 (lc T20.2.2.2.2), .own X39 (lc T38)]) [4, 0, 0, 0, 0] H73 ke24 kz33 rfl rfl rfl rfl rfl (Can.own 0 rfl)) rfl rfl rfl (fun V71 => ?_)
                      refine TO.y (Y.assign rfl) rfl rfl rfl ?_
                      refine TO.nil ?_
                      exact TE.jn_go V71 [2, 2, 2, 0] ⟨rfl, rfl, rfl, rfl, rfl, rfl, rfl, rfl, trivial⟩ rfl
                    · refine TW.skip ?_
                      exact TE.jn_go X55 [0, 0, 0, 0] ⟨rfl, rfl, rfl, rfl, rfl, rfl, rfl, rfl, trivial⟩ rfl
                  · refine TE.block_normal ?_
                    refine TE.next ?_
                    refine TW.region ?_
                    refine TO.y (Y.move rfl) rfl rfl rfl ?_
                    refine TO.y (Y.add rfl rfl) rfl rfl rfl ?_
                    refine TO.y (Y.assign rfl) rfl rfl rfl ?_
                    refine TO.nil ?_
                    exact TE.lp_go X66 [0, 0, 0, 0] ⟨rfl, rfl, rfl, rfl, rfl, rfl, rfl, rfl, trivial⟩ rfl
              · refine TW.exit ?_
                refine TE.then_exit ?_
                refine TE.lp_exit ?_
                refine TE.block_exit ?_
                exact TE.jn_go X55 [1, 1, 1] ⟨rfl, rfl, rfl, rfl, trivial⟩ rfl
            · refine TE.next ?_
              refine TW.seq ?_
              refine TW.seq ?_
              refine TW.joinBX (τ := Bool) (X := Unit) (fun T _ => [(0, V_code0), (13, X39), (18, X57), (136, .bool T)]) (fun _ _ => [.own X39 (lc T38), .own X57 (lc T56)]) ?_ (fun T74 X75 => ?_)
              · refine TW.region ?_
                refine TO.y (Y.move rfl) rfl rfl rfl ?_
                refine TO.y (Y.move rfl) rfl rfl rfl ?_
                refine TO.bind fun R76 H77 => ?_
                refine TO.ef (Ef.call (rest := [.own X21.2 (lc T20.2.2.2.2), .own X39 (lc T38), .own X57 (lc T56)]) [0, 0, 0] (laws_sameMap_con T20.2.2.2.2 T56 X21.2 X57 R76 H77) kc12 rfl rfl ⟨(Can.own 0 rfl), (Can.own 2 rfl), trivial⟩) rfl rfl rfl (fun _ => ?_)
                refine TO.y (Y.not rfl) rfl rfl rfl ?_
                refine TO.y (Y.move rfl) rfl rfl rfl ?_
                refine TO.ite (b := !R76) (fun H79 => ?_) (fun H79 => ?_)
                · refine TO.off (Gd.at 4 false 130 (!R76) rfl rfl rfl (beq_tf H79)) rfl rfl ?_
                  refine TO.off (Gd.at 4 false 130 (!R76) rfl rfl rfl (beq_tf H79)) rfl rfl ?_
                  refine TO.off (Gd.at 4 false 130 (!R76) rfl rfl rfl (beq_tf H79)) rfl rfl ?_
                  refine TO.off (Gd.at 4 false 130 (!R76) rfl rfl rfl (beq_tf H79)) rfl rfl ?_
                  refine TO.off (Gd.at 4 false 130 (!R76) rfl rfl rfl (beq_tf H79)) rfl rfl ?_
                  refine TO.y (Y.pick_t H79 rfl rfl) rfl rfl rfl ?_
                  refine TO.nil ?_
                  exact TE.jb_go () [1, 1] ⟨rfl, rfl, rfl, rfl, trivial⟩ rfl
                · refine TO.y (Y.move rfl) (Gd.at 4 false 130 (!R76) rfl rfl rfl (beq_ff H79)) rfl rfl ?_
                  refine TO.y (Y.len (l := T38) ke24 (Can.own 1 rfl) rfl) (Gd.at 4 false 130 (!R76) rfl rfl rfl (beq_ff H79)) rfl rfl ?_
                  refine TO.y (Y.move rfl) (Gd.at 4 false 130 (!R76) rfl rfl rfl (beq_ff H79)) rfl rfl ?_
                  refine TO.y (Y.len (l := T56) ke24 (Can.own 2 rfl) rfl) (Gd.at 4 false 130 (!R76) rfl rfl rfl (beq_ff H79)) rfl rfl ?_
                  refine TO.y (Y.neq rfl rfl) (Gd.at 4 false 130 (!R76) rfl rfl rfl (beq_ff H79)) rfl rfl ?_
                  refine TO.y (Y.pick_f H79 rfl rfl) rfl rfl rfl ?_
                  refine TO.nil ?_
                  exact TE.jb_go () [1, 1] ⟨rfl, rfl, rfl, rfl, trivial⟩ rfl
              · refine TE.next ?_
                refine TW.cond rfl (fun H80 => ?_) (fun H80 => ?_)
                · refine TW.seq ?_
                  refine TW.region ?_
                  refine TO.y (Y.assign rfl) rfl rfl rfl ?_
                  refine TO.nil ?_
                  refine TE.next ?_
                  refine TW.ret ?_
                  refine TE.then_ret ?_
                  exact TE.leaf fun _ _ hf_ hs_ => ret_any (rs := [.tmp 2]) (vs := [.bool false]) (.inl rfl) rfl ⟨rfl, trivial⟩ hf_ hs_ ⟨(), rfl, hs_.pulls [] rfl⟩
                · refine TW.skip ?_
                  refine TE.next ?_
                  refine TW.seq ?_
                  refine TW.seq ?_
                  refine TW.region ?_
                  refine TO.y (Y.assign rfl) rfl rfl rfl ?_
                  refine TO.nil ?_
                  refine TE.next ?_
                  refine TW.joinX (τ := Unit) (X := Unit) (fun _ _ => [(0, V_code0)]) (fun _ _ => []) ?_ (fun T83 X84 => ?_)
                  · refine TW.block ?_
                    refine TW.loopX (σ := Int) (X := Unit) (fun T _ => [(0, V_code0), (13, X39), (18, X57), (20, .int .i64 T)]) (fun _ _ => [.own X39 (lc T38), .own X57 (lc T56)]) () [0, 0] ⟨rfl, rfl, rfl, rfl, trivial⟩ rfl (fun S81 X82 => ?_)
                    refine TW.seq ?_
                    refine TW.seq ?_
                    refine TW.region ?_
                    refine TO.y (Y.move rfl) rfl rfl rfl ?_
                    refine TO.y (Y.move rfl) rfl rfl rfl ?_
                    refine TO.y (Y.len (l := T38) ke24 (Can.own 0 rfl) rfl) rfl rfl rfl ?_
                    refine TO.y (Y.lss rfl rfl) rfl rfl rfl ?_
                    refine TO.nil ?_
                    refine TE.next ?_
                    refine TW.cond rfl (fun H85 => ?_) (fun H85 => ?_)
                    · refine TW.skip ?_
                      refine TE.next ?_
                      refine TW.seq ?_
                      refine TW.block ?_
                      refine TW.seq ?_
                      refine TW.draw (isH := [.own X39 (lc T38), .own X57 (lc T56)]) hMix ?_
                      refine TA.y (listed' := #[true, false, false, false, false, false, false, false, false, false, false, false, false]) 0 [0, 0] rfl (Y.move rfl) rfl rfl rfl (by kernel_rfl) (by kernel_rfl) (by kernel_rfl) rfl rfl ?_
                      refine TA.y (listed' := #[true, true, false, false, false, false, false, false, false, false, false, false, false]) 1 [0, 0] rfl (Y.move rfl) rfl rfl rfl (by kernel_rfl) (by kernel_rfl) (by kernel_rfl) rfl rfl ?_
                      refine TA.bind fun E86 H87 => ?_
                      refine TA.y (listed' := #[true, true, true, false, false, false, false, false, false, false, false, false, false]) 2 [0, 0] rfl (Y.index ke24 (Can.own 0 rfl) H87 rfl rfl) rfl rfl rfl (by kernel_rfl) (by kernel_rfl) (by kernel_rfl) rfl rfl ?_
                      refine TA.y (listed' := #[true, true, true, true, false, false, false, false, false, false, false, false, false]) 3 [0, 0] rfl (Y.load_el (us := [strV E86.Key, strV E86.Val]) (u := .agg #[strV E86.Key, strV E86.Val]) kk33 rfl (Can.own 0 rfl) (idx_get H87).2.2 rfl rfl rfl rfl rfl) rfl rfl rfl (by kernel_rfl) (by kernel_rfl) (by kernel_rfl) rfl rfl ?_
                      refine TA.y (listed' := #[true, true, true, true, true, false, false, false, false, false, false, false, false]) 4 [0, 0] rfl (Y.move rfl) rfl rfl rfl (by kernel_rfl) (by kernel_rfl) (by kernel_rfl) rfl rfl ?_
                      refine TA.y (listed' := #[true, true, true, true, true, true, false, false, false, false, false, false, false]) 5 [0, 0] rfl (Y.move rfl) rfl rfl rfl (by kernel_rfl) (by kernel_rfl) (by kernel_rfl) rfl rfl ?_
                      refine TA.y (listed' := #[true, true, true, true, true, true, true, false, false, false, false, false, false]) 6 [0, 0] rfl (Y.len (l := T56) ke24 (Can.own 1 rfl) rfl) rfl rfl rfl (by kernel_rfl) (by kernel_rfl) (by kernel_rfl) rfl rfl ?_
                      refine TA.y (listed' := #[true, true, true, true, true, true, true, true, false, false, false, false, false]) 7 [0, 0] rfl (Y.sub rfl rfl) rfl rfl rfl (by kernel_rfl) (by kernel_rfl) (by kernel_rfl) rfl rfl ?_
                      refine TA.y (listed' := #[true, true, true, true, true, true, true, true, true, false, false, false, false]) 8 [0, 0] rfl (Y.move rfl) rfl rfl rfl (by kernel_rfl) (by kernel_rfl) (by kernel_rfl) rfl rfl ?_
                      refine TA.y (listed' := #[true, true, true, true, true, true, true, true, true, true, false, false, false]) 9 [0, 0] rfl (Y.sub rfl rfl) rfl rfl rfl (by kernel_rfl) (by kernel_rfl) (by kernel_rfl) rfl rfl ?_
                      refine TA.bind fun E88 H89 => ?_
                      refine TA.y (listed' := #[true, true, true, true, true, true, true, true, true, true, true, false, false]) 10 [0, 0] rfl (Y.index ke24 (Can.own 1 rfl) H89 rfl rfl) rfl rfl rfl (by kernel_rfl) (by kernel_rfl) (by kernel_rfl) rfl rfl ?_
                      refine TA.y (listed' := #[true, true, true, true, true, true, true, true, true, true, true, true, false]) 11 [0, 0] rfl (Y.load_el (us := [strV E88.Key, strV E88.Val]) (u := .agg #[strV E88.Key, strV E88.Val]) kk33 rfl (Can.own 1 rfl) (idx_get H89).2.2 rfl rfl rfl rfl rfl) rfl rfl rfl (by kernel_rfl) (by kernel_rfl) (by kernel_rfl) rfl rfl ?_
                      refine TA.y (listed' := #[true, true, true, true, true, true, true, true, true, true, true, true, true]) 12 [0, 0] rfl (Y.neqA keq33 (EqA.str (EqA.str EqA.nil)) rfl rfl) rfl rfl rfl (by kernel_rfl) (by kernel_rfl) (by kernel_rfl) rfl rfl ?_
                      refine TA.nil (by kernel_rfl) ?_
                      refine TE.next ?_
                      refine TW.cond rfl (fun H90 => ?_) (fun H90 => ?_)
                      · refine TW.seq ?_
                        refine TW.region ?_
                        refine TO.y (Y.assign rfl) rfl rfl rfl ?_
                        refine TO.nil ?_
                        refine TE.next ?_
                        refine TW.ret ?_
                        refine TE.block_ret ?_
                        refine TE.then_ret ?_
                        refine TE.lp_ret ?_
                        refine TE.block_ret ?_
                        refine TE.jn_done ?_
                        refine TE.then_ret ?_
                        exact TE.leaf fun _ _ hf_ hs_ => ret_any (rs := [.tmp 2]) (vs := [.bool false]) (.inl rfl) rfl ⟨rfl, trivial⟩ hf_ hs_ ⟨(), rfl, hs_.pulls [] rfl⟩
                      · refine TW.skip ?_
                        refine TE.block_normal ?_
                        refine TE.next ?_
                        refine TW.region ?_
                        refine TO.y (Y.move rfl) rfl rfl rfl ?_
                        refine TO.y (Y.add rfl rfl) rfl rfl rfl ?_
                        refine TO.y (Y.assign rfl) rfl rfl rfl ?_
                        refine TO.nil ?_
                        exact TE.lp_go () [0, 0] ⟨rfl, rfl, rfl, rfl, trivial⟩ rfl
                    · refine TW.exit ?_
                      refine TE.then_exit ?_
                      refine TE.lp_exit ?_
                      refine TE.block_exit ?_
                      exact TE.jn_go () [] ⟨rfl, trivial⟩ rfl
                  · refine TE.next ?_
                    refine TW.seq ?_
                    refine TW.region ?_
                    refine TO.y (Y.move rfl) rfl rfl rfl ?_
                    refine TO.bind fun R91 H92 => ?_
                    refine TO.ef (Ef.call (rest := []) [] (spec_DrawIterSeek_con code V_code0 R91 H92) kc13 rfl rfl ⟨(Base.can HB_V_code0), trivial⟩) rfl rfl rfl (fun Y93 => ?_)
                    refine TO.y (Y.move rfl) rfl rfl rfl ?_
                    refine TO.y (Y.extract rfl rfl) rfl rfl rfl ?_
                    refine TO.y (Y.extract rfl rfl) rfl rfl rfl ?_
                    refine TO.ef (Ef.alloc kz28 rfl) rfl rfl rfl (fun B94 => ?_)
                    refine TO.ef0 (Ef.store_box (us := [Y93, strV R91.1.From, strV R91.1.To, .int .i64 R91.1.At]) (vs' := [Y93, strV R91.1.From, strV R91.1.To, .int .i64 R91.1.At]) (is' := [.box B94 28 [Y93, strV R91.1.From, strV R91.1.To, .int .i64 R91.1.At], .own Y93 (lc R91.1.List)]) 0 kk28 rfl rfl rfl (Cel.agg ⟨(One.can (Can.own 1 rfl)), (One.plain rfl), (One.plain rfl), (One.plain rfl), trivial⟩) rfl rfl rfl rfl) rfl rfl (fun _ => ?_)
                    refine TO.y (Y.assign rfl) rfl rfl rfl ?_
                    refine TO.nil ?_
                    refine TE.next ?_
                    refine TW.seq ?_
                    refine TW.region ?_
                    refine TO.y (Y.load_box (v := .agg #[Y93, strV R91.1.From, strV R91.1.To, .int .i64 R91.1.At]) 0 kk28 rfl rfl rfl) rfl rfl rfl ?_
                    refine TO.y (Y.move rfl) rfl rfl rfl ?_
                    refine TO.bind fun R95 H96 => ?_
                    refine TO.ef (Ef.call (rest := [.box B94 28 [Y93, strV R91.1.From, strV R91.1.To, .int .i64 R91.1.At], .own Y93 (lc R91.1.List)]) [0, 0] (impl_IterSeek_con R91.1 R91.2 Y93 R95 H96) kc14 rfl rfl ⟨(Can.own 1 rfl), trivial⟩) rfl rfl rfl (fun Y97 => ?_)
                    refine TO.y (Y.move rfl) rfl rfl rfl ?_
                    refine TO.y (Y.extract rfl rfl) rfl rfl rfl ?_
                    refine TO.y (Y.extract rfl rfl) rfl rfl rfl ?_
                    refine TO.y (Y.extract rfl rfl) rfl rfl rfl ?_
                    refine TO.ef (Ef.alloc kz28 rfl) rfl rfl rfl (fun B98 => ?_)
                    refine TO.ef (Ef.alloc kz33 rfl) rfl rfl rfl (fun B99 => ?_)
                    refine TO.ef0 (Ef.store_box (us := [Y97, strV R95.1.From, strV R95.1.To, .int .i64 R95.1.At]) (vs' := [Y97, strV R95.1.From, strV R95.1.To, .int .i64 R95.1.At]) (is' := [.box B99 33 [strV ([]), strV ([])], .box B98 28 [Y97, strV R95.1.From, strV R95.1.To, .int .i64 R95.1.At], .own Y97 (lc R95.1.List), .box B94 28 [Y93, strV R91.1.From, strV R91.1.To, .int .i64 R91.1.At], .own Y93 (lc R91.1.List)]) 1 kk28 rfl rfl rfl (Cel.agg ⟨(One.can (Can.own 2 rfl)), (One.plain rfl), (One.plain rfl), (One.plain rfl), trivial⟩) rfl rfl rfl rfl) rfl rfl (fun _ => ?_)
                    refine TO.ef0 (Ef.store_box (us := [strV R95.2.1.Key, strV R95.2.1.Val]) (vs' := [strV R95.2.1.Key, strV R95.2.1.Val]) (is' := [.box B99 33 [strV R95.2.1.Key, strV R95.2.1.Val], .box B98 28 [Y97, strV R95.1.From, strV R95.1.To, .int .i64 R95.1.At], .own Y97 (lc R95.1.List), .box B94 28 [Y93, strV R91.1.From, strV R91.1.To, .int .i64 R91.1.At], .own Y93 (lc R91.1.List)]) 0 kk33 rfl rfl rfl (Cel.plain rfl rfl) rfl rfl rfl rfl) rfl rfl (fun _ => ?_)
                    refine TO.y (Y.assign rfl) rfl rfl rfl ?_
                    refine TO.nil ?_
                    refine TE.next ?_
                    refine TW.seq ?_
                    refine TW.region ?_
                    refine TO.y (Y.load_box (v := .agg #[Y93, strV R91.1.From, strV R91.1.To, .int .i64 R91.1.At]) 3 kk28 rfl rfl rfl) rfl rfl rfl ?_
                    refine TO.y (Y.move rfl) rfl rfl rfl ?_
                    refine TO.bind fun R100 H101 => ?_
                    refine TO.ef (Ef.call (rest := [.box B99 33 [strV R95.2.1.Key, strV R95.2.1.Val], .box B98 28 [Y97, strV R95.1.From, strV R95.1.To, .int .i64 R95.1.At], .own Y97 (lc R95.1.List), .box B94 28 [Y93, strV R91.1.From, strV R91.1.To, .int .i64 R91.1.At], .own Y93 (lc R91.1.List)]) [0, 0, 0, 0, 0] (spec_IterSeek_con R91.1 R91.2 Y93 R100 H101) kc15 rfl rfl ⟨(Can.own 4 rfl), trivial⟩) rfl rfl rfl (fun Y102 => ?_)
                    refine TO.y (Y.move rfl) rfl rfl rfl ?_
                    refine TO.y (Y.extract rfl rfl) rfl rfl rfl ?_
                    refine TO.y (Y.extract rfl rfl) rfl rfl rfl ?_
                    refine TO.y (Y.extract rfl rfl) rfl rfl rfl ?_
                    refine TO.ef (Ef.alloc kz28 rfl) rfl rfl rfl (fun B103 => ?_)
                    refine TO.ef (Ef.alloc kz33 rfl) rfl rfl rfl (fun B104 => ?_)
                    refine TO.ef0 (Ef.store_box (us := [Y102, strV R100.1.From, strV R100.1.To, .int .i64 R100.1.At]) (vs' := [Y102, strV R100.1.From, strV R100.1.To, .int .i64 R100.1.At]) (is' := [.box B104 33 [strV ([]), strV ([])], .box B103 28 [Y102, strV R100.1.From, strV R100.1.To, .int .i64 R100.1.At], .own Y102 (lc R100.1.List), .box B99 33 [strV R95.2.1.Key, strV R95.2.1.Val], .box B98 28 [Y97, strV R95.1.From, strV R95.1.To, .int .i64 R95.1.At], .own Y97 (lc R95.1.List), .box B94 28 [Y93, strV R91.1.From, strV R91.1.To, .int .i64 R91.1.At], .own Y93 (lc R91.1.List)]) 1 kk28 rfl rfl rfl (Cel.agg ⟨(One.can (Can.own 2 rfl)), (One.plain rfl), (One.plain rfl), (One.plain rfl), trivial⟩) rfl rfl rfl rfl) rfl rfl (fun _ => ?_)
                    refine TO.ef0 (Ef.store_box (us := [strV R100.2.1.Key, strV R100.2.1.Val]) (vs' := [strV R100.2.1.Key, strV R100.2.1.Val]) (is' := [.box B104 33 [strV R100.2.1.Key, strV R100.2.1.Val], .box B103 28 [Y102, strV R100.1.From, strV R100.1.To, .int .i64 R100.1.At], .own Y102 (lc R100.1.List), .box B99 33 [strV R95.2.1.Key, strV R95.2.1.Val], .box B98 28 [Y97, strV R95.1.From, strV R95.1.To, .int .i64 R95.1.At], .own Y97 (lc R95.1.List), .box B94 28 [Y93, strV R91.1.From, strV R91.1.To, .int .i64 R91.1.At], .own Y93 (lc R91.1.List)]) 0 kk33 rfl rfl rfl (Cel.plain rfl rfl) rfl rfl rfl rfl) rfl rfl (fun _ => ?_)
                    refine TO.y (Y.assign rfl) rfl rfl rfl ?_
                    refine TO.nil ?_
                    refine TE.next ?_
                    refine TW.seq ?_
                    refine TW.joinBX (τ := Bool) (X := Unit) (fun T _ => [(2, .bool T)]) (fun _ _ => []) ?_ (fun T105 X106 => ?_)
                    · refine TW.region ?_
                      refine TO.y (Y.move rfl) rfl rfl rfl ?_
                      refine TO.y (Y.move rfl) rfl rfl rfl ?_
                      refine TO.y (Y.eqb kb4 rfl rfl) rfl rfl rfl ?_
                      refine TO.y (Y.move rfl) rfl rfl rfl ?_
                      refine TO.ite (b := decide (R95.2.2 = R100.2.2)) (fun H107 => ?_) (fun H107 => ?_)
                      · refine TO.y (Y.load_box (v := .agg #[strV R95.2.1.Key, strV R95.2.1.Val]) 3 kk33 rfl rfl rfl) (Gd.at 3 true 178 (decide (R95.2.2 = R100.2.2)) rfl rfl rfl (beq_tt H107)) rfl rfl ?_
                        refine TO.y (Y.load_box (v := .agg #[strV R100.2.1.Key, strV R100.2.1.Val]) 0 kk33 rfl rfl rfl) (Gd.at 3 true 178 (decide (R95.2.2 = R100.2.2)) rfl rfl rfl (beq_tt H107)) rfl rfl ?_
                        refine TO.y (Y.eqlA keq33 (EqA.str (EqA.str EqA.nil)) rfl rfl) (Gd.at 3 true 178 (decide (R95.2.2 = R100.2.2)) rfl rfl rfl (beq_tt H107)) rfl rfl ?_
                        refine TO.y (Y.pick_t H107 rfl rfl) rfl rfl rfl ?_
                        refine TO.y (Y.move rfl) rfl rfl rfl ?_
                        refine TO.ite (b := decide (R95.2.1.Key = R100.2.1.Key) && (decide (R95.2.1.Val = R100.2.1.Val) && true)) (fun H108 => ?_) (fun H108 => ?_)
                        · refine TO.y (Y.move rfl) (Gd.at 8 true 183 (decide (R95.2.1.Key = R100.2.1.Key) && (decide (R95.2.1.Val = R100.2.1.Val) && true)) rfl rfl rfl (beq_tt H108)) rfl rfl ?_
                          refine TO.y (Y.not rfl) (Gd.at 8 true 183 (decide (R95.2.1.Key = R100.2.1.Key) && (decide (R95.2.1.Val = R100.2.1.Val) && true)) rfl rfl rfl (beq_tt H108)) rfl rfl ?_
                          refine TO.y (Y.move rfl) (Gd.at 8 true 183 (decide (R95.2.1.Key = R100.2.1.Key) && (decide (R95.2.1.Val = R100.2.1.Val) && true)) rfl rfl rfl (beq_tt H108)) rfl rfl ?_
                          refine TO.ite (b := !R95.2.2) (fun H109 => ?_) (fun H109 => ?_)
                          · refine TO.off (Gd.at 11 false 186 (!R95.2.2) rfl rfl rfl (beq_tf H109)) rfl rfl ?_
                            refine TO.off (Gd.at 11 false 186 (!R95.2.2) rfl rfl rfl (beq_tf H109)) rfl rfl ?_
                            refine TO.off (Gd.at 11 false 186 (!R95.2.2) rfl rfl rfl (beq_tf H109)) rfl rfl ?_
                            refine TO.off (Gd.at 11 false 186 (!R95.2.2) rfl rfl rfl (beq_tf H109)) rfl rfl ?_
                            refine TO.y (Y.pick_t H109 rfl rfl) (Gd.at 8 true 183 (decide (R95.2.1.Key = R100.2.1.Key) && (decide (R95.2.1.Val = R100.2.1.Val) && true)) rfl rfl rfl (beq_tt H108)) rfl rfl ?_
                            refine TO.y (Y.pick_t H108 rfl rfl) rfl rfl rfl ?_
                            refine TO.y (Y.assign rfl) rfl rfl rfl ?_
                            refine TO.nil ?_
                            exact TE.jb_go () [] ⟨rfl, trivial⟩ rfl
                          · refine TO.y (Y.field_box kf33_0 rfl rfl) (Gd.at 11 false 186 (!R95.2.2) rfl rfl rfl (beq_ff H109)) rfl rfl ?_
                            refine TO.y (Y.load_box (v := strV R95.2.1.Key) 3 kk9 rfl rfl rfl) (Gd.at 11 false 186 (!R95.2.2) rfl rfl rfl (beq_ff H109)) rfl rfl ?_
                            refine TO.y (Y.move rfl) (Gd.at 11 false 186 (!R95.2.2) rfl rfl rfl (beq_ff H109)) rfl rfl ?_
                            refine TO.y (Y.sgeq rfl rfl) (Gd.at 11 false 186 (!R95.2.2) rfl rfl rfl (beq_ff H109)) rfl rfl ?_
                            refine TO.y (Y.pick_f H109 rfl rfl) (Gd.at 8 true 183 (decide (R95.2.1.Key = R100.2.1.Key) && (decide (R95.2.1.Val = R100.2.1.Val) && true)) rfl rfl rfl (beq_tt H108)) rfl rfl ?_
                            refine TO.y (Y.pick_t H108 rfl rfl) rfl rfl rfl ?_
                            refine TO.y (Y.assign rfl) rfl rfl rfl ?_
                            refine TO.nil ?_
                            exact TE.jb_go () [] ⟨rfl, trivial⟩ rfl
                        · refine TO.off (Gd.at 8 true 183 (decide (R95.2.1.Key = R100.2.1.Key) && (decide (R95.2.1.Val = R100.2.1.Val) && true)) rfl rfl rfl (beq_ft H108)) rfl rfl ?_
                          refine TO.off (Gd.at 8 true 183 (decide (R95.2.1.Key = R100.2.1.Key) && (decide (R95.2.1.Val = R100.2.1.Val) && true)) rfl rfl rfl (beq_ft H108)) rfl rfl ?_
                          refine TO.off (Gd.at 8 true 183 (decide (R95.2.1.Key = R100.2.1.Key) && (decide (R95.2.1.Val = R100.2.1.Val) && true)) rfl rfl rfl (beq_ft H108)) rfl rfl ?_
                          refine TO.off (Gd.un 11 false 186 rfl rfl rfl) rfl rfl ?_
                          refine TO.off (Gd.un 11 false 186 rfl rfl rfl) rfl rfl ?_
                          refine TO.off (Gd.un 11 false 186 rfl rfl rfl) rfl rfl ?_
                          refine TO.off (Gd.un 11 false 186 rfl rfl rfl) rfl rfl ?_
                          refine TO.off (Gd.at 8 true 183 (decide (R95.2.1.Key = R100.2.1.Key) && (decide (R95.2.1.Val = R100.2.1.Val) && true)) rfl rfl rfl (beq_ft H108)) rfl rfl ?_
                          refine TO.y (Y.pick_f H108 rfl rfl) rfl rfl rfl ?_
                          refine TO.y (Y.assign rfl) rfl rfl rfl ?_
                          refine TO.nil ?_
                          exact TE.jb_go () [] ⟨rfl, trivial⟩ rfl
                      · refine TO.off (Gd.at 3 true 178 (decide (R95.2.2 = R100.2.2)) rfl rfl rfl (beq_ft H107)) rfl rfl ?_
                        refine TO.off (Gd.at 3 true 178 (decide (R95.2.2 = R100.2.2)) rfl rfl rfl (beq_ft H107)) rfl rfl ?_
                        refine TO.off (Gd.at 3 true 178 (decide (R95.2.2 = R100.2.2)) rfl rfl rfl (beq_ft H107)) rfl rfl ?_
                        refine TO.y (Y.pick_f H107 rfl rfl) rfl rfl rfl ?_
                        refine TO.y (Y.move rfl) rfl rfl rfl ?_
                        refine TO.off (Gd.at 8 true 183 false rfl rfl rfl rfl) rfl rfl ?_
                        refine TO.off (Gd.at 8 true 183 false rfl rfl rfl rfl) rfl rfl ?_
                        refine TO.off (Gd.at 8 true 183 false rfl rfl rfl rfl) rfl rfl ?_
                        refine TO.off (Gd.un 11 false 186 rfl rfl rfl) rfl rfl ?_
                        refine TO.off (Gd.un 11 false 186 rfl rfl rfl) rfl rfl ?_
                        refine TO.off (Gd.un 11 false 186 rfl rfl rfl) rfl rfl ?_
                        refine TO.off (Gd.un 11 false 186 rfl rfl rfl) rfl rfl ?_
                        refine TO.off (Gd.at 8 true 183 false rfl rfl rfl rfl) rfl rfl ?_
                        refine TO.y (Y.pick_f rfl rfl rfl) rfl rfl rfl ?_
                        refine TO.y (Y.assign rfl) rfl rfl rfl ?_
                        refine TO.nil ?_
                        exact TE.jb_go () [] ⟨rfl, trivial⟩ rfl
                    · refine TE.next ?_
                      refine TW.ret ?_
                      exact TE.leaf fun _ _ hf_ hs_ => ret_any (rs := [.tmp 2]) (vs := [.bool T105]) (.inl rfl) rfl ⟨rfl, trivial⟩ hf_ hs_ ⟨(), rfl, hs_.pulls [] rfl⟩

end Go.Proofs.Ytahennbogdbnmaa
