/-
  The functions that a law reaches, each as a pure function, with the proof that the program computes it, and the step from a pure law to the given statement. Conditions: none.
-/
import Derived.Test.YtedpnkndjbhpnaaA4
set_option linter.unusedVariables false
set_option maxRecDepth 100000
set_option maxHeartbeats 4000000
namespace Go.Proofs.Ytedpnkndjbhpnaa
open Go Sl

/-- loop.example/g00950/laws.eqOpS -/
noncomputable def laws_eqOpS (a : List Op) (b : List Op) : Option Bool :=
  if (!(decide (((a.length : Nat) : Int) = ((b.length : Nat) : Int)))) = true then (some false)
  else (bindC (loopO (fun (S2 : Int) => if (decide (S2 < ((a.length : Nat) : Int))) = true then ((idx a S2).bind fun E7 =>
  (idx b S2).bind fun E9 =>
  (laws_eqOp E7 E9).bind fun R11 =>
  if (!R11) = true then (some (.done (.done false)))
  else (some (.go (IntKind.i64.wrap (S2 + (1 : Int))))))
  else (some (.done (.go ()))))
  (0 : Int))
  (fun (T4 : Unit) => some true))

theorem laws_eqOpS_con (a : List Op) (b : List Op) (V_a0 : Value) (V_b0 : Value) (r : Bool) (hm : laws_eqOpS a b = some r) :
    Con Try.prog 31 [V_a0, V_b0] [] [(V_a0, lc a), (V_b0, lc b)] (fun _ : Unit => .bool r) (fun _ => []) := by
  refine Con.intro (args := [V_a0, V_b0]) (n := 27) (val := fun r (_ : Unit) => .bool r) (post := fun _ _ => []) (m := laws_eqOpS a b) Try.func31 rfl rfl rfl hm ?_
  intro w S hrd
  have HB_V_a0 := hrd _ (.head _)
  have HB_V_b0 := hrd _ (.tail _ (.head _))
  clear hrd
  unfold laws_eqOpS
  refine TW.seq ?_
  refine TW.region ?_
  refine TO.y (Y.assign rfl) rfl rfl rfl ?_
  refine TO.nil ?_
  refine TE.next ?_
  refine TW.seq ?_
  refine TW.seq ?_
  refine TW.region ?_
  refine TO.y (Y.move rfl) rfl rfl rfl ?_
  refine TO.y (Y.len (l := a) ke27 (Base.can HB_V_a0) rfl) rfl rfl rfl ?_
  refine TO.y (Y.move rfl) rfl rfl rfl ?_
  refine TO.y (Y.len (l := b) ke27 (Base.can HB_V_b0) rfl) rfl rfl rfl ?_
  refine TO.y (Y.neq rfl rfl) rfl rfl rfl ?_
  refine TO.nil ?_
  refine TE.next ?_
  refine TW.cond rfl (fun H1 => ?_) (fun H1 => ?_)
  · refine TW.seq ?_
    refine TW.region ?_
    refine TO.y (Y.assign rfl) rfl rfl rfl ?_
    refine TO.nil ?_
    refine TE.next ?_
    refine TW.ret ?_
    refine TE.then_ret ?_
    exact TE.leaf fun _ _ hf_ hs_ => ret_any (rs := [.tmp 4]) (vs := [.bool false]) (.inl rfl) rfl ⟨rfl, trivial⟩ hf_ hs_ ⟨(), rfl, hs_.pulls [] rfl⟩
  · refine TW.skip ?_
    refine TE.next ?_
    refine TW.seq ?_
    refine TW.seq ?_
    refine TW.region ?_
    refine TO.y (Y.assign rfl) rfl rfl rfl ?_
    refine TO.nil ?_
    refine TE.next ?_
    refine TW.joinX (τ := Unit) (X := Unit) (fun _ _ => []) (fun _ _ => []) ?_ (fun T4 X5 => ?_)
    · refine TW.block ?_
      refine TW.loopX (σ := Int) (X := Unit) (fun T _ => [(0, V_a0), (1, V_b0), (5, .int .i64 T)]) (fun _ _ => []) () [] ⟨rfl, rfl, rfl, trivial⟩ rfl (fun S2 X3 => ?_)
      refine TW.seq ?_
      refine TW.seq ?_
      refine TW.region ?_
      refine TO.y (Y.move rfl) rfl rfl rfl ?_
      refine TO.y (Y.move rfl) rfl rfl rfl ?_
      refine TO.y (Y.len (l := a) ke27 (Base.can HB_V_a0) rfl) rfl rfl rfl ?_
      refine TO.y (Y.lss rfl rfl) rfl rfl rfl ?_
      refine TO.nil ?_
      refine TE.next ?_
      refine TW.cond rfl (fun H6 => ?_) (fun H6 => ?_)
      · refine TW.skip ?_
        refine TE.next ?_
        refine TW.seq ?_
        refine TW.block ?_
        refine TW.seq ?_
        refine TW.draw (isH := []) hMix ?_
        refine TA.y (listed' := #[true, false, false, false, false, false, false, false, false, false]) 0 [] rfl (Y.move rfl) rfl rfl rfl (by kernel_rfl) (by kernel_rfl) (by kernel_rfl) rfl rfl ?_
        refine TA.y (listed' := #[true, true, false, false, false, false, false, false, false, false]) 1 [] rfl (Y.move rfl) rfl rfl rfl (by kernel_rfl) (by kernel_rfl) (by kernel_rfl) rfl rfl ?_
        refine TA.bind fun E7 H8 => ?_
        refine TA.y (listed' := #[true, true, true, false, false, false, false, false, false, false]) 2 [] rfl (Y.index ke27 (Base.can HB_V_a0) H8 rfl rfl) rfl rfl rfl (by kernel_rfl) (by kernel_rfl) (by kernel_rfl) rfl rfl ?_
        refine TA.y (listed' := #[true, true, true, true, false, false, false, false, false, false]) 3 [] rfl (Y.load_el (us := [strV E7.Key, .bool E7.Del, strV E7.Val]) (u := .agg #[strV E7.Key, .bool E7.Del, strV E7.Val]) kk76 rfl (Base.can HB_V_a0) (idx_get H8).2.2 rfl rfl rfl rfl rfl) rfl rfl rfl (by kernel_rfl) (by kernel_rfl) (by kernel_rfl) rfl rfl ?_
        refine TA.y (listed' := #[true, true, true, true, true, false, false, false, false, false]) 4 [] rfl (Y.move rfl) rfl rfl rfl (by kernel_rfl) (by kernel_rfl) (by kernel_rfl) rfl rfl ?_
        refine TA.y (listed' := #[true, true, true, true, true, true, false, false, false, false]) 5 [] rfl (Y.move rfl) rfl rfl rfl (by kernel_rfl) (by kernel_rfl) (by kernel_rfl) rfl rfl ?_
        refine TA.bind fun E9 H10 => ?_
        refine TA.y (listed' := #[true, true, true, true, true, true, true, false, false, false]) 6 [] rfl (Y.index ke27 (Base.can HB_V_b0) H10 rfl rfl) rfl rfl rfl (by kernel_rfl) (by kernel_rfl) (by kernel_rfl) rfl rfl ?_
        refine TA.y (listed' := #[true, true, true, true, true, true, true, true, false, false]) 7 [] rfl (Y.load_el (us := [strV E9.Key, .bool E9.Del, strV E9.Val]) (u := .agg #[strV E9.Key, .bool E9.Del, strV E9.Val]) kk76 rfl (Base.can HB_V_b0) (idx_get H10).2.2 rfl rfl rfl rfl rfl) rfl rfl rfl (by kernel_rfl) (by kernel_rfl) (by kernel_rfl) rfl rfl ?_
        refine TA.bind fun R11 H12 => ?_
        refine TA.one 8 (by kernel_rfl) ?_
        refine TX.ef (listed' := #[true, true, true, true, true, true, true, true, true, false]) [] rfl (Ef.call (rest := []) [] (laws_eqOp_con E7 E9  R11 H12) kc50 rfl rfl trivial) rfl rfl rfl rfl (fun _ => rfl) (fun _ => ?_)
        refine TA.y (listed' := #[true, true, true, true, true, true, true, true, true, true]) 9 [] rfl (Y.not rfl) rfl rfl rfl (by kernel_rfl) (by kernel_rfl) (by kernel_rfl) rfl rfl ?_
        refine TA.nil (by kernel_rfl) ?_
        refine TE.next ?_
        refine TW.cond rfl (fun H14 => ?_) (fun H14 => ?_)
        · refine TW.seq ?_
          refine TW.region ?_
          refine TO.y (Y.assign rfl) rfl rfl rfl ?_
          refine TO.nil ?_
          refine TE.next ?_
          refine TW.ret ?_
          refine TE.block_ret ?_
          refine TE.then_ret ?_
          refine TE.lp_ret ?_
          refine TE.block_ret ?_
          refine TE.jn_done ?_
          refine TE.then_ret ?_
          exact TE.leaf fun _ _ hf_ hs_ => ret_any (rs := [.tmp 4]) (vs := [.bool false]) (.inl rfl) rfl ⟨rfl, trivial⟩ hf_ hs_ ⟨(), rfl, hs_.pulls [] rfl⟩
        · refine TW.skip ?_
          refine TE.block_normal ?_
          refine TE.next ?_
          refine TW.region ?_
          refine TO.y (Y.move rfl) rfl rfl rfl ?_
          refine TO.y (Y.add rfl rfl) rfl rfl rfl ?_
          refine TO.y (Y.assign rfl) rfl rfl rfl ?_
          refine TO.nil ?_
          exact TE.lp_go () [] ⟨rfl, rfl, rfl, trivial⟩ rfl
      · refine TW.exit ?_
        refine TE.then_exit ?_
        refine TE.lp_exit ?_
        refine TE.block_exit ?_
        exact TE.jn_go () [] trivial rfl
    · refine TE.next ?_
      refine TW.seq ?_
      refine TW.region ?_
      refine TO.y (Y.assign rfl) rfl rfl rfl ?_
      refine TO.nil ?_
      refine TE.next ?_
      refine TW.ret ?_
      exact TE.leaf fun _ _ hf_ hs_ => ret_any (rs := [.tmp 4]) (vs := [.bool true]) (.inl rfl) rfl ⟨rfl, trivial⟩ hf_ hs_ ⟨(), rfl, hs_.pulls [] rfl⟩

/-- loop.example/g00950/laws.eqCall -/
noncomputable def laws_eqCall (a : Call) (b : Call) : Option Bool :=
  if (!(decide (a.Kind = b.Kind))) = true then (some false)
  else (if (!(decide (a.Token = b.Token))) = true then (some false)
  else (if (!(decide (a.Tenant = b.Tenant))) = true then (some false)
  else (if (!(decide (a.N = b.N))) = true then (some false)
  else (if (!(decide (a.Key = b.Key))) = true then (some false)
  else (if (!(decide (a.To = b.To))) = true then (some false)
  else ((laws_eqOpS a.Ops b.Ops).bind fun R9 =>
  if (!R9) = true then (some false)
  else (some true)))))))

theorem laws_eqCall_con (a : Call) (b : Call) (V_a6 : Value) (V_b6 : Value) (r : Bool) (hm : laws_eqCall a b = some r) :
    Con Try.prog 10 [.agg #[.int .i64 a.Kind, strV a.Token, .int .i64 a.Tenant, .int .i64 a.N, strV a.Key, strV a.To, V_a6], .agg #[.int .i64 b.Kind, strV b.Token, .int .i64 b.Tenant, .int .i64 b.N, strV b.Key, strV b.To, V_b6]] [] [(V_a6, lc a.Ops), (V_b6, lc b.Ops)] (fun _ : Unit => .bool r) (fun _ => []) := by
  refine Con.intro (args := [.agg #[.int .i64 a.Kind, strV a.Token, .int .i64 a.Tenant, .int .i64 a.N, strV a.Key, strV a.To, V_a6], .agg #[.int .i64 b.Kind, strV b.Token, .int .i64 b.Tenant, .int .i64 b.N, strV b.Key, strV b.To, V_b6]]) (n := 41) (val := fun r (_ : Unit) => .bool r) (post := fun _ _ => []) (m := laws_eqCall a b) Try.func10 rfl rfl rfl hm ?_
  intro w S hrd
  have HB_V_a6 := hrd _ (.head _)
  have HB_V_b6 := hrd _ (.tail _ (.head _))
  clear hrd
  unfold laws_eqCall
  refine TW.seq ?_
  refine TW.region ?_
  refine TO.ef (Ef.box rfl (Cel.agg ⟨(One.plain rfl), (One.plain rfl), (One.plain rfl), (One.plain rfl), (One.plain rfl), (One.plain rfl), (One.can (Base.can HB_V_a6)), trivial⟩)) rfl rfl rfl (fun B1 => ?_)
  refine TO.ef (Ef.box rfl (Cel.agg ⟨(One.plain rfl), (One.plain rfl), (One.plain rfl), (One.plain rfl), (One.plain rfl), (One.plain rfl), (One.can (Base.can HB_V_b6)), trivial⟩)) rfl rfl rfl (fun B2 => ?_)
  refine TO.y (Y.assign rfl) rfl rfl rfl ?_
  refine TO.nil ?_
  refine TE.next ?_
  refine TW.seq ?_
  refine TW.seq ?_
  refine TW.region ?_
  refine TO.y (Y.field_box kf29_0 rfl rfl) rfl rfl rfl ?_
  refine TO.y (Y.load_box (v := .int .i64 a.Kind) 1 kk3 rfl rfl rfl) rfl rfl rfl ?_
  refine TO.y (Y.field_box kf29_0 rfl rfl) rfl rfl rfl ?_
  refine TO.y (Y.load_box (v := .int .i64 b.Kind) 0 kk3 rfl rfl rfl) rfl rfl rfl ?_
  refine TO.y (Y.neq rfl rfl) rfl rfl rfl ?_
  refine TO.nil ?_
  refine TE.next ?_
  refine TW.cond rfl (fun H3 => ?_) (fun H3 => ?_)
  · refine TW.seq ?_
    refine TW.region ?_
    refine TO.y (Y.assign rfl) rfl rfl rfl ?_
    refine TO.nil ?_
    refine TE.next ?_
    refine TW.ret ?_
    refine TE.then_ret ?_
    exact TE.leaf fun _ _ hf_ hs_ => ret_any (rs := [.tmp 4]) (vs := [.bool false]) (.inl rfl) rfl ⟨rfl, trivial⟩ hf_ hs_ ⟨(), rfl, hs_.pulls [] rfl⟩
  · refine TW.skip ?_
    refine TE.next ?_
    refine TW.seq ?_
    refine TW.seq ?_
    refine TW.region ?_
    refine TO.y (Y.field_box kf29_1 rfl rfl) rfl rfl rfl ?_
    refine TO.y (Y.load_box (v := strV a.Token) 1 kk9 rfl rfl rfl) rfl rfl rfl ?_
    refine TO.y (Y.field_box kf29_1 rfl rfl) rfl rfl rfl ?_
    refine TO.y (Y.load_box (v := strV b.Token) 0 kk9 rfl rfl rfl) rfl rfl rfl ?_
    refine TO.y (Y.sneq rfl rfl) rfl rfl rfl ?_
    refine TO.nil ?_
    refine TE.next ?_
    refine TW.cond rfl (fun H4 => ?_) (fun H4 => ?_)
    · refine TW.seq ?_
      refine TW.region ?_
      refine TO.y (Y.assign rfl) rfl rfl rfl ?_
      refine TO.nil ?_
      refine TE.next ?_
      refine TW.ret ?_
      refine TE.then_ret ?_
      exact TE.leaf fun _ _ hf_ hs_ => ret_any (rs := [.tmp 4]) (vs := [.bool false]) (.inl rfl) rfl ⟨rfl, trivial⟩ hf_ hs_ ⟨(), rfl, hs_.pulls [] rfl⟩
    · refine TW.skip ?_
      refine TE.next ?_
      refine TW.seq ?_
      refine TW.seq ?_
      refine TW.region ?_
      refine TO.y (Y.field_box kf29_2 rfl rfl) rfl rfl rfl ?_
      refine TO.y (Y.load_box (v := .int .i64 a.Tenant) 1 kk3 rfl rfl rfl) rfl rfl rfl ?_
      refine TO.y (Y.field_box kf29_2 rfl rfl) rfl rfl rfl ?_
      refine TO.y (Y.load_box (v := .int .i64 b.Tenant) 0 kk3 rfl rfl rfl) rfl rfl rfl ?_
      refine TO.y (Y.neq rfl rfl) rfl rfl rfl ?_
      refine TO.nil ?_
      refine TE.next ?_
      refine TW.cond rfl (fun H5 => ?_) (fun H5 => ?_)
      · refine TW.seq ?_
        refine TW.region ?_
        refine TO.y (Y.assign rfl) rfl rfl rfl ?_
        refine TO.nil ?_
        refine TE.next ?_
        refine TW.ret ?_
        refine TE.then_ret ?_
        exact TE.leaf fun _ _ hf_ hs_ => ret_any (rs := [.tmp 4]) (vs := [.bool false]) (.inl rfl) rfl ⟨rfl, trivial⟩ hf_ hs_ ⟨(), rfl, hs_.pulls [] rfl⟩
      · refine TW.skip ?_
        refine TE.next ?_
        refine TW.seq ?_
        refine TW.seq ?_
        refine TW.region ?_
        refine TO.y (Y.field_box kf29_3 rfl rfl) rfl rfl rfl ?_
        refine TO.y (Y.load_box (v := .int .i64 a.N) 1 kk3 rfl rfl rfl) rfl rfl rfl ?_
        refine TO.y (Y.field_box kf29_3 rfl rfl) rfl rfl rfl ?_
        refine TO.y (Y.load_box (v := .int .i64 b.N) 0 kk3 rfl rfl rfl) rfl rfl rfl ?_
        refine TO.y (Y.neq rfl rfl) rfl rfl rfl ?_
        refine TO.nil ?_
        refine TE.next ?_
        refine TW.cond rfl (fun H6 => ?_) (fun H6 => ?_)
        · refine TW.seq ?_
          refine TW.region ?_
          refine TO.y (Y.assign rfl) rfl rfl rfl ?_
          refine TO.nil ?_
          refine TE.next ?_
          refine TW.ret ?_
          refine TE.then_ret ?_
          exact TE.leaf fun _ _ hf_ hs_ => ret_any (rs := [.tmp 4]) (vs := [.bool false]) (.inl rfl) rfl ⟨rfl, trivial⟩ hf_ hs_ ⟨(), rfl, hs_.pulls [] rfl⟩
        · refine TW.skip ?_
          refine TE.next ?_
          refine TW.seq ?_
          refine TW.seq ?_
          refine TW.region ?_
          refine TO.y (Y.field_box kf29_4 rfl rfl) rfl rfl rfl ?_
          refine TO.y (Y.load_box (v := strV a.Key) 1 kk9 rfl rfl rfl) rfl rfl rfl ?_
          refine TO.y (Y.field_box kf29_4 rfl rfl) rfl rfl rfl ?_
          refine TO.y (Y.load_box (v := strV b.Key) 0 kk9 rfl rfl rfl) rfl rfl rfl ?_
          refine TO.y (Y.sneq rfl rfl) rfl rfl rfl ?_
          refine TO.nil ?_
          refine TE.next ?_
          refine TW.cond rfl (fun H7 => ?_) (fun H7 => ?_)
          · refine TW.seq ?_
            refine TW.region ?_
            refine TO.y (Y.assign rfl) rfl rfl rfl ?_
            refine TO.nil ?_
            refine TE.next ?_
            refine TW.ret ?_
            refine TE.then_ret ?_
            exact TE.leaf fun _ _ hf_ hs_ => ret_any (rs := [.tmp 4]) (vs := [.bool false]) (.inl rfl) rfl ⟨rfl, trivial⟩ hf_ hs_ ⟨(), rfl, hs_.pulls [] rfl⟩
          · refine TW.skip ?_
            refine TE.next ?_
            refine TW.seq ?_
            refine TW.seq ?_
            refine TW.region ?_
            refine TO.y (Y.field_box kf29_5 rfl rfl) rfl rfl rfl ?_
            refine TO.y (Y.load_box (v := strV a.To) 1 kk9 rfl rfl rfl) rfl rfl rfl ?_
            refine TO.y (Y.field_box kf29_5 rfl rfl) rfl rfl rfl ?_
            refine TO.y (Y.load_box (v := strV b.To) 0 kk9 rfl rfl rfl) rfl rfl rfl ?_
            refine TO.y (Y.sneq rfl rfl) rfl rfl rfl ?_
            refine TO.nil ?_
            refine TE.next ?_
            refine TW.cond rfl (fun H8 => ?_) (fun H8 => ?_)
            · refine TW.seq ?_
              refine TW.region ?_
              refine TO.y (Y.assign rfl) rfl rfl rfl ?_
              refine TO.nil ?_
              refine TE.next ?_
              refine TW.ret ?_
              refine TE.then_ret ?_
              exact TE.leaf fun _ _ hf_ hs_ => ret_any (rs := [.tmp 4]) (vs := [.bool false]) (.inl rfl) rfl ⟨rfl, trivial⟩ hf_ hs_ ⟨(), rfl, hs_.pulls [] rfl⟩
            · refine TW.skip ?_
              refine TE.next ?_
              refine TW.seq ?_
              refine TW.seq ?_
              refine TW.region ?_
              refine TO.y (Y.field_box kf29_6 rfl rfl) rfl rfl rfl ?_
              refine TO.y (Y.load_box (v := V_a6) 1 kk27 rfl rfl rfl) rfl rfl rfl ?_
              refine TO.y (Y.field_box kf29_6 rfl rfl) rfl rfl rfl ?_
              refine TO.y (Y.load_box (v := V_b6) 0 kk27 rfl rfl rfl) rfl rfl rfl ?_
              refine TO.bind fun R9 H10 => ?_
              refine TO.ef (Ef.call (rest := [.box B2 29 [.int .i64 b.Kind, strV b.Token, .int .i64 b.Tenant, .int .i64 b.N, strV b.Key, strV b.To, V_b6], .box B1 29 [.int .i64 a.Kind, strV a.Token, .int .i64 a.Tenant, .int .i64 a.N, strV a.Key, strV a.To, V_a6]]) [0, 0] (laws_eqOpS_con a.Ops b.Ops V_a6 V_b6 R9 H10) kc31 rfl rfl ⟨(Base.can HB_V_a6), (Base.can HB_V_b6), trivial⟩) rfl rfl rfl (fun _ => ?_)
              refine TO.y (Y.not rfl) rfl rfl rfl ?_
              refine TO.nil ?_
              refine TE.next ?_
              refine TW.cond rfl (fun H12 => ?_) (fun H12 => ?_)
              · refine TW.seq ?_
                refine TW.region ?_
                refine TO.y (Y.assign rfl) rfl rfl rfl ?_
                refine TO.nil ?_
                refine TE.next ?_
                refine TW.ret ?_
                refine TE.then_ret ?_
                exact TE.leaf fun _ _ hf_ hs_ => ret_any (rs := [.tmp 4]) (vs := [.bool false]) (.inl rfl) rfl ⟨rfl, trivial⟩ hf_ hs_ ⟨(), rfl, hs_.pulls [] rfl⟩
              · refine TW.skip ?_
                refine TE.next ?_
                refine TW.seq ?_
                refine TW.region ?_
                refine TO.y (Y.assign rfl) rfl rfl rfl ?_
                refine TO.nil ?_
                refine TE.next ?_
                refine TW.ret ?_
                exact TE.leaf fun _ _ hf_ hs_ => ret_any (rs := [.tmp 4]) (vs := [.bool true]) (.inl rfl) rfl ⟨rfl, trivial⟩ hf_ hs_ ⟨(), rfl, hs_.pulls [] rfl⟩

/-- loop.example/g00950/laws.eqCallS -/
noncomputable def laws_eqCallS (a : List Call) (b : List Call) : Option Bool :=
  if (!(decide (((a.length : Nat) : Int) = ((b.length : Nat) : Int)))) = true then (some false)
  else (bindC (loopO (fun (S2 : Int) => if (decide (S2 < ((a.length : Nat) : Int))) = true then ((idx a S2).bind fun E7 =>
  (idx b S2).bind fun E10 =>
  (laws_eqCall E7 E10).bind fun R13 =>
  if (!R13) = true then (some (.done (.done false)))
  else (some (.go (IntKind.i64.wrap (S2 + (1 : Int))))))
  else (some (.done (.go ()))))
  (0 : Int))
  (fun (T4 : Unit) => some true))

theorem laws_eqCallS_con (a : List Call) (b : List Call) (V_a0 : Value) (V_b0 : Value) (r : Bool) (hm : laws_eqCallS a b = some r) :
    Con Try.prog 15 [V_a0, V_b0] [] [(V_a0, lc a), (V_b0, lc b)] (fun _ : Unit => .bool r) (fun _ => []) := by
  refine Con.intro (args := [V_a0, V_b0]) (n := 27) (val := fun r (_ : Unit) => .bool r) (post := fun _ _ => []) (m := laws_eqCallS a b) Try.func15 rfl rfl rfl hm ?_
  intro w S hrd
  have HB_V_a0 := hrd _ (.head _)
  have HB_V_b0 := hrd _ (.tail _ (.head _))
  clear hrd
  unfold laws_eqCallS
  refine TW.seq ?_
  refine TW.region ?_
  refine TO.y (Y.assign rfl) rfl rfl rfl ?_
  refine TO.nil ?_
  refine TE.next ?_
  refine TW.seq ?_
  refine TW.seq ?_
  refine TW.region ?_
  refine TO.y (Y.move rfl) rfl rfl rfl ?_
  refine TO.y (Y.len (l := a) ke35 (Base.can HB_V_a0) rfl) rfl rfl rfl ?_
  refine TO.y (Y.move rfl) rfl rfl rfl ?_
  refine TO.y (Y.len (l := b) ke35 (Base.can HB_V_b0) rfl) rfl rfl rfl ?_
  refine TO.y (Y.neq rfl rfl) rfl rfl rfl ?_
  refine TO.nil ?_
  refine TE.next ?_
  refine TW.cond rfl (fun H1 => ?_) (fun H1 => ?_)
  · refine TW.seq ?_
    refine TW.region ?_
    refine TO.y (Y.assign rfl) rfl rfl rfl ?_
    refine TO.nil ?_
    refine TE.next ?_
    refine TW.ret ?_
    refine TE.then_ret ?_
    exact TE.leaf fun _ _ hf_ hs_ => ret_any (rs := [.tmp 4]) (vs := [.bool false]) (.inl rfl) rfl ⟨rfl, trivial⟩ hf_ hs_ ⟨(), rfl, hs_.pulls [] rfl⟩
  · refine TW.skip ?_
    refine TE.next ?_
    refine TW.seq ?_
    refine TW.seq ?_
    refine TW.region ?_
    refine TO.y (Y.assign rfl) rfl rfl rfl ?_
    refine TO.nil ?_
    refine TE.next ?_
    refine TW.joinX (τ := Unit) (X := Unit) (fun _ _ => []) (fun _ _ => []) ?_ (fun T4 X5 => ?_)
    · refine TW.block ?_
      refine TW.loopX (σ := Int) (X := Unit) (fun T _ => [(0, V_a0), (1, V_b0), (5, .int .i64 T)]) (fun _ _ => []) () [] ⟨rfl, rfl, rfl, trivial⟩ rfl (fun S2 X3 => ?_)
      refine TW.seq ?_
      refine TW.seq ?_
      refine TW.region ?_
      refine TO.y (Y.move rfl) rfl rfl rfl ?_
      refine TO.y (Y.move rfl) rfl rfl rfl ?_
      refine TO.y (Y.len (l := a) ke35 (Base.can HB_V_a0) rfl) rfl rfl rfl ?_
      refine TO.y (Y.lss rfl rfl) rfl rfl rfl ?_
      refine TO.nil ?_
      refine TE.next ?_
      refine TW.cond rfl (fun H6 => ?_) (fun H6 => ?_)
      · refine TW.skip ?_
        refine TE.next ?_
        refine TW.seq ?_
        refine TW.block ?_
        refine TW.seq ?_
        refine TW.draw (isH := []) hMix ?_
        refine TA.y (listed' := #[true, false, false, false, false, false, false, false, false, false]) 0 [] rfl (Y.move rfl) rfl rfl rfl (by kernel_rfl) (by kernel_rfl) (by kernel_rfl) rfl rfl ?_
        refine TA.y (listed' := #[true, true, false, false, false, false, false, false, false, false]) 1 [] rfl (Y.move rfl) rfl rfl rfl (by kernel_rfl) (by kernel_rfl) (by kernel_rfl) rfl rfl ?_
        refine TA.bind fun E7 H8 => ?_
        refine TA.y (listed' := #[true, true, true, false, false, false, false, false, false, false]) 2 [] rfl (Y.index ke35 (Base.can HB_V_a0) H8 rfl rfl) rfl rfl rfl (by kernel_rfl) (by kernel_rfl) (by kernel_rfl) rfl rfl ?_
        have Q9 : Base w S (elv w V_a0 (S2.toNat * 7 + 6)) (lc E7.Ops) := Base.el HB_V_a0 (idx_get H8).2.2 rfl rfl
        refine TA.y (listed' := #[true, true, true, true, false, false, false, false, false, false]) 3 [] rfl (Y.load_base (α := Call) (u := .agg #[.int .i64 E7.Kind, strV E7.Token, .int .i64 E7.Tenant, .int .i64 E7.N, strV E7.Key, strV E7.To, (elv w V_a0 (S2.toNat * 7 + 6))]) kk29 rfl HB_V_a0 (idx_get H8).2.2 rfl rfl rfl rfl rfl) rfl rfl rfl (by kernel_rfl) (by kernel_rfl) (by kernel_rfl) rfl rfl ?_
        refine TA.y (listed' := #[true, true, true, true, true, false, false, false, false, false]) 4 [] rfl (Y.move rfl) rfl rfl rfl (by kernel_rfl) (by kernel_rfl) (by kernel_rfl) rfl rfl ?_
        refine TA.y (listed' := #[true, true, true, true, true, true, false, false, false, false]) 5 [] rfl (Y.move rfl) rfl rfl rfl (by kernel_rfl) (by kernel_rfl) (by kernel_rfl) rfl rfl ?_
        refine TA.bind fun E10 H11 => ?_
        refine TA.y (listed' := #[true, true, true, true, true, true, true, false, false, false]) 6 [] rfl (Y.index ke35 (Base.can HB_V_b0) H11 rfl rfl) rfl rfl rfl (by kernel_rfl) (by kernel_rfl) (by kernel_rfl) rfl rfl ?_
        have Q12 : Base w S (elv w V_b0 (S2.toNat * 7 + 6)) (lc E10.Ops) := Base.el HB_V_b0 (idx_get H11).2.2 rfl rfl
        refine TA.y (listed' := #[true, true, true, true, true, true, true, true, false, false]) 7 [] rfl (Y.load_base (α := Call) (u := .agg #[.int .i64 E10.Kind, strV E10.Token, .int .i64 E10.Tenant, .int .i64 E10.N, strV E10.Key, strV E10.To, (elv w V_b0 (S2.toNat * 7 + 6))]) kk29 rfl HB_V_b0 (idx_get H11).2.2 rfl rfl rfl rfl rfl) rfl rfl rfl (by kernel_rfl) (by kernel_rfl) (by kernel_rfl) rfl rfl ?_
        refine TA.bind fun R13 H14 => ?_
        refine TA.one 8 (by kernel_rfl) ?_
        refine TX.ef (listed' := #[true, true, true, true, true, true, true, true, true, false]) [] rfl (Ef.call (rest := []) [] (laws_eqCall_con E7 E10 (elv w V_a0 (S2.toNat * 7 + 6)) (elv w V_b0 (S2.toNat * 7 + 6)) R13 H14) kc10 rfl rfl ⟨(Base.can Q9), (Base.can Q12), trivial⟩) rfl rfl rfl rfl (fun _ => rfl) (fun _ => ?_)
        refine TA.y (listed' := #[true, true, true, true, true, true, true, true, true, true]) 9 [] rfl (Y.not rfl) rfl rfl rfl (by kernel_rfl) (by kernel_rfl) (by kernel_rfl) rfl rfl ?_
        refine TA.nil (by kernel_rfl) ?_
        refine TE.next ?_
        refine TW.cond rfl (fun H16 => ?_) (fun H16 => ?_)
        · refine TW.seq ?_
          refine TW.region ?_
          refine TO.y (Y.assign rfl) rfl rfl rfl ?_
          refine TO.nil ?_
          refine TE.next ?_
          refine TW.ret ?_
          refine TE.block_ret ?_
          refine TE.then_ret ?_
          refine TE.lp_ret ?_
          refine TE.block_ret ?_
          refine TE.jn_done ?_
          refine TE.then_ret ?_
          exact TE.leaf fun _ _ hf_ hs_ => ret_any (rs := [.tmp 4]) (vs := [.bool false]) (.inl rfl) rfl ⟨rfl, trivial⟩ hf_ hs_ ⟨(), rfl, hs_.pulls [] rfl⟩
        · refine TW.skip ?_
          refine TE.block_normal ?_
          refine TE.next ?_
          refine TW.region ?_
          refine TO.y (Y.move rfl) rfl rfl rfl ?_
          refine TO.y (Y.add rfl rfl) rfl rfl rfl ?_
          refine TO.y (Y.assign rfl) rfl rfl rfl ?_
          refine TO.nil ?_
          exact TE.lp_go () [] ⟨rfl, rfl, rfl, trivial⟩ rfl
      · refine TW.exit ?_
        refine TE.then_exit ?_
        refine TE.lp_exit ?_
        refine TE.block_exit ?_
        exact TE.jn_go () [] trivial rfl
    · refine TE.next ?_
      refine TW.seq ?_
      refine TW.region ?_
      refine TO.y (Y.assign rfl) rfl rfl rfl ?_
      refine TO.nil ?_
      refine TE.next ?_
      refine TW.ret ?_
      exact TE.leaf fun _ _ hf_ hs_ => ret_any (rs := [.tmp 4]) (vs := [.bool true]) (.inl rfl) rfl ⟨rfl, trivial⟩ hf_ hs_ ⟨(), rfl, hs_.pulls [] rfl⟩

/-- loop.example/g00950/laws.markText -/
noncomputable def laws_markText (k : Int) : Option (List UInt8) :=
  if (decide (k ≤ (0 : Int))) = true then (some ([109, 48]))
  else (bindC (loopO (fun (S2 : Int × List UInt8) => if (decide (S2.1 > (0 : Int))) = true then ((cat ([toU8 (IntKind.i64.wrap ((48 : Int) + (Int.tmod S2.1 (10 : Int))))]) S2.2).bind fun E8 =>
  some (.go (IntKind.i64.wrap (Int.tdiv S2.1 (10 : Int)), E8)))
  else (some (.done (.go S2.2))))
  (k, []))
  (fun (T4 : List UInt8) => (cat ([109]) T4).bind fun E10 =>
  some E10))

theorem laws_markText_con (k : Int)  (r : List UInt8) (hm : laws_markText k = some r) :
    Con Try.prog 33 [.int .i64 k] [] [] (fun _ : Unit => strV r) (fun _ => []) := by
  refine Con.intro (args := [.int .i64 k]) (n := 20) (val := fun r (_ : Unit) => strV r) (post := fun _ _ => []) (m := laws_markText k) Try.func33 rfl rfl rfl hm ?_
  intro w S _
  unfold laws_markText
  refine TW.seq ?_
  refine TW.region ?_
  refine TO.y (Y.assign rfl) rfl rfl rfl ?_
  refine TO.nil ?_
  refine TE.next ?_
  refine TW.seq ?_
  refine TW.seq ?_
  refine TW.region ?_
  refine TO.y (Y.move rfl) rfl rfl rfl ?_
  refine TO.y (Y.leq rfl rfl) rfl rfl rfl ?_
  refine TO.nil ?_
  refine TE.next ?_
  refine TW.cond rfl (fun H1 => ?_) (fun H1 => ?_)
  · refine TW.seq ?_
    refine TW.region ?_
    refine TO.y (Y.assign rfl) rfl rfl rfl ?_
    refine TO.nil ?_
    refine TE.next ?_
    refine TW.ret ?_
    refine TE.then_ret ?_
    exact TE.leaf fun _ _ hf_ hs_ => ret_any (rs := [.tmp 2]) (vs := [strV ([109, 48])]) (.inl rfl) rfl ⟨rfl, trivial⟩ hf_ hs_ ⟨(), rfl, hs_.pulls [] rfl⟩
  · refine TW.skip ?_
    refine TE.next ?_
    refine TW.seq ?_
    refine TW.region ?_
    refine TO.y (Y.assign rfl) rfl rfl rfl ?_
    refine TO.nil ?_
    refine TE.next ?_
    refine TW.seq ?_
    refine TW.joinX (τ := List UInt8) (X := Unit) (fun T _ => [(3, strV T)]) (fun _ _ => []) ?_ (fun T4 X5 => ?_)
    · refine TW.block ?_
      refine TW.loopX (σ := Int × List UInt8) (X := Unit) (fun T _ => [(0, .int .i64 T.1), (3, strV T.2)]) (fun _ _ => []) () [] ⟨rfl, rfl, trivial⟩ rfl (fun S2 X3 => ?_)
      refine TW.seq ?_
      refine TW.seq ?_
      refine TW.region ?_
      refine TO.y (Y.move rfl) rfl rfl rfl ?_
      refine TO.y (Y.gtr rfl rfl) rfl rfl rfl ?_
      refine TO.nil ?_
      refine TE.next ?_
      refine TW.cond rfl (fun H6 => ?_) (fun H6 => ?_)
      · refine TW.skip ?_
        refine TE.next ?_
        refine TW.block ?_
        refine TW.seq ?_
        refine TW.region ?_
        refine TO.y (Y.move rfl) rfl rfl rfl ?_
        refine TO.y (Y.rem (by decide) rfl rfl) rfl rfl rfl ?_
        refine TO.y (Y.add rfl rfl) rfl rfl rfl ?_
        refine TO.y (Y.conv8 ki3 ki5 rfl) rfl rfl rfl ?_
        refine TO.ef (Ef.buildSlice (α := UInt8) (Vs := [.int .u8 (((toU8 (IntKind.i64.wrap ((48 : Int) + (Int.tmod S2.1 (10 : Int))))).toNat : Nat) : Int)]) [toU8 (IntKind.i64.wrap ((48 : Int) + (Int.tmod S2.1 (10 : Int))))] ke83 kz5 rfl rfl rfl rfl rfl) rfl rfl rfl (fun B7 => ?_)
        refine TO.y (Y.toStr ke83 ki5 ks9 (Can.own 0 rfl) rfl) rfl rfl rfl ?_
        refine TO.y (Y.move rfl) rfl rfl rfl ?_
        refine TO.bind fun E8 H9 => ?_
        refine TO.y (Y.cat H9 rfl rfl) rfl rfl rfl ?_
        refine TO.y (Y.assign rfl) rfl rfl rfl ?_
        refine TO.nil ?_
        refine TE.next ?_
        refine TW.region ?_
        refine TO.y (Y.move rfl) rfl rfl rfl ?_
        refine TO.y (Y.quo (by decide) rfl rfl) rfl rfl rfl ?_
        refine TO.y (Y.assign rfl) rfl rfl rfl ?_
        refine TO.nil ?_
        refine TE.block_normal ?_
        exact TE.lp_go () [] ⟨rfl, rfl, trivial⟩ rfl
      · refine TW.exit ?_
        refine TE.then_exit ?_
        refine TE.lp_exit ?_
        refine TE.block_exit ?_
        exact TE.jn_go () [] ⟨rfl, trivial⟩ rfl
    · refine TE.next ?_
      refine TW.seq ?_
      refine TW.region ?_
      refine TO.y (Y.move rfl) rfl rfl rfl ?_
      refine TO.bind fun E10 H11 => ?_
      refine TO.y (Y.cat H11 rfl rfl) rfl rfl rfl ?_
      refine TO.y (Y.assign rfl) rfl rfl rfl ?_
      refine TO.nil ?_
      refine TE.next ?_
      refine TW.ret ?_
      exact TE.leaf fun _ _ hf_ hs_ => ret_any (rs := [.tmp 2]) (vs := [strV E10]) (.inl rfl) rfl ⟨rfl, trivial⟩ hf_ hs_ ⟨(), rfl, hs_.pulls [] rfl⟩

/-- loop.example/g00950/laws.markOpS -/
noncomputable def laws_markOpS (a : List Op) (k : Int) : Option (Int × List Op) :=
  bindC (loopO (fun (S1 : Int × Int × List Op) => if (decide (S1.2.1 < ((S1.2.2.length : Nat) : Int))) = true then ((laws_markText S1.1).bind fun R6 =>
  (idx S1.2.2 S1.2.1).bind fun E9 =>
  (laws_markText (IntKind.i64.wrap (IntKind.i64.wrap (S1.1 + (1 : Int)) + (1 : Int)))).bind fun R11 =>
  some (.go (IntKind.i64.wrap (IntKind.i64.wrap (IntKind.i64.wrap (S1.1 + (1 : Int)) + (1 : Int)) + (1 : Int)), IntKind.i64.wrap (S1.2.1 + (1 : Int)), (S1.2.2.set S1.2.1.toNat ({ Key := R6, Del := (decide (Int.tmod (IntKind.i64.wrap (S1.1 + (1 : Int))) (3 : Int) = (0 : Int))), Val := R11 : Op })))))
  else (some (.done (.go (S1.1, S1.2.2)))))
  (k, (0 : Int), a))
  (fun (T3 : Int × List Op) => some (T3.1, T3.2))

theorem laws_markOpS_con (a : List Op) (k : Int) (V_a0 : Value) (r : Int × List Op) (hm : laws_markOpS a k = some r) :
    Con Try.prog 34 [V_a0, .int .i64 k] [.own V_a0 (lc a)] [] (fun _ : Unit => .int .i64 r.1) (fun _ => [.own V_a0 (lc r.2)]) := by
  refine Con.intro (args := [V_a0, .int .i64 k]) (n := 38) (val := fun r (_ : Unit) => .int .i64 r.1) (post := fun r _ => [.own V_a0 (lc r.2)]) (m := laws_markOpS a k) Try.func34 rfl rfl rfl hm ?_
  intro w S _
  unfold laws_markOpS
  refine TW.seq ?_
  refine TW.region ?_
  refine TO.y (Y.assign rfl) rfl rfl rfl ?_
  refine TO.nil ?_
  refine TE.next ?_
  refine TW.seq ?_
  refine TW.seq ?_
  refine TW.region ?_
  refine TO.y (Y.assign rfl) rfl rfl rfl ?_
  refine TO.nil ?_
  refine TE.next ?_
  refine TW.joinX (τ := Int × List Op) (X := Unit) (fun T _ => [(1, .int .i64 T.1)]) (fun T _ => [.own V_a0 (lc T.2)]) ?_ (fun T3 X4 => ?_)
  · refine TW.block ?_
    refine TW.loopX (σ := Int × Int × List Op) (X := Unit) (fun T _ => [(0, V_a0), (1, .int .i64 T.1), (5, .int .i64 T.2.1)]) (fun T _ => [.own V_a0 (lc T.2.2)]) () [0] ⟨rfl, rfl, rfl, trivial⟩ rfl (fun S1 X2 => ?_)
    refine TW.seq ?_
    refine TW.seq ?_
    refine TW.region ?_
    refine TO.y (Y.move rfl) rfl rfl rfl ?_
    refine TO.y (Y.move rfl) rfl rfl rfl ?_
    refine TO.y (Y.len (l := S1.2.2) ke27 (Can.own 0 rfl) rfl) rfl rfl rfl ?_
    refine TO.y (Y.lss rfl rfl) rfl rfl rfl ?_
    refine TO.nil ?_
    refine TE.next ?_
    refine TW.cond rfl (fun H5 => ?_) (fun H5 => ?_)
    · refine TW.skip ?_
      refine TE.next ?_
      refine TW.seq ?_
      refine TW.block ?_
      refine TW.seq ?_
      refine TW.region ?_
      refine TO.y (Y.move rfl) rfl rfl rfl ?_
      refine TO.y (Y.move rfl) rfl rfl rfl ?_
      refine TO.y (Y.move rfl) rfl rfl rfl ?_
      refine TO.bind fun R6 H7 => ?_
      refine TO.ef (Ef.call (rest := [.own V_a0 (lc S1.2.2)]) [0] (laws_markText_con S1.1  R6 H7) kc33 rfl rfl trivial) rfl rfl rfl (fun _ => ?_)
      refine TO.bind fun E9 H10 => ?_
      refine TO.y (Y.index ke27 (Can.own 0 rfl) H10 rfl rfl) rfl rfl rfl ?_
      refine TO.y (Y.field_el kf76_0 (Can.own 0 rfl) (idx_get H10).2.2 rfl rfl) rfl rfl rfl ?_
      refine TO.ef0 (Ef.store_el (us := [strV R6]) (is' := [.own V_a0 (lc (S1.2.2.set S1.2.1.toNat ({ Key := R6, Del := E9.Del, Val := E9.Val : Op })))]) ({ Key := R6, Del := E9.Del, Val := E9.Val : Op }) 0 kk9 rfl rfl (idx_get H10).2.2 rfl rfl (Cel.plain rfl rfl) rfl rfl rfl rfl) rfl rfl (fun _ => ?_)
      refine TO.nil ?_
      refine TE.next ?_
      refine TW.seq ?_
      refine TW.region ?_
      refine TO.y (Y.move rfl) rfl rfl rfl ?_
      refine TO.y (Y.add rfl rfl) rfl rfl rfl ?_
      refine TO.y (Y.assign rfl) rfl rfl rfl ?_
      refine TO.nil ?_
      refine TE.next ?_
      refine TW.seq ?_
      refine TW.region ?_
      refine TO.y (Y.move rfl) rfl rfl rfl ?_
      refine TO.y (Y.move rfl) rfl rfl rfl ?_
      refine TO.y (Y.move rfl) rfl rfl rfl ?_
      refine TO.y (Y.rem (by decide) rfl rfl) rfl rfl rfl ?_
      refine TO.y (Y.eql rfl rfl) rfl rfl rfl ?_
      refine TO.y (Y.index ke27 (Can.own 0 rfl) (idx_set H10) rfl rfl) rfl rfl rfl ?_
      refine TO.y (Y.field_el kf76_1 (Can.own 0 rfl) (idx_get (idx_set H10)).2.2 rfl rfl) rfl rfl rfl ?_
      refine TO.ef0 (Ef.store_el (us := [.bool (decide (Int.tmod (IntKind.i64.wrap (S1.1 + (1 : Int))) (3 : Int) = (0 : Int)))]) (is' := [.own V_a0 (lc (S1.2.2.set S1.2.1.toNat ({ Key := R6, Del := decide (Int.tmod (IntKind.i64.wrap (S1.1 + (1 : Int))) (3 : Int) = (0 : Int)), Val := E9.Val : Op })))]) ({ Key := R6, Del := decide (Int.tmod (IntKind.i64.wrap (S1.1 + (1 : Int))) (3 : Int) = (0 : Int)), Val := E9.Val : Op }) 0 kk4 rfl rfl (idx_get (idx_set H10)).2.2 rfl rfl (Cel.plain rfl rfl) rfl rfl rfl (by rw [List.set_set]; rfl)) rfl rfl (fun _ => ?_)
      refine TO.nil ?_
      refine TE.next ?_
      refine TW.seq ?_
      refine TW.region ?_
      refine TO.y (Y.move rfl) rfl rfl rfl ?_
      refine TO.y (Y.add rfl rfl) rfl rfl rfl ?_
      refine TO.y (Y.assign rfl) rfl rfl rfl ?_
      refine TO.nil ?_
      refine TE.next ?_
      refine TW.seq ?_
      refine TW.region ?_
      refine TO.y (Y.move rfl) rfl rfl rfl ?_
      refine TO.y (Y.move rfl) rfl rfl rfl ?_
      refine TO.y (Y.move rfl) rfl rfl rfl ?_
      refine TO.bind fun R11 H12 => ?_
      refine TO.ef (Ef.call (rest := [.own V_a0 (lc (S1.2.2.set S1.2.1.toNat ({ Key := R6, Del := decide (Int.tmod (IntKind.i64.wrap (S1.1 + (1 : Int))) (3 : Int) = (0 : Int)), Val := E9.Val : Op })))]) [0] (laws_markText_con (IntKind.i64.wrap (IntKind.i64.wrap (S1.1 + (1 : Int)) + (1 : Int)))  R11 H12) kc33 rfl rfl trivial) rfl rfl rfl (fun _ => ?_)
      refine TO.y (Y.index ke27 (Can.own 0 rfl) (idx_set H10) rfl rfl) rfl rfl rfl ?_
      refine TO.y (Y.field_el kf76_2 (Can.own 0 rfl) (idx_get (idx_set H10)).2.2 rfl rfl) rfl rfl rfl ?_
      refine TO.ef0 (Ef.store_el (us := [strV R11]) (is' := [.own V_a0 (lc (S1.2.2.set S1.2.1.toNat ({ Key := R6, Del := (decide (Int.tmod (IntKind.i64.wrap (S1.1 + (1 : Int))) (3 : Int) = (0 : Int))), Val := R11 : Op })))]) ({ Key := R6, Del := (decide (Int.tmod (IntKind.i64.wrap (S1.1 + (1 : Int))) (3 : Int) = (0 : Int))), Val := R11 : Op }) 0 kk9 rfl rfl (idx_get (idx_set H10)).2.2 rfl rfl (Cel.plain rfl rfl) rfl rfl rfl (by rw [List.set_set]; rfl)) rfl rfl (fun _ => ?_)
      refine TO.nil ?_
      refine TE.next ?_
      refine TW.region ?_
      refine TO.y (Y.move rfl) rfl rfl rfl ?_
      refine TO.y (Y.add rfl rfl) rfl rfl rfl ?_
      refine TO.y (Y.assign rfl) rfl rfl rfl ?_
      refine TO.nil ?_
      refine TE.block_normal ?_
      refine TE.next ?_
      refine TW.region ?_
      refine TO.y (Y.move rfl) rfl rfl rfl ?_
      refine TO.y (Y.add rfl rfl) rfl rfl rfl ?_
      refine TO.y (Y.assign rfl) rfl rfl rfl ?_
      refine TO.nil ?_
      exact TE.lp_go () [0] ⟨rfl, rfl, rfl, trivial⟩ rfl
    · refine TW.exit ?_
      refine TE.then_exit ?_
      refine TE.lp_exit ?_
      refine TE.block_exit ?_
      exact TE.jn_go () [0] ⟨rfl, trivial⟩ rfl
  · refine TE.next ?_
    refine TW.seq ?_
    refine TW.region ?_
    refine TO.y (Y.move rfl) rfl rfl rfl ?_
    refine TO.y (Y.assign rfl) rfl rfl rfl ?_
    refine TO.nil ?_
    refine TE.next ?_
    refine TW.ret ?_
    exact TE.leaf fun _ _ hf_ hs_ => ret_any (rs := [.tmp 4]) (vs := [.int .i64 T3.1]) (.inl rfl) rfl ⟨rfl, trivial⟩ hf_ hs_ ⟨(), rfl, hs_.pulls [0] rfl⟩

/-- loop.example/g00950/laws.markCallS -/
noncomputable def laws_markCallS (a : List Call) (k : Int) : Option (Int × List Call) :=
  bindC (loopO (fun (S1 : Int × Int × List Call) => if (decide (S1.2.1 < ((S1.2.2.length : Nat) : Int))) = true then ((idx S1.2.2 S1.2.1).bind fun E6 =>
  (laws_markText (IntKind.i64.wrap (S1.1 + (1 : Int)))).bind fun R9 =>
  (laws_markText (IntKind.i64.wrap (IntKind.i64.wrap (IntKind.i64.wrap (IntKind.i64.wrap (S1.1 + (1 : Int)) + (1 : Int)) + (1 : Int)) + (1 : Int)))).bind fun R12 =>
  (laws_markText (IntKind.i64.wrap (IntKind.i64.wrap (IntKind.i64.wrap (IntKind.i64.wrap (IntKind.i64.wrap (S1.1 + (1 : Int)) + (1 : Int)) + (1 : Int)) + (1 : Int)) + (1 : Int)))).bind fun R15 =>
  (laws_markOpS E6.Ops (IntKind.i64.wrap (IntKind.i64.wrap (IntKind.i64.wrap (IntKind.i64.wrap (IntKind.i64.wrap (IntKind.i64.wrap (S1.1 + (1 : Int)) + (1 : Int)) + (1 : Int)) + (1 : Int)) + (1 : Int)) + (1 : Int)))).bind fun R18 =>
  some (.go (R18.1, IntKind.i64.wrap (S1.2.1 + (1 : Int)), (S1.2.2.set S1.2.1.toNat ({ Kind := S1.1, Token := R9, Tenant := IntKind.i64.wrap (IntKind.i64.wrap (S1.1 + (1 : Int)) + (1 : Int)), N := IntKind.i64.wrap (IntKind.i64.wrap (IntKind.i64.wrap (S1.1 + (1 : Int)) + (1 : Int)) + (1 : Int)), Key := R12, To := R15, Ops := R18.2 : Call })))))
  else (some (.done (.go (S1.1, S1.2.2)))))
  (k, (0 : Int), a))
  (fun (T3 : Int × List Call) => some (T3.1, T3.2))

theorem laws_markCallS_con (a : List Call) (k : Int) (V_a0 : Value) (r : Int × List Call) (hm : laws_markCallS a k = some r) :
    Con Try.prog 16 [V_a0, .int .i64 k] [.own V_a0 (lc a)] [] (fun _ : Unit => .int .i64 r.1) (fun _ => [.own V_a0 (lc r.2)]) := by
  refine Con.intro (args := [V_a0, .int .i64 k]) (n := 65) (val := fun r (_ : Unit) => .int .i64 r.1) (post := fun r _ => [.own V_a0 (lc r.2)]) (m := laws_markCallS a k) Try.func16 rfl rfl rfl hm ?_
  intro w S _
  unfold laws_markCallS
  refine TW.seq ?_
  refine TW.region ?_
  refine TO.y (Y.assign rfl) rfl rfl rfl ?_
  refine TO.nil ?_
  refine TE.next ?_
  refine TW.seq ?_
  refine TW.seq ?_
  refine TW.region ?_
  refine TO.y (Y.assign rfl) rfl rfl rfl ?_
  refine TO.nil ?_
  refine TE.next ?_
  refine TW.joinX (τ := Int × List Call) (X := Unit) (fun T _ => [(1, .int .i64 T.1)]) (fun T _ => [.own V_a0 (lc T.2)]) ?_ (fun T3 X4 => ?_)
  · refine TW.block ?_
    refine TW.loopX (σ := Int × Int × List Call) (X := Unit) (fun T _ => [(0, V_a0), (1, .int .i64 T.1), (5, .int .i64 T.2.1)]) (fun T _ => [.own V_a0 (lc T.2.2)]) () [0] ⟨rfl, rfl, rfl, trivial⟩ rfl (fun S1 X2 => ?_)
    refine TW.seq ?_
    refine TW.seq ?_
    refine TW.region ?_
    refine TO.y (Y.move rfl) rfl rfl rfl ?_
    refine TO.y (Y.move rfl) rfl rfl rfl ?_
    refine TO.y (Y.len (l := S1.2.2) ke35 (Can.own 0 rfl) rfl) rfl rfl rfl ?_
    refine TO.y (Y.lss rfl rfl) rfl rfl rfl ?_
    refine TO.nil ?_
    refine TE.next ?_
    refine TW.cond rfl (fun H5 => ?_) (fun H5 => ?_)
    · refine TW.skip ?_
      refine TE.next ?_
      refine TW.seq ?_
      refine TW.block ?_
      refine TW.seq ?_
      refine TW.region ?_
      refine TO.y (Y.move rfl) rfl rfl rfl ?_
      refine TO.y (Y.move rfl) rfl rfl rfl ?_
      refine TO.y (Y.move rfl) rfl rfl rfl ?_
      refine TO.bind fun E6 H7 => ?_
      refine TO.y (Y.index ke35 (Can.own 0 rfl) H7 rfl rfl) rfl rfl rfl ?_
      refine TO.y (Y.field_el kf29_0 (Can.own 0 rfl) (idx_get H7).2.2 rfl rfl) rfl rfl rfl ?_
      refine TO.ghost (X := Value) (is' := fun X8 => [.own V_a0 (hl S1.2.2 S1.2.1.toNat [.int .i64 E6.Kind, .str E6.Token, .int .i64 E6.Tenant, .int .i64 E6.N, .str E6.Key, .str E6.To, .raw X8]), .own X8 (lc E6.Ops)]) (Gh.open 1 S1.2.1.toNat [0] rfl (idx_get H7).2.2 rfl) (fun X8 => ?_)
      refine TO.ef0 (Ef.store_hole (α := Call) (us := [.int .i64 S1.1]) (zs' := [.int .i64 S1.1, .str E6.Token, .int .i64 E6.Tenant, .int .i64 E6.N, .str E6.Key, .str E6.To, .raw X8]) (is' := [.own V_a0 (hl S1.2.2 S1.2.1.toNat [.int .i64 S1.1, .str E6.Token, .int .i64 E6.Tenant, .int .i64 E6.N, .str E6.Key, .str E6.To, .raw X8]), .own X8 (lc E6.Ops)]) 0 kk3 rfl rfl (idx_get H7).2.2 rfl rfl (Cel.plain rfl rfl) rfl rfl rfl rfl rfl rfl) rfl rfl (fun _ => ?_)
      refine TO.nil ?_
      refine TE.next ?_
      refine TW.seq ?_
      refine TW.region ?_
      refine TO.y (Y.move rfl) rfl rfl rfl ?_
      refine TO.y (Y.add rfl rfl) rfl rfl rfl ?_
      refine TO.y (Y.assign rfl) rfl rfl rfl ?_
      refine TO.nil ?_
      refine TE.next ?_
      refine TW.seq ?_
      refine TW.region ?_
      refine TO.y (Y.move rfl) rfl rfl rfl ?_
      refine TO.y (Y.move rfl) rfl rfl rfl ?_
      refine TO.y (Y.move rfl) rfl rfl rfl ?_
      refine TO.bind fun R9 H10 => ?_
      refine TO.ef (Ef.call (rest := [.own V_a0 (hl S1.2.2 S1.2.1.toNat [.int .i64 S1.1, .str E6.Token, .int .i64 E6.Tenant, .int .i64 E6.N, .str E6.Key, .str E6.To, .raw X8]), .own X8 (lc E6.Ops)]) [0, 0] (laws_markText_con (IntKind.i64.wrap (S1.1 + (1 : Int)))  R9 H10) kc33 rfl rfl trivial) rfl rfl rfl (fun _ => ?_)
      refine TO.y (Y.index ke35 (Can.own 0 rfl) H7 rfl rfl) rfl rfl rfl ?_
      refine TO.y (Y.field_el kf29_1 (Can.own 0 rfl) (idx_get H7).2.2 rfl rfl) rfl rfl rfl ?_
      refine TO.ef0 (Ef.store_hole (α := Call) (us := [strV R9]) (zs' := [.int .i64 S1.1, .str R9, .int .i64 E6.Tenant, .int .i64 E6.N, .str E6.Key, .str E6.To, .raw X8]) (is' := [.own V_a0 (hl S1.2.2 S1.2.1.toNat [.int .i64 S1.1, .str R9, .int .i64 E6.Tenant, .int .i64 E6.N, .str E6.Key, .str E6.To, .raw X8]), .own X8 (lc E6.Ops)]) 0 kk9 rfl rfl (idx_get H7).2.2 rfl rfl (Cel.plain rfl rfl) rfl rfl rfl rfl rfl rfl) rfl rfl (fun _ => ?_)
      refine TO.nil ?_
      refine TE.next ?_
      refine TW.seq ?_
      refine TW.region ?_
      refine TO.y (Y.move rfl) rfl rfl rfl ?_
      refine TO.y (Y.add rfl rfl) rfl rfl rfl ?_
      refine TO.y (Y.assign rfl) rfl rfl rfl ?_
      refine TO.nil ?_
      refine TE.next ?_
      refine TW.seq ?_
      refine TW.region ?_
      refine TO.y (Y.move rfl) rfl rfl rfl ?_
      refine TO.y (Y.move rfl) rfl rfl rfl ?_
      refine TO.y (Y.move rfl) rfl rfl rfl ?_
      refine TO.y (Y.index ke35 (Can.own 0 rfl) H7 rfl rfl) rfl rfl rfl ?_
      refine TO.y (Y.field_el kf29_2 (Can.own 0 rfl) (idx_get H7).2.2 rfl rfl) rfl rfl rfl ?_
      refine TO.ef0 (Ef.store_hole (α := Call) (us := [.int .i64 (IntKind.i64.wrap (IntKind.i64.wrap (S1.1 + (1 : Int)) + (1 : Int)))]) (zs' := [.int .i64 S1.1, .str R9, .int .i64 (IntKind.i64.wrap (IntKind.i64.wrap (S1.1 + (1 : Int)) + (1 : Int))), .int .i64 E6.N, .str E6.Key, .str E6.To, .raw X8]) (is' := [.own V_a0 (hl S1.2.2 S1.2.1.toNat [.int .i64 S1.1, .str R9, .int .i64 (IntKind.i64.wrap (IntKind.i64.wrap (S1.1 + (1 : Int)) + (1 : Int))), .int .i64 E6.N, .str E6.Key, .str E6.To, .raw X8]), .own X8 (lc E6.Ops)]) 0 kk3 rfl rfl (idx_get H7).2.2 rfl rfl (Cel.plain rfl rfl) rfl rfl rfl rfl rfl rfl) rfl rfl (fun _ => ?_)
      refine TO.nil ?_
      refine TE.next ?_
      refine TW.seq ?_
      refine TW.region ?_
      refine TO.y (Y.move rfl) rfl rfl rfl ?_
      refine TO.y (Y.add rfl rfl) rfl rfl rfl ?_
      refine TO.y (Y.assign rfl) rfl rfl rfl ?_
      refine TO.nil ?_
      refine TE.next ?_
      refine TW.seq ?_
      refine TW.region ?_
      refine TO.y (Y.move rfl) rfl rfl rfl ?_
      refine TO.y (Y.move rfl) rfl rfl rfl ?_
      refine TO.y (Y.move rfl) rfl rfl rfl ?_
      refine TO.y (Y.index ke35 (Can.own 0 rfl) H7 rfl rfl) rfl rfl rfl ?_
      refine TO.y (Y.field_el kf29_3 (Can.own 0 rfl) (idx_get H7).2.2 rfl rfl) rfl rfl rfl ?_
      refine TO.ef0 (Ef.store_hole (α := Call) (us := [.int .i64 (IntKind.i64.wrap (IntKind.i64.wrap (IntKind.i64.wrap (S1.1 + (1 : Int)) + (1 : Int)) + (1 : Int)))]) (zs' := [.int .i64 S1.1, .str R9, .int .i64 (IntKind.i64.wrap (IntKind.i64.wrap (S1.1 + (1 : Int)) + (1 : Int))), .int .i64 (IntKind.i64.wrap (IntKind.i64.wrap (IntKind.i64.wrap (S1.1 + (1 : Int)) + (1 : Int)) + (1 : Int))), .str E6.Key, .str E6.To, .raw X8]) (is' := [.own V_a0 (hl S1.2.2 S1.2.1.toNat [.int .i64 S1.1, .str R9, .int .i64 (IntKind.i64.wrap (IntKind.i64.wrap (S1.1 + (1 : Int)) + (1 : Int))), .int .i64 (IntKind.i64.wrap (IntKind.i64.wrap (IntKind.i64.wrap (S1.1 + (1 : Int)) + (1 : Int)) + (1 : Int))), .str E6.Key, .str E6.To, .raw X8]), .own X8 (lc E6.Ops)]) 0 kk3 rfl rfl (idx_get H7).2.2 rfl rfl (Cel.plain rfl rfl) rfl rfl rfl rfl rfl rfl) rfl rfl (fun _ => ?_)
      refine TO.nil ?_
      refine TE.next ?_
      refine TW.seq ?_
      refine TW.region ?_
      refine TO.y (Y.move rfl) rfl rfl rfl ?_
      refine TO.y (Y.add rfl rfl) rfl rfl rfl ?_
      refine TO.y (Y.assign rfl) rfl rfl rfl ?_
      refine TO.nil ?_
      refine TE.next ?_
      refine TW.seq ?_
      refine TW.region ?_
      refine TO.y (Y.move rfl) rfl rfl rfl ?_
      refine TO.y (Y.move rfl) rfl rfl rfl ?_
      refine TO.y (Y.move rfl) rfl rfl rfl ?_
      refine TO.bind fun R12 H13 => ?_
      refine TO.ef (Ef.call (rest := [.own V_a0 (hl S1.2.2 S1.2.1.toNat [.int .i64 S1.1, .str R9, .int .i64 (IntKind.i64.wrap (IntKind.i64.wrap (S1.1 + (1 : Int)) + (1 : Int))), .int .i64 (IntKind.i64.wrap (IntKind.i64.wrap (IntKind.i64.wrap (S1.1 + (1 : Int)) + (1 : Int)) + (1 : Int))), .str E6.Key, .str E6.To, .raw X8]), .own X8 (lc E6.Ops)]) [0, 0] (laws_markText_con (IntKind.i64.wrap (IntKind.i64.wrap (IntKind.i64.wrap (IntKind.i64.wrap (S1.1 + (1 : Int)) + (1 : Int)) + (1 : Int)) + (1 : Int)))  R12 H13) kc33 rfl rfl trivial) rfl rfl rfl (fun _ => ?_)
      refine TO.y (Y.index ke35 (Can.own 0 rfl) H7 rfl rfl) rfl rfl rfl ?_
      refine TO.y (Y.field_el kf29_4 (Can.own 0 rfl) (idx_get H7).2.2 rfl rfl) rfl rfl rfl ?_
      refine TO.ef0 (Ef.store_hole (α := Call) (us := [strV R12]) (zs' := [.int .i64 S1.1, .str R9, .int .i64 (IntKind.i64.wrap (IntKind.i64.wrap (S1.1 + (1 : Int)) + (1 : Int))), .int .i64 (IntKind.i64.wrap (IntKind.i64.wrap (IntKind.i64.wrap (S1.1 + (1 : Int)) + (1 : Int)) + (1 : Int))), .str R12, .str E6.To, .raw X8]) (is' := [.own V_a0 (hl S1.2.2 S1.2.1.toNat [.int .i64 S1.1, .str R9, .int .i64 (IntKind.i64.wrap (IntKind.i64.wrap (S1.1 + (1 : Int)) + (1 : Int))), .int .i64 (IntKind.i64.wrap (IntKind.i64.wrap (IntKind.i64.wrap (S1.1 + (1 : Int)) + (1 : Int)) + (1 : Int))), .str R12, .str E6.To, .raw X8]), .own X8 (lc E6.Ops)]) 0 kk9 rfl rfl (idx_get H7).2.2 rfl rfl (Cel.plain rfl rfl) rfl rfl rfl rfl rfl rfl) rfl rfl (fun _ => ?_)
      refine TO.nil ?_
      refine TE.next ?_
      refine TW.seq ?_
      refine TW.region ?_
      refine TO.y (Y.move rfl) rfl rfl rfl ?_
      refine TO.y (Y.add rfl rfl) rfl rfl rfl ?_
      refine TO.y (Y.assign rfl) rfl rfl rfl ?_
      refine TO.nil ?_
      refine TE.next ?_
      refine TW.seq ?_
      refine TW.region ?_
      refine TO.y (Y.move rfl) rfl rfl rfl ?_
      refine TO.y (Y.move rfl) rfl rfl rfl ?_
      refine TO.y (Y.move rfl) rfl rfl rfl ?_
      refine TO.bind fun R15 H16 => ?_
      refine TO.ef (Ef.call (rest := [.own V_a0 (hl S1.2.2 S1.2.1.toNat [.int .i64 S1.1, .str R9, .int .i64 (IntKind.i64.wrap (IntKind.i64.wrap (S1.1 + (1 : Int)) + (1 : Int))), .int .i64 (IntKind.i64.wrap (IntKind.i64.wrap (IntKind.i64.wrap (S1.1 + (1 : Int)) + (1 : Int)) + (1 : Int))), .str R12, .str E6.To, .raw X8]), .own X8 (lc E6.Ops)]) [0, 0] (laws_markText_con (IntKind.i64.wrap (IntKind.i64.wrap (IntKind.i64.wrap (IntKind.i64.wrap (IntKind.i64.wrap (S1.1 + (1 : Int)) + (1 : Int)) + (1 : Int)) + (1 : Int)) + (1 : Int)))  R15 H16) kc33 rfl rfl trivial) rfl rfl rfl (fun _ => ?_)
      refine TO.y (Y.index ke35 (Can.own 0 rfl) H7 rfl rfl) rfl rfl rfl ?_
      refine TO.y (Y.field_el kf29_5 (Can.own 0 rfl) (idx_get H7).2.2 rfl rfl) rfl rfl rfl ?_
      refine TO.ef0 (Ef.store_hole (α := Call) (us := [strV R15]) (zs' := [.int .i64 S1.1, .str R9, .int .i64 (IntKind.i64.wrap (IntKind.i64.wrap (S1.1 + (1 : Int)) + (1 : Int))), .int .i64 (IntKind.i64.wrap (IntKind.i64.wrap (IntKind.i64.wrap (S1.1 + (1 : Int)) + (1 : Int)) + (1 : Int))), .str R12, .str R15, .raw X8]) (is' := [.own V_a0 (hl S1.2.2 S1.2.1.toNat [.int .i64 S1.1, .str R9, .int .i64 (IntKind.i64.wrap (IntKind.i64.wrap (S1.1 + (1 : Int)) + (1 : Int))), .int .i64 (IntKind.i64.wrap (IntKind.i64.wrap (IntKind.i64.wrap (S1.1 + (1 : Int)) + (1 : Int)) + (1 : Int))), .str R12, .str R15, .raw X8]), .own X8 (lc E6.Ops)]) 0 kk9 rfl rfl (idx_get H7).2.2 rfl rfl (Cel.plain rfl rfl) rfl rfl rfl rfl rfl rfl) rfl rfl (fun _ => ?_)
      refine TO.nil ?_
      refine TE.next ?_
      refine TW.seq ?_
      refine TW.region ?_
      refine TO.y (Y.move rfl) rfl rfl rfl ?_
      refine TO.y (Y.add rfl rfl) rfl rfl rfl ?_
      refine TO.y (Y.assign rfl) rfl rfl rfl ?_
      refine TO.nil ?_
      refine TE.next ?_
      refine TW.region ?_
      refine TO.y (Y.move rfl) rfl rfl rfl ?_
      refine TO.y (Y.move rfl) rfl rfl rfl ?_
      refine TO.y (Y.index ke35 (Can.own 0 rfl) H7 rfl rfl) rfl rfl rfl ?_
      refine TO.y (Y.field_el kf29_6 (Can.own 0 rfl) (idx_get H7).2.2 rfl rfl) rfl rfl rfl ?_
      refine TO.y (Y.load_hole (α := Call) (us := [X8]) (u := X8) kk27 rfl (i := 0) rfl (idx_get H7).2.2 rfl rfl rfl rfl rfl rfl) rfl rfl rfl ?_
      refine TO.y (Y.move rfl) rfl rfl rfl ?_
      refine TO.bind fun R18 H19 => ?_
      refine TO.ef (Ef.call (rest := [.own V_a0 (hl S1.2.2 S1.2.1.toNat [.int .i64 S1.1, .str R9, .int .i64 (IntKind.i64.wrap (IntKind.i64.wrap (S1.1 + (1 : Int)) + (1 : Int))), .int .i64 (IntKind.i64.wrap (IntKind.i64.wrap (IntKind.i64.wrap (S1.1 + (1 : Int)) + (1 : Int)) + (1 : Int))), .str R12, .str R15, .raw X8])]) [1, 0] (laws_markOpS_con E6.Ops (IntKind.i64.wrap (IntKind.i64.wrap (IntKind.i64.wrap (IntKind.i64.wrap (IntKind.i64.wrap (IntKind.i64.wrap (S1.1 + (1 : Int)) + (1 : Int)) + (1 : Int)) + (1 : Int)) + (1 : Int)) + (1 : Int))) X8 R18 H19) kc34 rfl rfl trivial) rfl rfl rfl (fun _ => ?_)
      refine TO.y (Y.assign rfl) rfl rfl rfl ?_
      refine TO.nil ?_
      refine TE.block_normal ?_
      refine TE.next ?_
      refine TW.region ?_
      refine TO.y (Y.move rfl) rfl rfl rfl ?_
      refine TO.y (Y.add rfl rfl) rfl rfl rfl ?_
      refine TO.y (Y.assign rfl) rfl rfl rfl ?_
      refine TO.nil ?_
      refine TE.ghost (is' := fun _ => [.own V_a0 (lc (S1.2.2.set S1.2.1.toNat ({ Kind := S1.1, Token := R9, Tenant := IntKind.i64.wrap (IntKind.i64.wrap (S1.1 + (1 : Int)) + (1 : Int)), N := IntKind.i64.wrap (IntKind.i64.wrap (IntKind.i64.wrap (S1.1 + (1 : Int)) + (1 : Int)) + (1 : Int)), Key := R12, To := R15, Ops := R18.2 : Call })))]) (Gh.close (y := { Kind := S1.1, Token := R9, Tenant := IntKind.i64.wrap (IntKind.i64.wrap (S1.1 + (1 : Int)) + (1 : Int)), N := IntKind.i64.wrap (IntKind.i64.wrap (IntKind.i64.wrap (S1.1 + (1 : Int)) + (1 : Int)) + (1 : Int)), Key := R12, To := R15, Ops := R18.2 : Call }) (js := [.own X8 (lc R18.2)]) (r := []) [1, 0] rfl (idx_get H7).2.2 (Cls.keep (Cls.keep (Cls.keep (Cls.keep (Cls.keep (Cls.keep (Cls.fill Cls.nil))))))) rfl) (fun _ => ?_)
      exact TE.lp_go () [0] ⟨rfl, rfl, rfl, trivial⟩ rfl
    · refine TW.exit ?_
      refine TE.then_exit ?_
      refine TE.lp_exit ?_
      refine TE.block_exit ?_
      exact TE.jn_go () [0] ⟨rfl, trivial⟩ rfl
  · refine TE.next ?_
    refine TW.seq ?_
    refine TW.region ?_
    refine TO.y (Y.move rfl) rfl rfl rfl ?_
    refine TO.y (Y.assign rfl) rfl rfl rfl ?_
    refine TO.nil ?_
    refine TE.next ?_
    refine TW.ret ?_
    exact TE.leaf fun _ _ hf_ hs_ => ret_any (rs := [.tmp 4]) (vs := [.int .i64 T3.1]) (.inl rfl) rfl ⟨rfl, trivial⟩ hf_ hs_ ⟨(), rfl, hs_.pulls [0] rfl⟩

/-- loop.example/g00950/laws.heldOpS -/
noncomputable def laws_heldOpS (a : List Op) (k : Int) : Option Int :=
  bindC (loopO (fun (S1 : Int × Int) => if (decide (S1.2 < ((a.length : Nat) : Int))) = true then ((idx a S1.2).bind fun E6 =>
  (laws_markText S1.1).bind fun R8 =>
  if (!(decide (E6.Key = R8))) = true then (some (.done (.done (-1 : Int))))
  else (if (!(decide (E6.Del = (decide (Int.tmod (IntKind.i64.wrap (S1.1 + (1 : Int))) (3 : Int) = (0 : Int)))))) = true then (some (.done (.done (-1 : Int))))
  else ((laws_markText (IntKind.i64.wrap (IntKind.i64.wrap (S1.1 + (1 : Int)) + (1 : Int)))).bind fun R13 =>
  if (!(decide (E6.Val = R13))) = true then (some (.done (.done (-1 : Int))))
  else (some (.go (IntKind.i64.wrap (IntKind.i64.wrap (IntKind.i64.wrap (S1.1 + (1 : Int)) + (1 : Int)) + (1 : Int)), IntKind.i64.wrap (S1.2 + (1 : Int))))))))
  else (some (.done (.go S1.1))))
  (k, (0 : Int)))
  (fun (T3 : Int) => some T3)

theorem laws_heldOpS_con (a : List Op) (k : Int) (V_a0 : Value) (r : Int) (hm : laws_heldOpS a k = some r) :
    Con Try.prog 35 [V_a0, .int .i64 k] [] [(V_a0, lc a)] (fun _ : Unit => .int .i64 r) (fun _ => []) := by
  refine Con.intro (args := [V_a0, .int .i64 k]) (n := 44) (val := fun r (_ : Unit) => .int .i64 r) (post := fun _ _ => []) (m := laws_heldOpS a k) Try.func35 rfl rfl rfl hm ?_
  intro w S hrd
  have HB_V_a0 := hrd _ (.head _)
  clear hrd
  unfold laws_heldOpS
  refine TW.seq ?_
  refine TW.region ?_
  refine TO.y (Y.assign rfl) rfl rfl rfl ?_
  refine TO.nil ?_
  refine TE.next ?_
  refine TW.seq ?_
  refine TW.seq ?_
  refine TW.region ?_
  refine TO.y (Y.assign rfl) rfl rfl rfl ?_
  refine TO.nil ?_
  refine TE.next ?_
  refine TW.joinX (τ := Int) (X := Unit) (fun T _ => [(1, .int .i64 T)]) (fun _ _ => []) ?_ (fun T3 X4 => ?_)
  · refine TW.block ?_
    refine TW.loopX (σ := Int × Int) (X := Unit) (fun T _ => [(0, V_a0), (1, .int .i64 T.1), (5, .int .i64 T.2)]) (fun _ _ => []) () [] ⟨rfl, rfl, rfl, trivial⟩ rfl (fun S1 X2 => ?_)
    refine TW.seq ?_
    refine TW.seq ?_
    refine TW.region ?_
    refine TO.y (Y.move rfl) rfl rfl rfl ?_
    refine TO.y (Y.move rfl) rfl rfl rfl ?_
    refine TO.y (Y.len (l := a) ke27 (Base.can HB_V_a0) rfl) rfl rfl rfl ?_
    refine TO.y (Y.lss rfl rfl) rfl rfl rfl ?_
    refine TO.nil ?_
    refine TE.next ?_
    refine TW.cond rfl (fun H5 => ?_) (fun H5 => ?_)
    · refine TW.skip ?_
      refine TE.next ?_
      refine TW.seq ?_
      refine TW.block ?_
      refine TW.seq ?_
      refine TW.seq ?_
      refine TW.draw (isH := []) hMix ?_
      refine TA.y (listed' := #[true, false, false, false, false, false, false, false]) 0 [] rfl (Y.move rfl) rfl rfl rfl (by kernel_rfl) (by kernel_rfl) (by kernel_rfl) rfl rfl ?_
      refine TA.y (listed' := #[true, true, false, false, false, false, false, false]) 1 [] rfl (Y.move rfl) rfl rfl rfl (by kernel_rfl) (by kernel_rfl) (by kernel_rfl) rfl rfl ?_
      refine TA.bind fun E6 H7 => ?_
      refine TA.y (listed' := #[true, true, true, false, false, false, false, false]) 2 [] rfl (Y.index ke27 (Base.can HB_V_a0) H7 rfl rfl) rfl rfl rfl (by kernel_rfl) (by kernel_rfl) (by kernel_rfl) rfl rfl ?_
      refine TA.y (listed' := #[true, true, true, true, false, false, false, false]) 3 [] rfl (Y.field_el kf76_0 (Base.can HB_V_a0) (idx_get H7).2.2 rfl rfl) rfl rfl rfl (by kernel_rfl) (by kernel_rfl) (by kernel_rfl) rfl rfl ?_
      refine TA.y (listed' := #[true, true, true, true, true, false, false, false]) 4 [] rfl (Y.load_el (us := [strV E6.Key]) (u := strV E6.Key) kk9 rfl (Base.can HB_V_a0) (idx_get H7).2.2 rfl rfl rfl rfl rfl) rfl rfl rfl (by kernel_rfl) (by kernel_rfl) (by kernel_rfl) rfl rfl ?_
      refine TA.y (listed' := #[true, true, true, true, true, true, false, false]) 5 [] rfl (Y.move rfl) rfl rfl rfl (by kernel_rfl) (by kernel_rfl) (by kernel_rfl) rfl rfl ?_
      refine TA.bind fun R8 H9 => ?_
      refine TA.one 6 (by kernel_rfl) ?_
      refine TX.ef (listed' := #[true, true, true, true, true, true, true, false]) [] rfl (Ef.call (rest := []) [] (laws_markText_con S1.1  R8 H9) kc33 rfl rfl trivial) rfl rfl rfl rfl (fun _ => rfl) (fun _ => ?_)
      refine TA.y (listed' := #[true, true, true, true, true, true, true, true]) 7 [] rfl (Y.sneq rfl rfl) rfl rfl rfl (by kernel_rfl) (by kernel_rfl) (by kernel_rfl) rfl rfl ?_
      refine TA.nil (by kernel_rfl) ?_
      refine TE.next ?_
      refine TW.cond rfl (fun H11 => ?_) (fun H11 => ?_)
      · refine TW.seq ?_
        refine TW.region ?_
        refine TO.y (Y.assign rfl) rfl rfl rfl ?_
        refine TO.nil ?_
        refine TE.next ?_
        refine TW.ret ?_
        refine TE.then_ret ?_
        refine TE.block_ret ?_
        refine TE.then_ret ?_
        refine TE.lp_ret ?_
        refine TE.block_ret ?_
        refine TE.jn_done ?_
        refine TE.then_ret ?_
        exact TE.leaf fun _ _ hf_ hs_ => ret_any (rs := [.tmp 4]) (vs := [.int .i64 (-1 : Int)]) (.inl rfl) rfl ⟨rfl, trivial⟩ hf_ hs_ ⟨(), rfl, hs_.pulls [] rfl⟩
      · refine TW.skip ?_
        refine TE.next ?_
        refine TW.seq ?_
        refine TW.region ?_
        refine TO.y (Y.move rfl) rfl rfl rfl ?_
        refine TO.y (Y.add rfl rfl) rfl rfl rfl ?_
        refine TO.y (Y.assign rfl) rfl rfl rfl ?_
        refine TO.nil ?_
        refine TE.next ?_
        refine TW.seq ?_
        refine TW.seq ?_
        refine TW.region ?_
        refine TO.y (Y.move rfl) rfl rfl rfl ?_
        refine TO.y (Y.move rfl) rfl rfl rfl ?_
        refine TO.y (Y.index ke27 (Base.can HB_V_a0) H7 rfl rfl) rfl rfl rfl ?_
        refine TO.y (Y.field_el kf76_1 (Base.can HB_V_a0) (idx_get H7).2.2 rfl rfl) rfl rfl rfl ?_
        refine TO.y (Y.load_el (us := [.bool E6.Del]) (u := .bool E6.Del) kk4 rfl (Base.can HB_V_a0) (idx_get H7).2.2 rfl rfl rfl rfl rfl) rfl rfl rfl ?_
        refine TO.y (Y.move rfl) rfl rfl rfl ?_
        refine TO.y (Y.rem (by decide) rfl rfl) rfl rfl rfl ?_
        refine TO.y (Y.eql rfl rfl) rfl rfl rfl ?_
        refine TO.y (Y.neb kb4 rfl rfl) rfl rfl rfl ?_
        refine TO.nil ?_
        refine TE.next ?_
        refine TW.cond rfl (fun H12 => ?_) (fun H12 => ?_)
        · refine TW.seq ?_
          refine TW.region ?_
          refine TO.y (Y.assign rfl) rfl rfl rfl ?_
          refine TO.nil ?_
          refine TE.next ?_
          refine TW.ret ?_
          refine TE.then_ret ?_
          refine TE.block_ret ?_
          refine TE.then_ret ?_
          refine TE.lp_ret ?_
          refine TE.block_ret ?_
          refine TE.jn_done ?_
          refine TE.then_ret ?_
          exact TE.leaf fun _ _ hf_ hs_ => ret_any (rs := [.tmp 4]) (vs := [.int .i64 (-1 : Int)]) (.inl rfl) rfl ⟨rfl, trivial⟩ hf_ hs_ ⟨(), rfl, hs_.pulls [] rfl⟩
        · refine TW.skip ?_
          refine TE.next ?_
          refine TW.seq ?_
          refine TW.region ?_
          refine TO.y (Y.move rfl) rfl rfl rfl ?_
          refine TO.y (Y.add rfl rfl) rfl rfl rfl ?_
          refine TO.y (Y.assign rfl) rfl rfl rfl ?_
          refine TO.nil ?_
          refine TE.next ?_
          refine TW.seq ?_
          refine TW.seq ?_
          refine TW.draw (isH := []) hMix ?_
          refine TA.y (listed' := #[true, false, false, false, false, false, false, false]) 0 [] rfl (Y.move rfl) rfl rfl rfl (by kernel_rfl) (by kernel_rfl) (by kernel_rfl) rfl rfl ?_
          refine TA.y (listed' := #[true, true, false, false, false, false, false, false]) 1 [] rfl (Y.move rfl) rfl rfl rfl (by kernel_rfl) (by kernel_rfl) (by kernel_rfl) rfl rfl ?_
          refine TA.y (listed' := #[true, true, true, false, false, false, false, false]) 2 [] rfl (Y.index ke27 (Base.can HB_V_a0) H7 rfl rfl) rfl rfl rfl (by kernel_rfl) (by kernel_rfl) (by kernel_rfl) rfl rfl ?_
          refine TA.y (listed' := #[true, true, true, true, false, false, false, false]) 3 [] rfl (Y.field_el kf76_2 (Base.can HB_V_a0) (idx_get H7).2.2 rfl rfl) rfl rfl rfl (by kernel_rfl) (by kernel_rfl) (by kernel_rfl) rfl rfl ?_
          refine TA.y (listed' := #[true, true, true, true, true, false, false, false]) 4 [] rfl (Y.load_el (us := [strV E6.Val]) (u := strV E6.Val) kk9 rfl (Base.can HB_V_a0) (idx_get H7).2.2 rfl rfl rfl rfl rfl) rfl rfl rfl (by kernel_rfl) (by kernel_rfl) (by kernel_rfl) rfl rfl ?_
          refine TA.y (listed' := #[true, true, true, true, true, true, false, false]) 5 [] rfl (Y.move rfl) rfl rfl rfl (by kernel_rfl) (by kernel_rfl) (by kernel_rfl) rfl rfl ?_
          refine TA.bind fun R13 H14 => ?_
          refine TA.one 6 (by kernel_rfl) ?_
          refine TX.ef (listed' := #[true, true, true, true, true, true, true, false]) [] rfl (Ef.call (rest := []) [] (laws_markText_con (IntKind.i64.wrap (IntKind.i64.wrap (S1.1 + (1 : Int)) + (1 : Int)))  R13 H14) kc33 rfl rfl trivial) rfl rfl rfl rfl (fun _ => rfl) (fun _ => ?_)
          refine TA.y (listed' := #[true, true, true, true, true, true, true, true]) 7 [] rfl (Y.sneq rfl rfl) rfl rfl rfl (by kernel_rfl) (by kernel_rfl) (by kernel_rfl) rfl rfl ?_
          refine TA.nil (by kernel_rfl) ?_
          refine TE.next ?_
          refine TW.cond rfl (fun H16 => ?_) (fun H16 => ?_)
          · refine TW.seq ?_
            refine TW.region ?_
            refine TO.y (Y.assign rfl) rfl rfl rfl ?_
            refine TO.nil ?_
            refine TE.next ?_
            refine TW.ret ?_
            refine TE.then_ret ?_
            refine TE.block_ret ?_
            refine TE.then_ret ?_
            refine TE.lp_ret ?_
            refine TE.block_ret ?_
            refine TE.jn_done ?_
            refine TE.then_ret ?_
            exact TE.leaf fun _ _ hf_ hs_ => ret_any (rs := [.tmp 4]) (vs := [.int .i64 (-1 : Int)]) (.inl rfl) rfl ⟨rfl, trivial⟩ hf_ hs_ ⟨(), rfl, hs_.pulls [] rfl⟩
          · refine TW.skip ?_
            refine TE.next ?_
            refine TW.region ?_
            refine TO.y (Y.move rfl) rfl rfl rfl ?_
            refine TO.y (Y.add rfl rfl) rfl rfl rfl ?_
            refine TO.y (Y.assign rfl) rfl rfl rfl ?_
            refine TO.nil ?_
            refine TE.block_normal ?_
            refine TE.next ?_
            refine TW.region ?_
            refine TO.y (Y.move rfl) rfl rfl rfl ?_
            refine TO.y (Y.add rfl rfl) rfl rfl rfl ?_
            refine TO.y (Y.assign rfl) rfl rfl rfl ?_
            refine TO.nil ?_
            exact TE.lp_go () [] ⟨rfl, rfl, rfl, trivial⟩ rfl
    · refine TW.exit ?_
      refine TE.then_exit ?_
      refine TE.lp_exit ?_
      refine TE.block_exit ?_
      exact TE.jn_go () [] ⟨rfl, trivial⟩ rfl
  · refine TE.next ?_
    refine TW.seq ?_
    refine TW.region ?_
    refine TO.y (Y.move rfl) rfl rfl rfl ?_
    refine TO.y (Y.assign rfl) rfl rfl rfl ?_
    refine TO.nil ?_
    refine TE.next ?_
    refine TW.ret ?_
    exact TE.leaf fun _ _ hf_ hs_ => ret_any (rs := [.tmp 4]) (vs := [.int .i64 T3]) (.inl rfl) rfl ⟨rfl, trivial⟩ hf_ hs_ ⟨(), rfl, hs_.pulls [] rfl⟩

/-- loop.example/g00950/laws.heldCallS -/
noncomputable def laws_heldCallS (a : List Call) (k : Int) : Option Int :=
  bindC (loopO (fun (S1 : Int × Int) => if (decide (S1.2 < ((a.length : Nat) : Int))) = true then ((idx a S1.2).bind fun E6 =>
  if (!(decide (E6.Kind = S1.1))) = true then (some (.done (.done (-1 : Int))))
  else ((laws_markText (IntKind.i64.wrap (S1.1 + (1 : Int)))).bind fun R9 =>
  if (!(decide (E6.Token = R9))) = true then (some (.done (.done (-1 : Int))))
  else (if (!(decide (E6.Tenant = IntKind.i64.wrap (IntKind.i64.wrap (S1.1 + (1 : Int)) + (1 : Int))))) = true then (some (.done (.done (-1 : Int))))
  else (if (!(decide (E6.N = IntKind.i64.wrap (IntKind.i64.wrap (IntKind.i64.wrap (S1.1 + (1 : Int)) + (1 : Int)) + (1 : Int))))) = true then (some (.done (.done (-1 : Int))))
  else ((laws_markText (IntKind.i64.wrap (IntKind.i64.wrap (IntKind.i64.wrap (IntKind.i64.wrap (S1.1 + (1 : Int)) + (1 : Int)) + (1 : Int)) + (1 : Int)))).bind fun R15 =>
  if (!(decide (E6.Key = R15))) = true then (some (.done (.done (-1 : Int))))
  else ((laws_markText (IntKind.i64.wrap (IntKind.i64.wrap (IntKind.i64.wrap (IntKind.i64.wrap (IntKind.i64.wrap (S1.1 + (1 : Int)) + (1 : Int)) + (1 : Int)) + (1 : Int)) + (1 : Int)))).bind fun R19 =>
  if (!(decide (E6.To = R19))) = true then (some (.done (.done (-1 : Int))))
  else ((laws_heldOpS E6.Ops (IntKind.i64.wrap (IntKind.i64.wrap (IntKind.i64.wrap (IntKind.i64.wrap (IntKind.i64.wrap (IntKind.i64.wrap (S1.1 + (1 : Int)) + (1 : Int)) + (1 : Int)) + (1 : Int)) + (1 : Int)) + (1 : Int)))).bind fun R24 =>
  if (decide (R24 < (0 : Int))) = true then (some (.done (.done (-1 : Int))))
  else (some (.go (R24, IntKind.i64.wrap (S1.2 + (1 : Int))))))))))))
  else (some (.done (.go S1.1))))
  (k, (0 : Int)))
  (fun (T3 : Int) => some T3)

theorem laws_heldCallS_con (a : List Call) (k : Int) (V_a0 : Value) (r : Int) (hm : laws_heldCallS a k = some r) :
    Con Try.prog 17 [V_a0, .int .i64 k] [] [(V_a0, lc a)] (fun _ : Unit => .int .i64 r) (fun _ => []) := by
  refine Con.intro (args := [V_a0, .int .i64 k]) (n := 79) (val := fun r (_ : Unit) => .int .i64 r) (post := fun _ _ => []) (m := laws_heldCallS a k) Try.func17 rfl rfl rfl hm ?_
  intro w S hrd
  have HB_V_a0 := hrd _ (.head _)
  clear hrd
  unfold laws_heldCallS
  refine TW.seq ?_
  refine TW.region ?_
  refine TO.y (Y.assign rfl) rfl rfl rfl ?_
  refine TO.nil ?_
  refine TE.next ?_
  refine TW.seq ?_
  refine TW.seq ?_
  refine TW.region ?_
  refine TO.y (Y.assign rfl) rfl rfl rfl ?_
  refine TO.nil ?_
  refine TE.next ?_
  refine TW.joinX (τ := Int) (X := Unit) (fun T _ => [(1, .int .i64 T)]) (fun _ _ => []) ?_ (fun T3 X4 => ?_)
  · refine TW.block ?_
    refine TW.loopX (σ := Int × Int) (X := Unit) (fun T _ => [(0, V_a0), (1, .int .i64 T.1), (5, .int .i64 T.2)]) (fun _ _ => []) () [] ⟨rfl, rfl, rfl, trivial⟩ rfl (fun S1 X2 => ?_)
    refine TW.seq ?_
    refine TW.seq ?_
    refine TW.region ?_
    refine TO.y (Y.move rfl) rfl rfl rfl ?_
    refine TO.y (Y.move rfl) rfl rfl rfl ?_
    refine TO.y (Y.len (l := a) ke35 (Base.can HB_V_a0) rfl) rfl rfl rfl ?_
    refine TO.y (Y.lss rfl rfl) rfl rfl rfl ?_
    refine TO.nil ?_
    refine TE.next ?_
    refine TW.cond rfl (fun H5 => ?_) (fun H5 => ?_)
    · refine TW.skip ?_
      refine TE.next ?_
      refine TW.seq ?_
      refine TW.block ?_
      refine TW.seq ?_
      refine TW.seq ?_
      refine TW.region ?_
      refine TO.y (Y.move rfl) rfl rfl rfl ?_
      refine TO.y (Y.move rfl) rfl rfl rfl ?_
      refine TO.bind fun E6 H7 => ?_
      refine TO.y (Y.index ke35 (Base.can HB_V_a0) H7 rfl rfl) rfl rfl rfl ?_
      refine TO.y (Y.field_el kf29_0 (Base.can HB_V_a0) (idx_get H7).2.2 rfl rfl) rfl rfl rfl ?_
      refine TO.y (Y.load_el (us := [.int .i64 E6.Kind]) (u := .int .i64 E6.Kind) kk3 rfl (Base.can HB_V_a0) (idx_get H7).2.2 rfl rfl rfl rfl rfl) rfl rfl rfl ?_
      refine TO.y (Y.move rfl) rfl rfl rfl ?_
      refine TO.y (Y.neq rfl rfl) rfl rfl rfl ?_
      refine TO.nil ?_
      refine TE.next ?_
      refine TW.cond rfl (fun H8 => ?_) (fun H8 => ?_)
      · refine TW.seq ?_
        refine TW.region ?_
        refine TO.y (Y.assign rfl) rfl rfl rfl ?_
        refine TO.nil ?_
        refine TE.next ?_
        refine TW.ret ?_
        refine TE.then_ret ?_
        refine TE.block_ret ?_
        refine TE.then_ret ?_
        refine TE.lp_ret ?_
        refine TE.block_ret ?_
        refine TE.jn_done ?_
        refine TE.then_ret ?_
        exact TE.leaf fun _ _ hf_ hs_ => ret_any (rs := [.tmp 4]) (vs := [.int .i64 (-1 : Int)]) (.inl rfl) rfl ⟨rfl, trivial⟩ hf_ hs_ ⟨(), rfl, hs_.pulls [] rfl⟩
      · refine TW.skip ?_
        refine TE.next ?_
        refine TW.seq ?_
        refine TW.region ?_
        refine TO.y (Y.move rfl) rfl rfl rfl ?_
        refine TO.y (Y.add rfl rfl) rfl rfl rfl ?_
        refine TO.y (Y.assign rfl) rfl rfl rfl ?_
        refine TO.nil ?_
        refine TE.next ?_
        refine TW.seq ?_
        refine TW.seq ?_
        refine TW.draw (isH := []) hMix ?_
        refine TA.y (listed' := #[true, false, false, false, false, false, false, false]) 0 [] rfl (Y.move rfl) rfl rfl rfl (by kernel_rfl) (by kernel_rfl) (by kernel_rfl) rfl rfl ?_
        refine TA.y (listed' := #[true, true, false, false, false, false, false, false]) 1 [] rfl (Y.move rfl) rfl rfl rfl (by kernel_rfl) (by kernel_rfl) (by kernel_rfl) rfl rfl ?_
        refine TA.y (listed' := #[true, true, true, false, false, false, false, false]) 2 [] rfl (Y.index ke35 (Base.can HB_V_a0) H7 rfl rfl) rfl rfl rfl (by kernel_rfl) (by kernel_rfl) (by kernel_rfl) rfl rfl ?_
        refine TA.y (listed' := #[true, true, true, true, false, false, false, false]) 3 [] rfl (Y.field_el kf29_1 (Base.can HB_V_a0) (idx_get H7).2.2 rfl rfl) rfl rfl rfl (by kernel_rfl) (by kernel_rfl) (by kernel_rfl) rfl rfl ?_
        refine TA.y (listed' := #[true, true, true, true, true, false, false, false]) 4 [] rfl (Y.load_el (us := [strV E6.Token]) (u := strV E6.Token) kk9 rfl (Base.can HB_V_a0) (idx_get H7).2.2 rfl rfl rfl rfl rfl) rfl rfl rfl (by kernel_rfl) (by kernel_rfl) (by kernel_rfl) rfl rfl ?_
        refine TA.y (listed' := #[true, true, true, true, true, true, false, false]) 5 [] rfl (Y.move rfl) rfl rfl rfl (by kernel_rfl) (by kernel_rfl) (by kernel_rfl) rfl rfl ?_
        refine TA.bind fun R9 H10 => ?_
        refine TA.one 6 (by kernel_rfl) ?_
        refine TX.ef (listed' := #[true, true, true, true, true, true, true, false]) [] rfl (Ef.call (rest := []) [] (laws_markText_con (IntKind.i64.wrap (S1.1 + (1 : Int)))  R9 H10) kc33 rfl rfl trivial) rfl rfl rfl rfl (fun _ => rfl) (fun _ => ?_)
        refine TA.y (listed' := #[true, true, true, true, true, true, true, true]) 7 [] rfl (Y.sneq rfl rfl) rfl rfl rfl (by kernel_rfl) (by kernel_rfl) (by kernel_rfl) rfl rfl ?_
        refine TA.nil (by kernel_rfl) ?_
        refine TE.next ?_
        refine TW.cond rfl (fun H12 => ?_) (fun H12 => ?_)
        · refine TW.seq ?_
          refine TW.region ?_
          refine TO.y (Y.assign rfl) rfl rfl rfl ?_
          refine TO.nil ?_
          refine TE.next ?_
          refine TW.ret ?_
          refine TE.then_ret ?_
          refine TE.block_ret ?_
          refine TE.then_ret ?_
          refine TE.lp_ret ?_
          refine TE.block_ret ?_
          refine TE.jn_done ?_
          refine TE.then_ret ?_
          exact TE.leaf fun _ _ hf_ hs_ => ret_any (rs := [.tmp 4]) (vs := [.int .i64 (-1 : Int)]) (.inl rfl) rfl ⟨rfl, trivial⟩ hf_ hs_ ⟨(), rfl, hs_.pulls [] rfl⟩
        · refine TW.skip ?_
          refine TE.next ?_
          refine TW.seq ?_
          refine TW.region ?_
          refine TO.y (Y.move rfl) rfl rfl rfl ?_
          refine TO.y (Y.add rfl rfl) rfl rfl rfl ?_
          refine TO.y (Y.assign rfl) rfl rfl rfl ?_
          refine TO.nil ?_
          refine TE.next ?_
          refine TW.seq ?_
          refine TW.seq ?_
          refine TW.region ?_
          refine TO.y (Y.move rfl) rfl rfl rfl ?_
          refine TO.y (Y.move rfl) rfl rfl rfl ?_
          refine TO.y (Y.index ke35 (Base.can HB_V_a0) H7 rfl rfl) rfl rfl rfl ?_
          refine TO.y (Y.field_el kf29_2 (Base.can HB_V_a0) (idx_get H7).2.2 rfl rfl) rfl rfl rfl ?_
          refine TO.y (Y.load_el (us := [.int .i64 E6.Tenant]) (u := .int .i64 E6.Tenant) kk3 rfl (Base.can HB_V_a0) (idx_get H7).2.2 rfl rfl rfl rfl rfl) rfl rfl rfl ?_
          refine TO.y (Y.move rfl) rfl rfl rfl ?_
          refine TO.y (Y.neq rfl rfl) rfl rfl rfl ?_
          refine TO.nil ?_
          refine TE.next ?_
          refine TW.cond rfl (fun H13 => ?_) (fun H13 => ?_)
          · refine TW.seq ?_
            refine TW.region ?_
            refine TO.y (Y.assign rfl) rfl rfl rfl ?_
            refine TO.nil ?_
            refine TE.next ?_
            refine TW.ret ?_
            refine TE.then_ret ?_
            refine TE.block_ret ?_
            refine TE.then_ret ?_
            refine TE.lp_ret ?_
            refine TE.block_ret ?_
            refine TE.jn_done ?_
            refine TE.then_ret ?_
            exact TE.leaf fun _ _ hf_ hs_ => ret_any (rs := [.tmp 4]) (vs := [.int .i64 (-1 : Int)]) (.inl rfl) rfl ⟨rfl, trivial⟩ hf_ hs_ ⟨(), rfl, hs_.pulls [] rfl⟩
          · refine TW.skip ?_
            refine TE.next ?_
            refine TW.seq ?_
            refine TW.region ?_
            refine TO.y (Y.move rfl) rfl rfl rfl ?_
            refine TO.y (Y.add rfl rfl) rfl rfl rfl ?_
            refine TO.y (Y.assign rfl) rfl rfl rfl ?_
            refine TO.nil ?_
            refine TE.next ?_
            refine TW.seq ?_
            refine TW.seq ?_
            refine TW.region ?_
            refine TO.y (Y.move rfl) rfl rfl rfl ?_
            refine TO.y (Y.move rfl) rfl rfl rfl ?_
            refine TO.y (Y.index ke35 (Base.can HB_V_a0) H7 rfl rfl) rfl rfl rfl ?_
            refine TO.y (Y.field_el kf29_3 (Base.can HB_V_a0) (idx_get H7).2.2 rfl rfl) rfl rfl rfl ?_
            refine TO.y (Y.load_el (us := [.int .i64 E6.N]) (u := .int .i64 E6.N) kk3 rfl (Base.can HB_V_a0) (idx_get H7).2.2 rfl rfl rfl rfl rfl) rfl rfl rfl ?_
            refine TO.y (Y.move rfl) rfl rfl rfl ?_
            refine TO.y (Y.neq rfl rfl) rfl rfl rfl ?_
            refine TO.nil ?_
            refine TE.next ?_
            refine TW.cond rfl (fun H14 => ?_) (fun H14 => ?_)
            · refine TW.seq ?_
              refine TW.region ?_
              refine TO.y (Y.assign rfl) rfl rfl rfl ?_
              refine TO.nil ?_
              refine TE.next ?_
              refine TW.ret ?_
              refine TE.then_ret ?_
              refine TE.block_ret ?_
              refine TE.then_ret ?_
              refine TE.lp_ret ?_
              refine TE.block_ret ?_
              refine TE.jn_done ?_
              refine TE.then_ret ?_
              exact TE.leaf fun _ _ hf_ hs_ => ret_any (rs := [.tmp 4]) (vs := [.int .i64 (-1 : Int)]) (.inl rfl) rfl ⟨rfl, trivial⟩ hf_ hs_ ⟨(), rfl, hs_.pulls [] rfl⟩
            · refine TW.skip ?_
              refine TE.next ?_
              refine TW.seq ?_
              refine TW.region ?_
              refine TO.y (Y.move rfl) rfl rfl rfl ?_
              refine TO.y (Y.add rfl rfl) rfl rfl rfl ?_
              refine TO.y (Y.assign rfl) rfl rfl rfl ?_
              refine TO.nil ?_
              refine TE.next ?_
              refine TW.seq ?_
              refine TW.seq ?_
              refine TW.draw (isH := []) hMix ?_
              refine TA.y (listed' := #[true, false, false, false, false, false, false, false]) 0 [] rfl (Y.move rfl) rfl rfl rfl (by kernel_rfl) (by kernel_rfl) (by kernel_rfl) rfl rfl ?_
              refine TA.y (listed' := #[true, true, false, false, false, false, false, false]) 1 [] rfl (Y.move rfl) rfl rfl rfl (by kernel_rfl) (by kernel_rfl) (by kernel_rfl) rfl rfl ?_
              refine TA.y (listed' := #[true, true, true, false, false, false, false, false]) 2 [] rfl (Y.index ke35 (Base.can HB_V_a0) H7 rfl rfl) rfl rfl rfl (by kernel_rfl) (by kernel_rfl) (by kernel_rfl) rfl rfl ?_
              refine TA.y (listed' := #[true, true, true, true, false, false, false, false]) 3 [] rfl (Y.field_el kf29_4 (Base.can HB_V_a0) (idx_get H7).2.2 rfl rfl) rfl rfl rfl (by kernel_rfl) (by kernel_rfl) (by kernel_rfl) rfl rfl ?_
              refine TA.y (listed' := #[true, true, true, true, true, false, false, false]) 4 [] rfl (Y.load_el (us := [strV E6.Key]) (u := strV E6.Key) kk9 rfl (Base.can HB_V_a0) (idx_get H7).2.2 rfl rfl rfl rfl rfl) rfl rfl rfl (by kernel_rfl) (by kernel_rfl) (by kernel_rfl) rfl rfl ?_
              refine TA.y (listed' := #[true, true, true, true, true, true, false, false]) 5 [] rfl (Y.move rfl) rfl rfl rfl (by kernel_rfl) (by kernel_rfl) (by kernel_rfl) rfl rfl ?_
              refine TA.bind fun R15 H16 => ?_
              refine TA.one 6 (by kernel_rfl) ?_
              refine TX.ef (listed' := #[true, true, true, true, true, true, true, false]) [] rfl (Ef.call (rest := []) [] (laws_markText_con (IntKind.i64.wrap (IntKind.i64.wrap (IntKind.i64.wrap (IntKind.i64.wrap (S1.1 + (1 : Int)) + (1 : Int)) + (1 : Int)) + (1 : Int)))  R15 H16) kc33 rfl rfl trivial) rfl rfl rfl rfl (fun _ => rfl) (fun _ => ?_)
              refine TA.y (listed' := #[true, true, true, true, true, true, true, true]) 7 [] rfl (Y.sneq rfl rfl) rfl rfl rfl (by kernel_rfl) (by kernel_rfl) (by kernel_rfl) rfl rfl ?_
              refine TA.nil (by kernel_rfl) ?_
              refine TE.next ?_
              refine TW.cond rfl (fun H18 => ?_) (fun H18 => ?_)
              · refine TW.seq ?_
                refine TW.region ?_
                refine TO.y (Y.assign rfl) rfl rfl rfl ?_
                refine TO.nil ?_
                refine TE.next ?_
                refine TW.ret ?_
                refine TE.then_ret ?_
                refine TE.block_ret ?_
                refine TE.then_ret ?_
                refine TE.lp_ret ?_
                refine TE.block_ret ?_
                refine TE.jn_done ?_
                refine TE.then_ret ?_
                exact TE.leaf fun _ _ hf_ hs_ => ret_any (rs := [.tmp 4]) (vs := [.int .i64 (-1 : Int)]) (.inl rfl) rfl ⟨rfl, trivial⟩ hf_ hs_ ⟨(), rfl, hs_.pulls [] rfl⟩
              · refine TW.skip ?_
                refine TE.next ?_
                refine TW.seq ?_
                refine TW.region ?_
                refine TO.y (Y.move rfl) rfl rfl rfl ?_
                refine TO.y (Y.add rfl rfl) rfl rfl rfl ?_
                refine TO.y (Y.assign rfl) rfl rfl rfl ?_
                refine TO.nil ?_
                refine TE.next ?_
                refine TW.seq ?_
                refine TW.seq ?_
                refine TW.draw (isH := []) hMix ?_
                refine TA.y (listed' := #[true, false, false, false, false, false, false, false]) 0 [] rfl (Y.move rfl) rfl rfl rfl (by kernel_rfl) (by kernel_rfl) (by kernel_rfl) rfl rfl ?_
                refine TA.y (listed' := #[true, true, false, false, false, false, false, false]) 1 [] rfl (Y.move rfl) rfl rfl rfl (by kernel_rfl) (by kernel_rfl) (by kernel_rfl) rfl rfl ?_
                refine TA.y (listed' := #[true, true, true, false, false, false, false, false]) 2 [] rfl (Y.index ke35 (Base.can HB_V_a0) H7 rfl rfl) rfl rfl rfl (by kernel_rfl) (by kernel_rfl) (by kernel_rfl) rfl rfl ?_
                refine TA.y (listed' := #[true, true, true, true, false, false, false, false]) 3 [] rfl (Y.field_el kf29_5 (Base.can HB_V_a0) (idx_get H7).2.2 rfl rfl) rfl rfl rfl (by kernel_rfl) (by kernel_rfl) (by kernel_rfl) rfl rfl ?_
                refine TA.y (listed' := #[true, true, true, true, true, false, false, false]) 4 [] rfl (Y.load_el (us := [strV E6.To]) (u := strV E6.To) kk9 rfl (Base.can HB_V_a0) (idx_get H7).2.2 rfl rfl rfl rfl rfl) rfl rfl rfl (by kernel_rfl) (by kernel_rfl) (by kernel_rfl) rfl rfl ?_
                refine TA.y (listed' := #[true, true, true, true, true, true, false, false]) 5 [] rfl (Y.move rfl) rfl rfl rfl (by kernel_rfl) (by kernel_rfl) (by kernel_rfl) rfl rfl ?_
                refine TA.bind fun R19 H20 => ?_
                refine TA.one 6 (by kernel_rfl) ?_
                refine TX.ef (listed' := #[true, true, true, true, true, true, true, false]) [] rfl (Ef.call (rest := []) [] (laws_markText_con (IntKind.i64.wrap (IntKind.i64.wrap (IntKind.i64.wrap (IntKind.i64.wrap (IntKind.i64.wrap (S1.1 + (1 : Int)) + (1 : Int)) + (1 : Int)) + (1 : Int)) + (1 : Int)))  R19 H20) kc33 rfl rfl trivial) rfl rfl rfl rfl (fun _ => rfl) (fun _ => ?_)
                refine TA.y (listed' := #[true, true, true, true, true, true, true, true]) 7 [] rfl (Y.sneq rfl rfl) rfl rfl rfl (by kernel_rfl) (by kernel_rfl) (by kernel_rfl) rfl rfl ?_
                refine TA.nil (by kernel_rfl) ?_
                refine TE.next ?_
                refine TW.cond rfl (fun H22 => ?_) (fun H22 => ?_)
                · refine TW.seq ?_
                  refine TW.region ?_
                  refine TO.y (Y.assign rfl) rfl rfl rfl ?_
                  refine TO.nil ?_
                  refine TE.next ?_
                  refine TW.ret ?_
                  refine TE.then_ret ?_
                  refine TE.block_ret ?_
                  refine TE.then_ret ?_
                  refine TE.lp_ret ?_
                  refine TE.block_ret ?_
                  refine TE.jn_done ?_
                  refine TE.then_ret ?_
                  exact TE.leaf fun _ _ hf_ hs_ => ret_any (rs := [.tmp 4]) (vs := [.int .i64 (-1 : Int)]) (.inl rfl) rfl ⟨rfl, trivial⟩ hf_ hs_ ⟨(), rfl, hs_.pulls [] rfl⟩
                · refine TW.skip ?_
                  refine TE.next ?_
                  refine TW.seq ?_
                  refine TW.region ?_
                  refine TO.y (Y.move rfl) rfl rfl rfl ?_
                  refine TO.y (Y.add rfl rfl) rfl rfl rfl ?_
                  refine TO.y (Y.assign rfl) rfl rfl rfl ?_
                  refine TO.nil ?_
                  refine TE.next ?_
                  refine TW.seq ?_
                  refine TW.region ?_
                  refine TO.y (Y.move rfl) rfl rfl rfl ?_
                  refine TO.y (Y.move rfl) rfl rfl rfl ?_
                  refine TO.y (Y.index ke35 (Base.can HB_V_a0) H7 rfl rfl) rfl rfl rfl ?_
                  refine TO.y (Y.field_el kf29_6 (Base.can HB_V_a0) (idx_get H7).2.2 rfl rfl) rfl rfl rfl ?_
                  have Q23 : Base w S (elv w V_a0 (S1.2.toNat * 7 + 6)) (lc E6.Ops) := Base.el HB_V_a0 (idx_get H7).2.2 rfl rfl
                  refine TO.y (Y.load_base (α := Call) (u := (elv w V_a0 (S1.2.toNat * 7 + 6))) kk27 rfl HB_V_a0 (idx_get H7).2.2 rfl rfl rfl rfl rfl) rfl rfl rfl ?_
                  refine TO.y (Y.move rfl) rfl rfl rfl ?_
                  refine TO.bind fun R24 H25 => ?_
                  refine TO.ef (Ef.call (rest := []) [] (laws_heldOpS_con E6.Ops (IntKind.i64.wrap (IntKind.i64.wrap (IntKind.i64.wrap (IntKind.i64.wrap (IntKind.i64.wrap (IntKind.i64.wrap (S1.1 + (1 : Int)) + (1 : Int)) + (1 : Int)) + (1 : Int)) + (1 : Int)) + (1 : Int))) (elv w V_a0 (S1.2.toNat * 7 + 6)) R24 H25) kc35 rfl rfl ⟨(Base.can Q23), trivial⟩) rfl rfl rfl (fun _ => ?_)
                  refine TO.y (Y.assign rfl) rfl rfl rfl ?_
                  refine TO.nil ?_
                  refine TE.next ?_
                  refine TW.seq ?_
                  refine TW.region ?_
                  refine TO.y (Y.move rfl) rfl rfl rfl ?_
                  refine TO.y (Y.lss rfl rfl) rfl rfl rfl ?_
                  refine TO.nil ?_
                  refine TE.next ?_
                  refine TW.cond rfl (fun H27 => ?_) (fun H27 => ?_)
                  · refine TW.seq ?_
                    refine TW.region ?_
                    refine TO.y (Y.assign rfl) rfl rfl rfl ?_
                    refine TO.nil ?_
                    refine TE.next ?_
                    refine TW.ret ?_
                    refine TE.block_ret ?_
                    refine TE.then_ret ?_
                    refine TE.lp_ret ?_
                    refine TE.block_ret ?_
                    refine TE.jn_done ?_
                    refine TE.then_ret ?_
                    exact TE.leaf fun _ _ hf_ hs_ => ret_any (rs := [.tmp 4]) (vs := [.int .i64 (-1 : Int)]) (.inl rfl) rfl ⟨rfl, trivial⟩ hf_ hs_ ⟨(), rfl, hs_.pulls [] rfl⟩
                  · refine TW.skip ?_
                    refine TE.block_normal ?_
                    refine TE.next ?_
                    refine TW.region ?_
                    refine TO.y (Y.move rfl) rfl rfl rfl ?_
                    refine TO.y (Y.add rfl rfl) rfl rfl rfl ?_
                    refine TO.y (Y.assign rfl) rfl rfl rfl ?_
                    refine TO.nil ?_
                    exact TE.lp_go () [] ⟨rfl, rfl, rfl, trivial⟩ rfl
    · refine TW.exit ?_
      refine TE.then_exit ?_
      refine TE.lp_exit ?_
      refine TE.block_exit ?_
      exact TE.jn_go () [] ⟨rfl, trivial⟩ rfl
  · refine TE.next ?_
    refine TW.seq ?_
    refine TW.region ?_
    refine TO.y (Y.move rfl) rfl rfl rfl ?_
    refine TO.y (Y.assign rfl) rfl rfl rfl ?_
    refine TO.nil ?_
    refine TE.next ?_
    refine TW.ret ?_
    exact TE.leaf fun _ _ hf_ hs_ => ret_any (rs := [.tmp 4]) (vs := [.int .i64 T3]) (.inl rfl) rfl ⟨rfl, trivial⟩ hf_ hs_ ⟨(), rfl, hs_.pulls [] rfl⟩

/-- loop.example/g00950/laws.FnExactAlone -/
noncomputable def laws_FnExactAlone (aSecret : List UInt8) (aL : List Call) (aTenant : Int) : Option Bool :=
  if (decide (((aSecret.length : Nat) : Int) > (1048576 : Int))) = true then (some true)
  else ((laws_szCallS aL (1048576 : Int)).bind fun R2 =>
  if (decide (R2 < (0 : Int))) = true then (some true)
  else ((laws_toCallS aL).bind fun R6 =>
  (spec_Alone aSecret R6 aTenant).bind fun R9 =>
  (impl_Alone aSecret R6 aTenant).bind fun R13 =>
  (laws_eqCallS R13 R9).bind fun R16 =>
  if (!R16) = true then (some false)
  else ((laws_eqCallS R6 R6).bind fun R21 =>
  if (!R21) = true then (some false)
  else ((laws_markCallS R6 (1 : Int)).bind fun R25 =>
  (if (decide (R25.1 < (0 : Int))) = true then (some true)
  else (some (!R16))).bind (fun (T28 : Bool) =>
  if T28 = true then (some false)
  else ((laws_markCallS R13 (1 : Int)).bind fun R33 =>
  (laws_heldCallS R33.2 (1 : Int)).bind fun R36 =>
  if (decide (R36 < (0 : Int))) = true then (some false)
  else (if (!(decide (R36 = R33.1))) = true then (some false)
  else (if (!R16) = true then (some false)
  else (if (decide (R36 < (0 : Int))) = true then (some false)
  else (if (!(decide (R36 = R33.1))) = true then (some false)
  else (some true)))))))))))

theorem laws_FnExactAlone_con (aSecret : List UInt8) (aL : List Call) (aTenant : Int) (V_aL0 : Value) (r : Bool) (hm : laws_FnExactAlone aSecret aL aTenant = some r) :
    Con Try.prog 4 [strV aSecret, V_aL0, .int .i64 aTenant] [] [(V_aL0, lc aL)] (fun _ : Unit => .bool r) (fun _ => []) := by
  refine Con.intro (args := [strV aSecret, V_aL0, .int .i64 aTenant]) (n := 82) (val := fun r (_ : Unit) => .bool r) (post := fun _ _ => []) (m := laws_FnExactAlone aSecret aL aTenant) Try.func4 rfl rfl rfl hm ?_
  intro w S hrd
  have HB_V_aL0 := hrd _ (.head _)
  clear hrd
  unfold laws_FnExactAlone
  refine TW.seq ?_
  refine TW.region ?_
  refine TO.y (Y.assign rfl) rfl rfl rfl ?_
  refine TO.nil ?_
  refine TE.next ?_
  refine TW.seq ?_
  refine TW.seq ?_
  refine TW.region ?_
  refine TO.y (Y.move rfl) rfl rfl rfl ?_
  refine TO.y (Y.slen ks9 rfl) rfl rfl rfl ?_
  refine TO.y (Y.gtr rfl rfl) rfl rfl rfl ?_
  refine TO.nil ?_
  refine TE.next ?_
  refine TW.cond rfl (fun H1 => ?_) (fun H1 => ?_)
  · refine TW.seq ?_
    refine TW.region ?_
    refine TO.y (Y.assign rfl) rfl rfl rfl ?_
    refine TO.nil ?_
    refine TE.next ?_
    refine TW.ret ?_
    refine TE.then_ret ?_
    exact TE.leaf fun _ _ hf_ hs_ => ret_any (rs := [.tmp 6]) (vs := [.bool true]) (.inl rfl) rfl ⟨rfl, trivial⟩ hf_ hs_ ⟨(), rfl, hs_.pulls [] rfl⟩
  · refine TW.skip ?_
    refine TE.next ?_
    refine TW.seq ?_
    refine TW.region ?_
    refine TO.y (Y.assign rfl) rfl rfl rfl ?_
    refine TO.nil ?_
    refine TE.next ?_
    refine TW.seq ?_
    refine TW.region ?_
    refine TO.y (Y.move rfl) rfl rfl rfl ?_
    refine TO.y (Y.move rfl) rfl rfl rfl ?_
    refine TO.bind fun R2 H3 => ?_
    refine TO.ef (Ef.call (rest := []) [] (laws_szCallS_con aL (1048576 : Int) V_aL0 R2 H3) kc11 rfl rfl ⟨(Base.can HB_V_aL0), trivial⟩) rfl rfl rfl (fun _ => ?_)
    refine TO.y (Y.assign rfl) rfl rfl rfl ?_
    refine TO.nil ?_
    refine TE.next ?_
    refine TW.seq ?_
    refine TW.seq ?_
    refine TW.region ?_
    refine TO.y (Y.move rfl) rfl rfl rfl ?_
    refine TO.y (Y.lss rfl rfl) rfl rfl rfl ?_
    refine TO.nil ?_
    refine TE.next ?_
    refine TW.cond rfl (fun H5 => ?_) (fun H5 => ?_)
    · refine TW.seq ?_
      refine TW.region ?_
      refine TO.y (Y.assign rfl) rfl rfl rfl ?_
      refine TO.nil ?_
      refine TE.next ?_
      refine TW.ret ?_
      refine TE.then_ret ?_
      exact TE.leaf fun _ _ hf_ hs_ => ret_any (rs := [.tmp 6]) (vs := [.bool true]) (.inl rfl) rfl ⟨rfl, trivial⟩ hf_ hs_ ⟨(), rfl, hs_.pulls [] rfl⟩
    · refine TW.skip ?_
      refine TE.next ?_
      refine TW.seq ?_
      refine TW.region ?_
      refine TO.y (Y.move rfl) rfl rfl rfl ?_
      refine TO.y (Y.move rfl) rfl rfl rfl ?_
      refine TO.bind fun R6 H7 => ?_
      refine TO.ef (Ef.call (rest := []) [] (laws_toCallS_con aL V_aL0 R6 H7) kc13 rfl rfl ⟨(Base.can HB_V_aL0), trivial⟩) rfl rfl rfl (fun Y8 => ?_)
      refine TO.y (Y.move rfl) rfl rfl rfl ?_
      refine TO.bind fun R9 H10 => ?_
      refine TO.ef (Ef.call (rest := [.own Y8 (lc R6)]) [0] (spec_Alone_con aSecret R6 aTenant Y8 R9 H10) kc12 rfl rfl ⟨(Can.own 0 rfl), trivial⟩) rfl rfl rfl (fun Y11 => ?_)
      refine TO.y (Y.assign rfl) rfl rfl rfl ?_
      refine TO.nil ?_
      refine TE.next ?_
      refine TW.seq ?_
      refine TW.region ?_
      refine TO.y (Y.move rfl) rfl rfl rfl ?_
      refine TO.ef (Ef.call (rest := [.own Y11 (lc R9), .own Y8 (lc R6)]) [0, 0] (laws_toCallS_con aL V_aL0 R6 H7) kc13 rfl rfl ⟨(Base.can HB_V_aL0), trivial⟩) rfl rfl rfl (fun Y12 => ?_)
      refine TO.y (Y.assign rfl) rfl rfl rfl ?_
      refine TO.nil ?_
      refine TE.next ?_
      refine TW.seq ?_
      refine TW.region ?_
      refine TO.y (Y.move rfl) rfl rfl rfl ?_
      refine TO.y (Y.move rfl) rfl rfl rfl ?_
      refine TO.y (Y.move rfl) rfl rfl rfl ?_
      refine TO.bind fun R13 H14 => ?_
      refine TO.ef (Ef.call (rest := [.own Y12 (lc R6), .own Y11 (lc R9), .own Y8 (lc R6)]) [0, 0, 0] (impl_Alone_con aSecret R6 aTenant Y12 R13 H14) kc14 rfl rfl ⟨(Can.own 0 rfl), trivial⟩) rfl rfl rfl (fun Y15 => ?_)
      refine TO.y (Y.assign rfl) rfl rfl rfl ?_
      refine TO.nil ?_
      refine TE.next ?_
      refine TW.seq ?_
      refine TW.seq ?_
      refine TW.region ?_
      refine TO.y (Y.move rfl) rfl rfl rfl ?_
      refine TO.y (Y.move rfl) rfl rfl rfl ?_
      refine TO.bind fun R16 H17 => ?_
      refine TO.ef (Ef.call (rest := [.own Y15 (lc R13), .own Y12 (lc R6), .own Y11 (lc R9), .own Y8 (lc R6)]) [0, 0, 0, 0] (laws_eqCallS_con R13 R9 Y15 Y11 R16 H17) kc15 rfl rfl ⟨(Can.own 0 rfl), (Can.own 2 rfl), trivial⟩) rfl rfl rfl (fun _ => ?_)
      refine TO.y (Y.not rfl) rfl rfl rfl ?_
      refine TO.nil ?_
      refine TE.next ?_
      refine TW.cond rfl (fun H19 => ?_) (fun H19 => ?_)
      · refine TW.seq ?_
        refine TW.region ?_
        refine TO.y (Y.assign rfl) rfl rfl rfl ?_
        refine TO.nil ?_
        refine TE.next ?_
        refine TW.ret ?_
        refine TE.then_ret ?_
        exact TE.leaf fun _ _ hf_ hs_ => ret_any (rs := [.tmp 6]) (vs := [.bool false]) (.inl rfl) rfl ⟨rfl, trivial⟩ hf_ hs_ ⟨(), rfl, hs_.pulls [] rfl⟩
      · refine TW.skip ?_
        refine TE.next ?_
        refine TW.seq ?_
        refine TW.seq ?_
        refine TW.region ?_
        refine TO.y (Y.move rfl) rfl rfl rfl ?_
        refine TO.y (Y.move rfl) rfl rfl rfl ?_
        refine TO.ef (Ef.call (rest := [.own Y15 (lc R13), .own Y12 (lc R6), .own Y11 (lc R9), .own Y8 (lc R6)]) [0, 0, 0, 0] (laws_toCallS_con aL V_aL0 R6 H7) kc13 rfl rfl ⟨(Base.can HB_V_aL0), trivial⟩) rfl rfl rfl (fun Y20 => ?_)
        refine TO.bind fun R21 H22 => ?_
        refine TO.ef (Ef.call (rest := [.own Y20 (lc R6), .own Y15 (lc R13), .own Y12 (lc R6), .own Y11 (lc R9), .own Y8 (lc R6)]) [0, 0, 0, 0, 0] (laws_eqCallS_con R6 R6 Y12 Y20 R21 H22) kc15 rfl rfl ⟨(Can.own 2 rfl), (Can.own 0 rfl), trivial⟩) rfl rfl rfl (fun _ => ?_)
        refine TO.y (Y.not rfl) rfl rfl rfl ?_
        refine TO.nil ?_
        refine TE.next ?_
        refine TW.cond rfl (fun H24 => ?_) (fun H24 => ?_)
        · refine TW.seq ?_
          refine TW.region ?_
          refine TO.y (Y.assign rfl) rfl rfl rfl ?_
          refine TO.nil ?_
          refine TE.next ?_
          refine TW.ret ?_
          refine TE.then_ret ?_
          exact TE.leaf fun _ _ hf_ hs_ => ret_any (rs := [.tmp 6]) (vs := [.bool false]) (.inl rfl) rfl ⟨rfl, trivial⟩ hf_ hs_ ⟨(), rfl, hs_.pulls [] rfl⟩
        · refine TW.skip ?_
          refine TE.next ?_
          refine TW.seq ?_
          refine TW.region ?_
          refine TO.y (Y.assign rfl) rfl rfl rfl ?_
          refine TO.nil ?_
          refine TE.next ?_
          refine TW.seq ?_
          refine TW.region ?_
          refine TO.y (Y.move rfl) rfl rfl rfl ?_
          refine TO.y (Y.move rfl) rfl rfl rfl ?_
          refine TO.bind fun R25 H26 => ?_
          refine TO.ef (Ef.call (rest := [.own Y20 (lc R6), .own Y15 (lc R13), .own Y11 (lc R9), .own Y8 (lc R6)]) [2, 0, 0, 0, 0] (laws_markCallS_con R6 (1 : Int) Y12 R25 H26) kc16 rfl rfl trivial) rfl rfl rfl (fun _ => ?_)
          refine TO.y (Y.assign rfl) rfl rfl rfl ?_
          refine TO.nil ?_
          refine TE.next ?_
          refine TW.seq ?_
          refine TW.seq ?_
          refine TW.joinBX (τ := Bool) (X := Unit) (fun T _ => [(0, strV aSecret), (1, V_aL0), (2, .int .i64 aTenant), (8, Y11), (10, Y15), (53, .bool T)]) (fun _ _ => [.own Y11 (lc R9), .own Y15 (lc R13)]) ?_ (fun T28 X29 => ?_)
          · refine TW.region ?_
            refine TO.y (Y.move rfl) rfl rfl rfl ?_
            refine TO.y (Y.lss rfl rfl) rfl rfl rfl ?_
            refine TO.y (Y.move rfl) rfl rfl rfl ?_
            refine TO.ite (b := decide (R25.1 < (0 : Int))) (fun H30 => ?_) (fun H30 => ?_)
            · refine TO.off (Gd.at 2 false 48 (decide (R25.1 < (0 : Int))) rfl rfl rfl (beq_tf H30)) rfl rfl ?_
              refine TO.off (Gd.at 2 false 48 (decide (R25.1 < (0 : Int))) rfl rfl rfl (beq_tf H30)) rfl rfl ?_
              refine TO.off (Gd.at 2 false 48 (decide (R25.1 < (0 : Int))) rfl rfl rfl (beq_tf H30)) rfl rfl ?_
              refine TO.off (Gd.at 2 false 48 (decide (R25.1 < (0 : Int))) rfl rfl rfl (beq_tf H30)) rfl rfl ?_
              refine TO.y (Y.pick_t H30 rfl rfl) rfl rfl rfl ?_
              refine TO.nil ?_
              exact TE.jb_go () [3, 2] ⟨rfl, rfl, rfl, rfl, rfl, rfl, trivial⟩ rfl
            · refine TO.y (Y.move rfl) (Gd.at 2 false 48 (decide (R25.1 < (0 : Int))) rfl rfl rfl (beq_ff H30)) rfl rfl ?_
              refine TO.y (Y.move rfl) (Gd.at 2 false 48 (decide (R25.1 < (0 : Int))) rfl rfl rfl (beq_ff H30)) rfl rfl ?_
              refine TO.ef (Ef.call (rest := [.own Y12 (lc R25.2), .own Y20 (lc R6), .own Y15 (lc R13), .own Y11 (lc R9), .own Y8 (lc R6)]) [0, 0, 0, 0, 0] (laws_eqCallS_con R13 R9 Y15 Y11 R16 H17) kc15 rfl rfl ⟨(Can.own 2 rfl), (Can.own 3 rfl), trivial⟩) (Gd.at 2 false 48 (decide (R25.1 < (0 : Int))) rfl rfl rfl (beq_ff H30)) rfl rfl (fun _ => ?_)
              refine TO.y (Y.not rfl) (Gd.at 2 false 48 (decide (R25.1 < (0 : Int))) rfl rfl rfl (beq_ff H30)) rfl rfl ?_
              refine TO.y (Y.pick_f H30 rfl rfl) rfl rfl rfl ?_
              refine TO.nil ?_
              exact TE.jb_go () [3, 2] ⟨rfl, rfl, rfl, rfl, rfl, rfl, trivial⟩ rfl
          · refine TE.next ?_
            refine TW.cond rfl (fun H32 => ?_) (fun H32 => ?_)
            · refine TW.seq ?_
              refine TW.region ?_
              refine TO.y (Y.assign rfl) rfl rfl rfl ?_
              refine TO.nil ?_
              refine TE.next ?_
              refine TW.ret ?_
              refine TE.then_ret ?_
              exact TE.leaf fun _ _ hf_ hs_ => ret_any (rs := [.tmp 6]) (vs := [.bool false]) (.inl rfl) rfl ⟨rfl, trivial⟩ hf_ hs_ ⟨(), rfl, hs_.pulls [] rfl⟩
            · refine TW.skip ?_
              refine TE.next ?_
              refine TW.seq ?_
              refine TW.region ?_
              refine TO.y (Y.assign rfl) rfl rfl rfl ?_
              refine TO.nil ?_
              refine TE.next ?_
              refine TW.seq ?_
              refine TW.region ?_
              refine TO.y (Y.move rfl) rfl rfl rfl ?_
              refine TO.y (Y.move rfl) rfl rfl rfl ?_
              refine TO.bind fun R33 H34 => ?_
              refine TO.ef (Ef.call (rest := [.own Y11 (lc R9)]) [1, 0] (laws_markCallS_con R13 (1 : Int) Y15 R33 H34) kc16 rfl rfl trivial) rfl rfl rfl (fun _ => ?_)
              refine TO.y (Y.assign rfl) rfl rfl rfl ?_
              refine TO.nil ?_
              refine TE.next ?_
              refine TW.seq ?_
              refine TW.region ?_
              refine TO.y (Y.assign rfl) rfl rfl rfl ?_
              refine TO.nil ?_
              refine TE.next ?_
              refine TW.seq ?_
              refine TW.region ?_
              refine TO.y (Y.move rfl) rfl rfl rfl ?_
              refine TO.y (Y.move rfl) rfl rfl rfl ?_
              refine TO.bind fun R36 H37 => ?_
              refine TO.ef (Ef.call (rest := [.own Y15 (lc R33.2), .own Y11 (lc R9)]) [0, 0] (laws_heldCallS_con R33.2 (1 : Int) Y15 R36 H37) kc17 rfl rfl ⟨(Can.own 0 rfl), trivial⟩) rfl rfl rfl (fun _ => ?_)
              refine TO.y (Y.assign rfl) rfl rfl rfl ?_
              refine TO.nil ?_
              refine TE.next ?_
              refine TW.seq ?_
              refine TW.seq ?_
              refine TW.region ?_
              refine TO.y (Y.move rfl) rfl rfl rfl ?_
              refine TO.y (Y.lss rfl rfl) rfl rfl rfl ?_
              refine TO.nil ?_
              refine TE.next ?_
              refine TW.cond rfl (fun H39 => ?_) (fun H39 => ?_)
              · refine TW.seq ?_
                refine TW.region ?_
                refine TO.y (Y.assign rfl) rfl rfl rfl ?_
                refine TO.nil ?_
                refine TE.next ?_
                refine TW.ret ?_
                refine TE.then_ret ?_
                exact TE.leaf fun _ _ hf_ hs_ => ret_any (rs := [.tmp 6]) (vs := [.bool false]) (.inl rfl) rfl ⟨rfl, trivial⟩ hf_ hs_ ⟨(), rfl, hs_.pulls [] rfl⟩
              · refine TW.skip ?_
                refine TE.next ?_
                refine TW.seq ?_
                refine TW.seq ?_
                refine TW.region ?_
                refine TO.y (Y.move rfl) rfl rfl rfl ?_
                refine TO.y (Y.move rfl) rfl rfl rfl ?_
                refine TO.y (Y.neq rfl rfl) rfl rfl rfl ?_
                refine TO.nil ?_
                refine TE.next ?_
                refine TW.cond rfl (fun H40 => ?_) (fun H40 => ?_)
                · refine TW.seq ?_
                  refine TW.region ?_
                  refine TO.y (Y.assign rfl) rfl rfl rfl ?_
                  refine TO.nil ?_
                  refine TE.next ?_
                  refine TW.ret ?_
                  refine TE.then_ret ?_
                  exact TE.leaf fun _ _ hf_ hs_ => ret_any (rs := [.tmp 6]) (vs := [.bool false]) (.inl rfl) rfl ⟨rfl, trivial⟩ hf_ hs_ ⟨(), rfl, hs_.pulls [] rfl⟩
                · refine TW.skip ?_
                  refine TE.next ?_
                  refine TW.seq ?_
                  refine TW.region ?_
                  refine TO.y (Y.move rfl) rfl rfl rfl ?_
                  refine TO.y (Y.move rfl) rfl rfl rfl ?_
                  refine TO.ef (Ef.call (rest := [.own Y15 (lc R33.2), .own Y11 (lc R9)]) [0, 0] (laws_toCallS_con aL V_aL0 R6 H7) kc13 rfl rfl ⟨(Base.can HB_V_aL0), trivial⟩) rfl rfl rfl (fun Y41 => ?_)
                  refine TO.y (Y.move rfl) rfl rfl rfl ?_
                  refine TO.ef (Ef.call (rest := [.own Y41 (lc R6), .own Y15 (lc R33.2), .own Y11 (lc R9)]) [0, 0, 0] (impl_Alone_con aSecret R6 aTenant Y41 R13 H14) kc14 rfl rfl ⟨(Can.own 0 rfl), trivial⟩) rfl rfl rfl (fun Y42 => ?_)
                  refine TO.y (Y.assign rfl) rfl rfl rfl ?_
                  refine TO.nil ?_
                  refine TE.next ?_
                  refine TW.seq ?_
                  refine TW.seq ?_
                  refine TW.region ?_
                  refine TO.y (Y.move rfl) rfl rfl rfl ?_
                  refine TO.y (Y.move rfl) rfl rfl rfl ?_
                  refine TO.ef (Ef.call (rest := [.own Y42 (lc R13), .own Y41 (lc R6), .own Y15 (lc R33.2), .own Y11 (lc R9)]) [0, 0, 0, 0] (laws_eqCallS_con R13 R9 Y42 Y11 R16 H17) kc15 rfl rfl ⟨(Can.own 0 rfl), (Can.own 3 rfl), trivial⟩) rfl rfl rfl (fun _ => ?_)
                  refine TO.y (Y.not rfl) rfl rfl rfl ?_
                  refine TO.nil ?_
                  refine TE.next ?_
                  refine TW.cond rfl (fun H44 => ?_) (fun H44 => ?_)
                  · refine TW.seq ?_
                    refine TW.region ?_
                    refine TO.y (Y.assign rfl) rfl rfl rfl ?_
                    refine TO.nil ?_
                    refine TE.next ?_
                    refine TW.ret ?_
                    refine TE.then_ret ?_
                    exact TE.leaf fun _ _ hf_ hs_ => ret_any (rs := [.tmp 6]) (vs := [.bool false]) (.inl rfl) rfl ⟨rfl, trivial⟩ hf_ hs_ ⟨(), rfl, hs_.pulls [] rfl⟩
                  · refine TW.skip ?_
                    refine TE.next ?_
                    refine TW.seq ?_
                    refine TW.region ?_
                    refine TO.y (Y.assign rfl) rfl rfl rfl ?_
                    refine TO.nil ?_
                    refine TE.next ?_
                    refine TW.seq ?_
                    refine TW.region ?_
                    refine TO.y (Y.move rfl) rfl rfl rfl ?_
                    refine TO.y (Y.move rfl) rfl rfl rfl ?_
                    refine TO.ef (Ef.call (rest := [.own Y42 (lc R13), .own Y41 (lc R6), .own Y15 (lc R33.2), .own Y11 (lc R9)]) [0, 0, 0, 0] (laws_heldCallS_con R33.2 (1 : Int) Y15 R36 H37) kc17 rfl rfl ⟨(Can.own 2 rfl), trivial⟩) rfl rfl rfl (fun _ => ?_)
                    refine TO.y (Y.assign rfl) rfl rfl rfl ?_
                    refine TO.nil ?_
                    refine TE.next ?_
                    refine TW.seq ?_
                    refine TW.seq ?_
                    refine TW.region ?_
                    refine TO.y (Y.move rfl) rfl rfl rfl ?_
                    refine TO.y (Y.lss rfl rfl) rfl rfl rfl ?_
                    refine TO.nil ?_
                    refine TE.next ?_
                    refine TW.cond rfl (fun H46 => ?_) (fun H46 => ?_)
                    · refine TW.seq ?_
                      refine TW.region ?_
                      refine TO.y (Y.assign rfl) rfl rfl rfl ?_
                      refine TO.nil ?_
                      refine TE.next ?_
                      refine TW.ret ?_
                      refine TE.then_ret ?_
                      exact TE.leaf fun _ _ hf_ hs_ => ret_any (rs := [.tmp 6]) (vs := [.bool false]) (.inl rfl) rfl ⟨rfl, trivial⟩ hf_ hs_ ⟨(), rfl, hs_.pulls [] rfl⟩
                    · refine TW.skip ?_
                      refine TE.next ?_
                      refine TW.seq ?_
                      refine TW.seq ?_
                      refine TW.region ?_
                      refine TO.y (Y.move rfl) rfl rfl rfl ?_
                      refine TO.y (Y.move rfl) rfl rfl rfl ?_
                      refine TO.y (Y.neq rfl rfl) rfl rfl rfl ?_
                      refine TO.nil ?_
                      refine TE.next ?_
                      refine TW.cond rfl (fun H47 => ?_) (fun H47 => ?_)
                      · refine TW.seq ?_
                        refine TW.region ?_
                        refine TO.y (Y.assign rfl) rfl rfl rfl ?_
                        refine TO.nil ?_
                        refine TE.next ?_
                        refine TW.ret ?_
                        refine TE.then_ret ?_
                        exact TE.leaf fun _ _ hf_ hs_ => ret_any (rs := [.tmp 6]) (vs := [.bool false]) (.inl rfl) rfl ⟨rfl, trivial⟩ hf_ hs_ ⟨(), rfl, hs_.pulls [] rfl⟩
                      · refine TW.skip ?_
                        refine TE.next ?_
                        refine TW.seq ?_
                        refine TW.region ?_
                        refine TO.y (Y.assign rfl) rfl rfl rfl ?_
                        refine TO.nil ?_
                        refine TE.next ?_
                        refine TW.ret ?_
                        exact TE.leaf fun _ _ hf_ hs_ => ret_any (rs := [.tmp 6]) (vs := [.bool true]) (.inl rfl) rfl ⟨rfl, trivial⟩ hf_ hs_ ⟨(), rfl, hs_.pulls [] rfl⟩

end Go.Proofs.Ytedpnkndjbhpnaa
