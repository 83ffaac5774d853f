/-
  The functions that a law reaches, each as a pure function, with the proof that the program computes it, and the step from a pure law to the given statement. Conditions: none.
-/
import Derived.Test.YtedpnkndjbhpnaaW4
set_option linter.unusedVariables false
set_option maxRecDepth 100000
set_option maxHeartbeats 4000000
namespace Go.Proofs.Ytedpnkndjbhpnaa
open Go Sl

/-- loop.example/g00950/laws.FnExactWhose -/
noncomputable def laws_FnExactWhose (aSecret : List UInt8) (aC : Call) : Option Bool :=
  if (decide (((aSecret.length : Nat) : Int) > (1048576 : Int))) = true then (some true)
  else ((laws_szCall aC (1048576 : Int)).bind fun R3 =>
  if (decide (R3 < (0 : Int))) = true then (some true)
  else ((laws_toCall aC).bind fun R7 =>
  (spec_Whose aSecret R7).bind fun R10 =>
  (impl_Whose aSecret R7).bind fun R15 =>
  if (!(decide (R15 = R10))) = true then (some false)
  else ((laws_eqCall R7 R7).bind fun R20 =>
  if (!R20) = true then (some false)
  else (some true))))

theorem laws_FnExactWhose_con (aSecret : List UInt8) (aC : Call) (V_aC6 : Value) (r : Bool) (hm : laws_FnExactWhose aSecret aC = some r) :
    Con Try.prog 3 [strV aSecret, .agg #[.int .i64 aC.Kind, strV aC.Token, .int .i64 aC.Tenant, .int .i64 aC.N, strV aC.Key, strV aC.To, V_aC6]] [] [(V_aC6, lc aC.Ops)] (fun _ : Unit => .bool r) (fun _ => []) := by
  refine Con.intro (args := [strV aSecret, .agg #[.int .i64 aC.Kind, strV aC.Token, .int .i64 aC.Tenant, .int .i64 aC.N, strV aC.Key, strV aC.To, V_aC6]]) (n := 34) (val := fun r (_ : Unit) => .bool r) (post := fun _ _ => []) (m := laws_FnExactWhose aSecret aC) Try.func3 rfl rfl rfl hm ?_
  intro w S hrd
  have HB_V_aC6 := hrd _ (.head _)
  clear hrd
  unfold laws_FnExactWhose
  refine TW.seq ?_
  refine TW.region ?_
  refine TO.ef (Ef.box rfl (Cel.agg ⟨(One.plain rfl), (One.plain rfl), (One.plain rfl), (One.plain rfl), (One.plain rfl), (One.plain rfl), (One.can (Base.can HB_V_aC6)), trivial⟩)) rfl rfl rfl (fun B1 => ?_)
  refine TO.y (Y.assign rfl) rfl rfl rfl ?_
  refine TO.nil ?_
  refine TE.next ?_
  refine TW.seq ?_
  refine TW.seq ?_
  refine TW.region ?_
  refine TO.y (Y.move rfl) rfl rfl rfl ?_
  refine TO.y (Y.slen ks9 rfl) rfl rfl rfl ?_
  refine TO.y (Y.gtr rfl rfl) rfl rfl rfl ?_
  refine TO.nil ?_
  refine TE.next ?_
  refine TW.cond rfl (fun H2 => ?_) (fun H2 => ?_)
  · refine TW.seq ?_
    refine TW.region ?_
    refine TO.y (Y.assign rfl) rfl rfl rfl ?_
    refine TO.nil ?_
    refine TE.next ?_
    refine TW.ret ?_
    refine TE.then_ret ?_
    exact TE.leaf fun _ _ hf_ hs_ => ret_any (rs := [.tmp 4]) (vs := [.bool true]) (.inl rfl) rfl ⟨rfl, trivial⟩ hf_ hs_ ⟨(), rfl, hs_.pulls [] rfl⟩
  · refine TW.skip ?_
    refine TE.next ?_
    refine TW.seq ?_
    refine TW.region ?_
    refine TO.y (Y.assign rfl) rfl rfl rfl ?_
    refine TO.nil ?_
    refine TE.next ?_
    refine TW.seq ?_
    refine TW.region ?_
    refine TO.y (Y.load_box (v := .agg #[.int .i64 aC.Kind, strV aC.Token, .int .i64 aC.Tenant, .int .i64 aC.N, strV aC.Key, strV aC.To, V_aC6]) 0 kk24 rfl rfl rfl) rfl rfl rfl ?_
    refine TO.y (Y.move rfl) rfl rfl rfl ?_
    refine TO.bind fun R3 H4 => ?_
    refine TO.ef (Ef.call (rest := [.box B1 24 [.int .i64 aC.Kind, strV aC.Token, .int .i64 aC.Tenant, .int .i64 aC.N, strV aC.Key, strV aC.To, V_aC6]]) [0] (laws_szCall_con aC (1048576 : Int) V_aC6 R3 H4) kc6 rfl rfl ⟨(Base.can HB_V_aC6), trivial⟩) rfl rfl rfl (fun _ => ?_)
    refine TO.y (Y.assign rfl) rfl rfl rfl ?_
    refine TO.nil ?_
    refine TE.next ?_
    refine TW.seq ?_
    refine TW.seq ?_
    refine TW.region ?_
    refine TO.y (Y.move rfl) rfl rfl rfl ?_
    refine TO.y (Y.lss rfl rfl) rfl rfl rfl ?_
    refine TO.nil ?_
    refine TE.next ?_
    refine TW.cond rfl (fun H6 => ?_) (fun H6 => ?_)
    · refine TW.seq ?_
      refine TW.region ?_
      refine TO.y (Y.assign rfl) rfl rfl rfl ?_
      refine TO.nil ?_
      refine TE.next ?_
      refine TW.ret ?_
      refine TE.then_ret ?_
      exact TE.leaf fun _ _ hf_ hs_ => ret_any (rs := [.tmp 4]) (vs := [.bool true]) (.inl rfl) rfl ⟨rfl, trivial⟩ hf_ hs_ ⟨(), rfl, hs_.pulls [] rfl⟩
    · refine TW.skip ?_
      refine TE.next ?_
      refine TW.seq ?_
      refine TW.region ?_
      refine TO.y (Y.move rfl) rfl rfl rfl ?_
      refine TO.y (Y.load_box (v := .agg #[.int .i64 aC.Kind, strV aC.Token, .int .i64 aC.Tenant, .int .i64 aC.N, strV aC.Key, strV aC.To, V_aC6]) 0 kk24 rfl rfl rfl) rfl rfl rfl ?_
      refine TO.bind fun R7 H8 => ?_
      refine TO.ef (Ef.call (rest := [.box B1 24 [.int .i64 aC.Kind, strV aC.Token, .int .i64 aC.Tenant, .int .i64 aC.N, strV aC.Key, strV aC.To, V_aC6]]) [0] (laws_toCall_con aC V_aC6 R7 H8) kc8 rfl rfl ⟨(Base.can HB_V_aC6), trivial⟩) rfl rfl rfl (fun Y9 => ?_)
      refine TO.bind fun R10 H11 => ?_
      refine TO.ef (Ef.call (rest := [.own Y9 (lc R7.Ops), .box B1 24 [.int .i64 aC.Kind, strV aC.Token, .int .i64 aC.Tenant, .int .i64 aC.N, strV aC.Key, strV aC.To, V_aC6]]) [0, 0] (spec_Whose_con aSecret R7 Y9 R10 H11) kc7 rfl rfl ⟨(Can.own 0 rfl), trivial⟩) rfl rfl rfl (fun _ => ?_)
      refine TO.y (Y.assign rfl) rfl rfl rfl ?_
      refine TO.nil ?_
      refine TE.next ?_
      refine TW.seq ?_
      refine TW.region ?_
      refine TO.y (Y.load_box (v := .agg #[.int .i64 aC.Kind, strV aC.Token, .int .i64 aC.Tenant, .int .i64 aC.N, strV aC.Key, strV aC.To, V_aC6]) 1 kk24 rfl rfl rfl) rfl rfl rfl ?_
      refine TO.ef (Ef.call (rest := [.own Y9 (lc R7.Ops), .box B1 24 [.int .i64 aC.Kind, strV aC.Token, .int .i64 aC.Tenant, .int .i64 aC.N, strV aC.Key, strV aC.To, V_aC6]]) [0, 0] (laws_toCall_con aC V_aC6 R7 H8) kc8 rfl rfl ⟨(Base.can HB_V_aC6), trivial⟩) rfl rfl rfl (fun Y13 => ?_)
      refine TO.ef (Ef.alloc kz29 rfl) rfl rfl rfl (fun B14 => ?_)
      refine TO.ef0 (Ef.store_box (us := [.int .i64 R7.Kind, strV R7.Token, .int .i64 R7.Tenant, .int .i64 R7.N, strV R7.Key, strV R7.To, Y13]) (vs' := [.int .i64 R7.Kind, strV R7.Token, .int .i64 R7.Tenant, .int .i64 R7.N, strV R7.Key, strV R7.To, Y13]) (is' := [.box B14 29 [.int .i64 R7.Kind, strV R7.Token, .int .i64 R7.Tenant, .int .i64 R7.N, strV R7.Key, strV R7.To, Y13], .own Y13 (lc R7.Ops), .own Y9 (lc R7.Ops), .box B1 24 [.int .i64 aC.Kind, strV aC.Token, .int .i64 aC.Tenant, .int .i64 aC.N, strV aC.Key, strV aC.To, V_aC6]]) 0 kk29 rfl rfl rfl (Cel.agg ⟨(One.plain rfl), (One.plain rfl), (One.plain rfl), (One.plain rfl), (One.plain rfl), (One.plain rfl), (One.can (Can.own 1 rfl)), trivial⟩) rfl rfl rfl rfl) rfl rfl (fun _ => ?_)
      refine TO.nil ?_
      refine TE.next ?_
      refine TW.seq ?_
      refine TW.region ?_
      refine TO.y (Y.move rfl) rfl rfl rfl ?_
      refine TO.y (Y.load_box (v := .agg #[.int .i64 R7.Kind, strV R7.Token, .int .i64 R7.Tenant, .int .i64 R7.N, strV R7.Key, strV R7.To, Y13]) 0 kk29 rfl rfl rfl) rfl rfl rfl ?_
      refine TO.bind fun R15 H16 => ?_
      refine TO.ef (Ef.call (rest := [.box B14 29 [.int .i64 R7.Kind, strV R7.Token, .int .i64 R7.Tenant, .int .i64 R7.N, strV R7.Key, strV R7.To, Y13], .own Y13 (lc R7.Ops), .own Y9 (lc R7.Ops), .box B1 24 [.int .i64 aC.Kind, strV aC.Token, .int .i64 aC.Tenant, .int .i64 aC.N, strV aC.Key, strV aC.To, V_aC6]]) [0, 0, 0, 0] (impl_Whose_con aSecret R7 Y13 R15 H16) kc9 rfl rfl ⟨(Can.own 1 rfl), trivial⟩) rfl rfl rfl (fun _ => ?_)
      refine TO.y (Y.assign rfl) rfl rfl rfl ?_
      refine TO.nil ?_
      refine TE.next ?_
      refine TW.seq ?_
      refine TW.seq ?_
      refine TW.region ?_
      refine TO.y (Y.move rfl) rfl rfl rfl ?_
      refine TO.y (Y.move rfl) rfl rfl rfl ?_
      refine TO.y (Y.neq rfl rfl) rfl rfl rfl ?_
      refine TO.nil ?_
      refine TE.next ?_
      refine TW.cond rfl (fun H18 => ?_) (fun H18 => ?_)
      · refine TW.seq ?_
        refine TW.region ?_
        refine TO.y (Y.assign rfl) rfl rfl rfl ?_
        refine TO.nil ?_
        refine TE.next ?_
        refine TW.ret ?_
        refine TE.then_ret ?_
        exact TE.leaf fun _ _ hf_ hs_ => ret_any (rs := [.tmp 4]) (vs := [.bool false]) (.inl rfl) rfl ⟨rfl, trivial⟩ hf_ hs_ ⟨(), rfl, hs_.pulls [] rfl⟩
      · refine TW.skip ?_
        refine TE.next ?_
        refine TW.seq ?_
        refine TW.seq ?_
        refine TW.draw (isH := [.box B14 29 [.int .i64 R7.Kind, strV R7.Token, .int .i64 R7.Tenant, .int .i64 R7.N, strV R7.Key, strV R7.To, Y13], .own Y13 (lc R7.Ops), .own Y9 (lc R7.Ops), .box B1 24 [.int .i64 aC.Kind, strV aC.Token, .int .i64 aC.Tenant, .int .i64 aC.N, strV aC.Key, strV aC.To, V_aC6]]) hMix ?_
        refine TA.y (listed' := #[true, false, false, false, false]) 0 [0, 0, 0, 0] rfl (Y.load_box (v := .agg #[.int .i64 R7.Kind, strV R7.Token, .int .i64 R7.Tenant, .int .i64 R7.N, strV R7.Key, strV R7.To, Y13]) 0 kk29 rfl rfl rfl) rfl rfl rfl (by kernel_rfl) (by kernel_rfl) (by kernel_rfl) rfl rfl ?_
        refine TA.y (listed' := #[true, true, false, false, false]) 1 [0, 0, 0, 0] rfl (Y.load_box (v := .agg #[.int .i64 aC.Kind, strV aC.Token, .int .i64 aC.Tenant, .int .i64 aC.N, strV aC.Key, strV aC.To, V_aC6]) 3 kk24 rfl rfl rfl) rfl rfl rfl (by kernel_rfl) (by kernel_rfl) (by kernel_rfl) rfl rfl ?_
        refine TA.one 2 (by kernel_rfl) ?_
        refine TX.ef (listed' := #[true, true, true, false, false]) [1, 1, 1, 1] rfl (Ef.call (rest := [.box B14 29 [.int .i64 R7.Kind, strV R7.Token, .int .i64 R7.Tenant, .int .i64 R7.N, strV R7.Key, strV R7.To, Y13], .own Y13 (lc R7.Ops), .own Y9 (lc R7.Ops), .box B1 24 [.int .i64 aC.Kind, strV aC.Token, .int .i64 aC.Tenant, .int .i64 aC.N, strV aC.Key, strV aC.To, V_aC6]]) [0, 0, 0, 0] (laws_toCall_con aC V_aC6 R7 H8) kc8 rfl rfl ⟨(Base.can HB_V_aC6), trivial⟩) rfl rfl rfl rfl (fun _ => rfl) (fun Y19 => ?_)
        refine TA.bind fun R20 H21 => ?_
        refine TA.one 3 (by kernel_rfl) ?_
        refine TX.ef (listed' := #[true, true, true, true, false]) [1, 1, 1, 1] rfl (Ef.call (rest := [.own Y19 (lc R7.Ops), .box B14 29 [.int .i64 R7.Kind, strV R7.Token, .int .i64 R7.Tenant, .int .i64 R7.N, strV R7.Key, strV R7.To, Y13], .own Y13 (lc R7.Ops), .own Y9 (lc R7.Ops), .box B1 24 [.int .i64 aC.Kind, strV aC.Token, .int .i64 aC.Tenant, .int .i64 aC.N, strV aC.Key, strV aC.To, V_aC6]]) [0, 0, 0, 0, 0] (laws_eqCall_con R7 R7 Y13 Y19 R20 H21) kc10 rfl rfl ⟨(Can.own 2 rfl), (Can.own 0 rfl), trivial⟩) rfl rfl rfl rfl (fun _ => rfl) (fun _ => ?_)
        refine TA.y (listed' := #[true, true, true, true, true]) 4 [1, 1, 1, 1] rfl (Y.not rfl) rfl rfl rfl (by kernel_rfl) (by kernel_rfl) (by kernel_rfl) rfl rfl ?_
        refine TA.nil (by kernel_rfl) ?_
        refine TE.next ?_
        refine TW.cond rfl (fun H23 => ?_) (fun H23 => ?_)
        · refine TW.seq ?_
          refine TW.region ?_
          refine TO.y (Y.assign rfl) rfl rfl rfl ?_
          refine TO.nil ?_
          refine TE.next ?_
          refine TW.ret ?_
          refine TE.then_ret ?_
          exact TE.leaf fun _ _ hf_ hs_ => ret_any (rs := [.tmp 4]) (vs := [.bool false]) (.inl rfl) rfl ⟨rfl, trivial⟩ hf_ hs_ ⟨(), rfl, hs_.pulls [] rfl⟩
        · refine TW.skip ?_
          refine TE.next ?_
          refine TW.seq ?_
          refine TW.region ?_
          refine TO.y (Y.assign rfl) rfl rfl rfl ?_
          refine TO.nil ?_
          refine TE.next ?_
          refine TW.ret ?_
          exact TE.leaf fun _ _ hf_ hs_ => ret_any (rs := [.tmp 4]) (vs := [.bool true]) (.inl rfl) rfl ⟨rfl, trivial⟩ hf_ hs_ ⟨(), rfl, hs_.pulls [] rfl⟩

end Go.Proofs.Ytedpnkndjbhpnaa
