/-
  The functions that a law reaches, each as a pure function, with the proof that the program computes it, and the step from a pure law to the given statement. Conditions: none.
-/
import Derived.Test.YtpfndjojoikkgabG2
set_option linter.unusedVariables false
set_option maxRecDepth 100000
namespace Go.Proofs.Ytpfndjojoikkgab
open Go Sl

/-- loop.example/g00950/laws.FnExactIterSeek -/
noncomputable def laws_FnExactIterSeek (aX : Iter) (aKey : List UInt8) : Option Bool :=
  if (decide (((aKey.length : Nat) : Int) > (1048576 : Int))) = true then (some true)
  else ((laws_szIter aX (1048576 : Int)).bind fun R3 =>
  if (decide (R3 < (0 : Int))) = true then (some true)
  else ((laws_toIter aX).bind fun R7 =>
  (spec_IterSeek R7 aKey).bind fun R10 =>
  (impl_IterSeek R7 aKey).bind fun R17 =>
  ((laws_eqIter R17.1 R10.1).bind fun R24 =>
  if (!R24) = true then (some true)
  else ((laws_eqKV R17.2.1 R10.2.1).bind fun R28 =>
  if (!R28) = true then (some true)
  else (some (!(decide (R17.2.2 = R10.2.2)))))).bind (fun (T22 : Bool) =>
  if T22 = true then (some false)
  else ((laws_eqIter R7 R7).bind fun R34 =>
  if (!R34) = true then (some false)
  else ((laws_markIter R7 (1 : Int)).bind fun R38 =>
  (if (decide (R38.1 < (0 : Int))) = true then (some true)
  else ((laws_eqIter R17.1 R10.1).bind fun R44 =>
  if (!R44) = true then (some true)
  else ((laws_eqKV R17.2.1 R10.2.1).bind fun R48 =>
  if (!R48) = true then (some true)
  else (some (!(decide (R17.2.2 = R10.2.2))))))).bind (fun (T41 : Bool) =>
  if T41 = true then (some false)
  else ((laws_markIter R17.1 (1 : Int)).bind fun R53 =>
  (laws_heldIter ({ List := R53.2, From := R17.1.From, To := R17.1.To, At := R17.1.At : Iter }) (1 : Int)).bind fun R56 =>
  if (decide (R56 < (0 : Int))) = true then (some false)
  else (if (!(decide (R56 = R53.1))) = true then (some false)
  else (((laws_eqIter R17.1 R10.1).bind fun R67 =>
  if (!R67) = true then (some true)
  else ((laws_eqKV R17.2.1 R10.2.1).bind fun R71 =>
  if (!R71) = true then (some true)
  else (some (!(decide (R17.2.2 = R10.2.2)))))).bind (fun (T65 : Bool) =>
  if T65 = true then (some false)
  else (if (decide (R56 < (0 : Int))) = true then (some false)
  else (if (!(decide (R56 = R53.1))) = true then (some false)
  else (some true)))))))))))))

theorem laws_FnExactIterSeek_con (aX : Iter) (aKey : List UInt8) (V_aX0 : Value) (r : Bool) (hm : laws_FnExactIterSeek aX aKey = some r) :
    Con Try.prog 5 [.agg #[V_aX0, strV aX.From, strV aX.To, .int .i64 aX.At], strV aKey] [] [(V_aX0, lc 75 aX.List)] (fun _ : Unit => .bool r) (fun _ => []) := by
  refine Con.intro (args := [.agg #[V_aX0, strV aX.From, strV aX.To, .int .i64 aX.At], strV aKey]) (n := 128) (val := fun r (_ : Unit) => .bool r) (post := fun _ _ => []) (m := laws_FnExactIterSeek aX aKey) Try.func5 rfl rfl rfl hm ?_
  intro w S hrd
  have HB_V_aX0 := hrd _ (.head _)
  clear hrd
  unfold laws_FnExactIterSeek
  refine TW.seq ?_
  refine TW.region ?_
  refine TO.ef (Ef.box rfl (Cel.agg ⟨(One.can (Base.can HB_V_aX0)), (One.plain rfl), (One.plain rfl), (One.plain rfl), trivial⟩)) rfl rfl rfl (fun B1 => ?_)
  refine TO.y (Y.assign rfl) rfl rfl rfl ?_
  refine TO.nil ?_
  refine TE.next ?_
  refine TW.seq ?_
  refine TW.seq ?_
  refine TW.region ?_
  refine TO.y (Y.move rfl) rfl rfl rfl ?_
  refine TO.y (Y.slen ks9 rfl) rfl rfl rfl ?_
  refine TO.y (Y.gtr rfl rfl) rfl rfl rfl ?_
  refine TO.nil ?_
  refine TE.next ?_
  refine TW.cond rfl (fun H2 => ?_) (fun H2 => ?_)
  · refine TW.seq ?_
    refine TW.region ?_
    refine TO.y (Y.assign rfl) rfl rfl rfl ?_
    refine TO.nil ?_
    refine TE.next ?_
    refine TW.ret ?_
    refine TE.then_ret ?_
    exact TE.leaf fun _ _ hf_ hs_ => ret_any (rs := [.tmp 4]) (vs := [.bool true]) (.inl rfl) rfl ⟨rfl, trivial⟩ hf_ hs_ ⟨(), rfl, hs_.pulls [] rfl⟩
  · refine TW.skip ?_
    refine TE.next ?_
    refine TW.seq ?_
    refine TW.region ?_
    refine TO.y (Y.assign rfl) rfl rfl rfl ?_
    refine TO.nil ?_
    refine TE.next ?_
    refine TW.seq ?_
    refine TW.region ?_
    refine TO.y (Y.load_box (v := .agg #[V_aX0, strV aX.From, strV aX.To, .int .i64 aX.At]) 0 kk24 rfl rfl rfl) rfl rfl rfl ?_
    refine TO.y (Y.move rfl) rfl rfl rfl ?_
    refine TO.bind fun R3 H4 => ?_
    refine TO.ef (Ef.call (rest := [.box B1 24 [V_aX0, strV aX.From, strV aX.To, .int .i64 aX.At]]) [0] (laws_szIter_con aX (1048576 : Int) V_aX0 R3 H4) kc9 rfl rfl ⟨(Base.can HB_V_aX0), trivial⟩) rfl rfl rfl (fun _ => ?_)
    refine TO.y (Y.assign rfl) rfl rfl rfl ?_
    refine TO.nil ?_
    refine TE.next ?_
    refine TW.seq ?_
    refine TW.seq ?_
    refine TW.region ?_
    refine TO.y (Y.move rfl) rfl rfl rfl ?_
    refine TO.y (Y.lss rfl rfl) rfl rfl rfl ?_
    refine TO.nil ?_
    refine TE.next ?_
    refine TW.cond rfl (fun H6 => ?_) (fun H6 => ?_)
    · refine TW.seq ?_
      refine TW.region ?_
      refine TO.y (Y.assign rfl) rfl rfl rfl ?_
      refine TO.nil ?_
      refine TE.next ?_
      refine TW.ret ?_
      refine TE.then_ret ?_
      exact TE.leaf fun _ _ hf_ hs_ => ret_any (rs := [.tmp 4]) (vs := [.bool true]) (.inl rfl) rfl ⟨rfl, trivial⟩ hf_ hs_ ⟨(), rfl, hs_.pulls [] rfl⟩
    · refine TW.skip ?_
      refine TE.next ?_
      refine TW.seq ?_
      refine TW.region ?_
      refine TO.y (Y.load_box (v := .agg #[V_aX0, strV aX.From, strV aX.To, .int .i64 aX.At]) 0 kk24 rfl rfl rfl) rfl rfl rfl ?_
      refine TO.bind fun R7 H8 => ?_
      refine TO.ef (Ef.call (rest := [.box B1 24 [V_aX0, strV aX.From, strV aX.To, .int .i64 aX.At]]) [0] (laws_toIter_con aX V_aX0 R7 H8) kc11 rfl rfl ⟨(Base.can HB_V_aX0), trivial⟩) rfl rfl rfl (fun Y9 => ?_)
      refine TO.y (Y.move rfl) rfl rfl rfl ?_
      refine TO.bind fun R10 H11 => ?_
      refine TO.ef (Ef.call (rest := [.own Y9 (lc 30 R7.List), .box B1 24 [V_aX0, strV aX.From, strV aX.To, .int .i64 aX.At]]) [0, 0] (spec_IterSeek_con R7 aKey Y9 R10 H11) kc19 rfl rfl ⟨(Can.own 0 rfl), trivial⟩) rfl rfl rfl (fun Y12 => ?_)
      refine TO.y (Y.move rfl) rfl rfl rfl ?_
      refine TO.y (Y.extract rfl rfl) rfl rfl rfl ?_
      refine TO.y (Y.extract rfl rfl) rfl rfl rfl ?_
      refine TO.y (Y.extract rfl rfl) rfl rfl rfl ?_
      refine TO.ef (Ef.alloc kz28 rfl) rfl rfl rfl (fun B13 => ?_)
      refine TO.ef (Ef.alloc kz30 rfl) rfl rfl rfl (fun B14 => ?_)
      refine TO.ef0 (Ef.store_box (us := [Y12, strV R10.1.From, strV R10.1.To, .int .i64 R10.1.At]) (vs' := [Y12, strV R10.1.From, strV R10.1.To, .int .i64 R10.1.At]) (is' := [.box B14 30 [strV ([]), strV ([])], .box B13 28 [Y12, strV R10.1.From, strV R10.1.To, .int .i64 R10.1.At], .own Y12 (lc 30 R10.1.List), .own Y9 (lc 30 R7.List), .box B1 24 [V_aX0, strV aX.From, strV aX.To, .int .i64 aX.At]]) 1 kk28 rfl rfl rfl (Cel.agg ⟨(One.can (Can.own 2 rfl)), (One.plain rfl), (One.plain rfl), (One.plain rfl), trivial⟩) rfl rfl rfl rfl) rfl rfl (fun _ => ?_)
      refine TO.ef0 (Ef.store_box (us := [strV R10.2.1.Key, strV R10.2.1.Val]) (vs' := [strV R10.2.1.Key, strV R10.2.1.Val]) (is' := [.box B14 30 [strV R10.2.1.Key, strV R10.2.1.Val], .box B13 28 [Y12, strV R10.1.From, strV R10.1.To, .int .i64 R10.1.At], .own Y12 (lc 30 R10.1.List), .own Y9 (lc 30 R7.List), .box B1 24 [V_aX0, strV aX.From, strV aX.To, .int .i64 aX.At]]) 0 kk30 rfl rfl rfl (Cel.plain rfl rfl) rfl rfl rfl rfl) rfl rfl (fun _ => ?_)
      refine TO.y (Y.assign rfl) rfl rfl rfl ?_
      refine TO.nil ?_
      refine TE.next ?_
      refine TW.seq ?_
      refine TW.region ?_
      refine TO.y (Y.load_box (v := .agg #[V_aX0, strV aX.From, strV aX.To, .int .i64 aX.At]) 4 kk24 rfl rfl rfl) rfl rfl rfl ?_
      refine TO.ef (Ef.call (rest := [.box B14 30 [strV R10.2.1.Key, strV R10.2.1.Val], .box B13 28 [Y12, strV R10.1.From, strV R10.1.To, .int .i64 R10.1.At], .own Y12 (lc 30 R10.1.List), .own Y9 (lc 30 R7.List), .box B1 24 [V_aX0, strV aX.From, strV aX.To, .int .i64 aX.At]]) [0, 0, 0, 0, 0] (laws_toIter_con aX V_aX0 R7 H8) kc11 rfl rfl ⟨(Base.can HB_V_aX0), trivial⟩) rfl rfl rfl (fun Y15 => ?_)
      refine TO.ef (Ef.alloc kz28 rfl) rfl rfl rfl (fun B16 => ?_)
      refine TO.ef0 (Ef.store_box (us := [Y15, strV R7.From, strV R7.To, .int .i64 R7.At]) (vs' := [Y15, strV R7.From, strV R7.To, .int .i64 R7.At]) (is' := [.box B16 28 [Y15, strV R7.From, strV R7.To, .int .i64 R7.At], .own Y15 (lc 30 R7.List), .box B14 30 [strV R10.2.1.Key, strV R10.2.1.Val], .box B13 28 [Y12, strV R10.1.From, strV R10.1.To, .int .i64 R10.1.At], .own Y12 (lc 30 R10.1.List), .own Y9 (lc 30 R7.List), .box B1 24 [V_aX0, strV aX.From, strV aX.To, .int .i64 aX.At]]) 0 kk28 rfl rfl rfl (Cel.agg ⟨(One.can (Can.own 1 rfl)), (One.plain rfl), (One.plain rfl), (One.plain rfl), trivial⟩) rfl rfl rfl rfl) rfl rfl (fun _ => ?_)
      refine TO.nil ?_
      refine TE.next ?_
      refine TW.seq ?_
      refine TW.region ?_
      refine TO.y (Y.load_box (v := .agg #[Y15, strV R7.From, strV R7.To, .int .i64 R7.At]) 0 kk28 rfl rfl rfl) rfl rfl rfl ?_
      refine TO.y (Y.move rfl) rfl rfl rfl ?_
      refine TO.bind fun R17 H18 => ?_
      refine TO.ef (Ef.call (rest := [.box B16 28 [Y15, strV R7.From, strV R7.To, .int .i64 R7.At], .own Y15 (lc 30 R7.List), .box B14 30 [strV R10.2.1.Key, strV R10.2.1.Val], .box B13 28 [Y12, strV R10.1.From, strV R10.1.To, .int .i64 R10.1.At], .own Y12 (lc 30 R10.1.List), .own Y9 (lc 30 R7.List), .box B1 24 [V_aX0, strV aX.From, strV aX.To, .int .i64 aX.At]]) [0, 0, 0, 0, 0, 0, 0] (impl_IterSeek_con R7 aKey Y15 R17 H18) kc20 rfl rfl ⟨(Can.own 1 rfl), trivial⟩) rfl rfl rfl (fun Y19 => ?_)
      refine TO.y (Y.move rfl) rfl rfl rfl ?_
      refine TO.y (Y.extract rfl rfl) rfl rfl rfl ?_
      refine TO.y (Y.extract rfl rfl) rfl rfl rfl ?_
      refine TO.y (Y.extract rfl rfl) rfl rfl rfl ?_
      refine TO.ef (Ef.alloc kz28 rfl) rfl rfl rfl (fun B20 => ?_)
      refine TO.ef (Ef.alloc kz30 rfl) rfl rfl rfl (fun B21 => ?_)
      refine TO.ef0 (Ef.store_box (us := [Y19, strV R17.1.From, strV R17.1.To, .int .i64 R17.1.At]) (vs' := [Y19, strV R17.1.From, strV R17.1.To, .int .i64 R17.1.At]) (is' := [.box B21 30 [strV ([]), strV ([])], .box B20 28 [Y19, strV R17.1.From, strV R17.1.To, .int .i64 R17.1.At], .own Y19 (lc 30 R17.1.List), .box B16 28 [Y15, strV R7.From, strV R7.To, .int .i64 R7.At], .own Y15 (lc 30 R7.List), .box B14 30 [strV R10.2.1.Key, strV R10.2.1.Val], .box B13 28 [Y12, strV R10.1.From, strV R10.1.To, .int .i64 R10.1.At], .own Y12 (lc 30 R10.1.List), .own Y9 (lc 30 R7.List), .box B1 24 [V_aX0, strV aX.From, strV aX.To, .int .i64 aX.At]]) 1 kk28 rfl rfl rfl (Cel.agg ⟨(One.can (Can.own 2 rfl)), (One.plain rfl), (One.plain rfl), (One.plain rfl), trivial⟩) rfl rfl rfl rfl) rfl rfl (fun _ => ?_)
      refine TO.ef0 (Ef.store_box (us := [strV R17.2.1.Key, strV R17.2.1.Val]) (vs' := [strV R17.2.1.Key, strV R17.2.1.Val]) (is' := [.box B21 30 [strV R17.2.1.Key, strV R17.2.1.Val], .box B20 28 [Y19, strV R17.1.From, strV R17.1.To, .int .i64 R17.1.At], .own Y19 (lc 30 R17.1.List), .box B16 28 [Y15, strV R7.From, strV R7.To, .int .i64 R7.At], .own Y15 (lc 30 R7.List), .box B14 30 [strV R10.2.1.Key, strV R10.2.1.Val], .box B13 28 [Y12, strV R10.1.From, strV R10.1.To, .int .i64 R10.1.At], .own Y12 (lc 30 R10.1.List), .own Y9 (lc 30 R7.List), .box B1 24 [V_aX0, strV aX.From, strV aX.To, .int .i64 aX.At]]) 0 kk30 rfl rfl rfl (Cel.plain rfl rfl) rfl rfl rfl rfl) rfl rfl (fun _ => ?_)
      refine TO.y (Y.assign rfl) rfl rfl rfl ?_
      refine TO.nil ?_
      refine TE.next ?_
      refine TW.seq ?_
      refine TW.seq ?_
      refine TW.joinBX (τ := Bool) (X := Unit) (fun T _ => [(1, strV aKey), (2, .pointer (some ⟨B1, 0, none⟩)), (6, .pointer (some ⟨B13, 0, none⟩)), (7, .pointer (some ⟨B14, 0, none⟩)), (8, .bool R10.2.2), (9, .pointer (some ⟨B16, 0, none⟩)), (10, .pointer (some ⟨B20, 0, none⟩)), (11, .pointer (some ⟨B21, 0, none⟩)), (12, .bool R17.2.2), (58, .bool T)]) (fun _ _ => [.box B1 24 [V_aX0, strV aX.From, strV aX.To, .int .i64 aX.At], .box B13 28 [Y12, strV R10.1.From, strV R10.1.To, .int .i64 R10.1.At], .box B14 30 [strV R10.2.1.Key, strV R10.2.1.Val], .box B16 28 [Y15, strV R7.From, strV R7.To, .int .i64 R7.At], .box B20 28 [Y19, strV R17.1.From, strV R17.1.To, .int .i64 R17.1.At], .box B21 30 [strV R17.2.1.Key, strV R17.2.1.Val], .own Y12 (lc 30 R10.1.List), .own Y15 (lc 30 R7.List), .own Y19 (lc 30 R17.1.List)]) ?_ (fun T22 X23 => ?_)
      · refine TW.region ?_
        refine TO.y (Y.load_box (v := .agg #[Y19, strV R17.1.From, strV R17.1.To, .int .i64 R17.1.At]) 1 kk28 rfl rfl rfl) rfl rfl rfl ?_
        refine TO.y (Y.load_box (v := .agg #[Y12, strV R10.1.From, strV R10.1.To, .int .i64 R10.1.At]) 6 kk28 rfl rfl rfl) rfl rfl rfl ?_
        refine TO.bind fun R24 H25 => ?_
        refine TO.ef (Ef.call (rest := [.box B21 30 [strV R17.2.1.Key, strV R17.2.1.Val], .box B20 28 [Y19, strV R17.1.From, strV R17.1.To, .int .i64 R17.1.At], .own Y19 (lc 30 R17.1.List), .box B16 28 [Y15, strV R7.From, strV R7.To, .int .i64 R7.At], .own Y15 (lc 30 R7.List), .box B14 30 [strV R10.2.1.Key, strV R10.2.1.Val], .box B13 28 [Y12, strV R10.1.From, strV R10.1.To, .int .i64 R10.1.At], .own Y12 (lc 30 R10.1.List), .own Y9 (lc 30 R7.List), .box B1 24 [V_aX0, strV aX.From, strV aX.To, .int .i64 aX.At]]) [0, 0, 0, 0, 0, 0, 0, 0, 0, 0] (laws_eqIter_con R17.1 R10.1 Y19 Y12 R24 H25) kc13 rfl rfl ⟨(Can.own 2 rfl), (Can.own 7 rfl), trivial⟩) rfl rfl rfl (fun _ => ?_)
        refine TO.y (Y.not rfl) rfl rfl rfl ?_
        refine TO.y (Y.move rfl) rfl rfl rfl ?_
        refine TO.ite (b := !R24) (fun H27 => ?_) (fun H27 => ?_)
        · refine TO.off (Gd.at 4 false 48 (!R24) rfl rfl rfl (beq_tf H27)) rfl rfl ?_
          refine TO.off (Gd.at 4 false 48 (!R24) rfl rfl rfl (beq_tf H27)) rfl rfl ?_
          refine TO.off (Gd.at 4 false 48 (!R24) rfl rfl rfl (beq_tf H27)) rfl rfl ?_
          refine TO.off (Gd.at 4 false 48 (!R24) rfl rfl rfl (beq_tf H27)) rfl rfl ?_
          refine TO.y (Y.pick_t H27 rfl rfl) rfl rfl rfl ?_
          refine TO.y (Y.move rfl) rfl rfl rfl ?_
          refine TO.off (Gd.at 10 false 54 true rfl rfl rfl rfl) rfl rfl ?_
          refine TO.off (Gd.at 10 false 54 true rfl rfl rfl rfl) rfl rfl ?_
          refine TO.off (Gd.at 10 false 54 true rfl rfl rfl rfl) rfl rfl ?_
          refine TO.y (Y.pick_t rfl rfl rfl) rfl rfl rfl ?_
          refine TO.nil ?_
          exact TE.jb_go () [9, 6, 5, 3, 1, 0, 2, 1, 0] ⟨rfl, rfl, rfl, rfl, rfl, rfl, rfl, rfl, rfl, rfl, trivial⟩ rfl
        · refine TO.y (Y.load_box (v := .agg #[strV R17.2.1.Key, strV R17.2.1.Val]) 0 kk30 rfl rfl rfl) (Gd.at 4 false 48 (!R24) rfl rfl rfl (beq_ff H27)) rfl rfl ?_
          refine TO.y (Y.load_box (v := .agg #[strV R10.2.1.Key, strV R10.2.1.Val]) 5 kk30 rfl rfl rfl) (Gd.at 4 false 48 (!R24) rfl rfl rfl (beq_ff H27)) rfl rfl ?_
          refine TO.bind fun R28 H29 => ?_
          refine TO.ef (Ef.call (rest := [.box B21 30 [strV R17.2.1.Key, strV R17.2.1.Val], .box B20 28 [Y19, strV R17.1.From, strV R17.1.To, .int .i64 R17.1.At], .own Y19 (lc 30 R17.1.List), .box B16 28 [Y15, strV R7.From, strV R7.To, .int .i64 R7.At], .own Y15 (lc 30 R7.List), .box B14 30 [strV R10.2.1.Key, strV R10.2.1.Val], .box B13 28 [Y12, strV R10.1.From, strV R10.1.To, .int .i64 R10.1.At], .own Y12 (lc 30 R10.1.List), .own Y9 (lc 30 R7.List), .box B1 24 [V_aX0, strV aX.From, strV aX.To, .int .i64 aX.At]]) [0, 0, 0, 0, 0, 0, 0, 0, 0, 0] (laws_eqKV_con R17.2.1 R10.2.1  R28 H29) kc14 rfl rfl trivial) (Gd.at 4 false 48 (!R24) rfl rfl rfl (beq_ff H27)) rfl rfl (fun _ => ?_)
          refine TO.y (Y.not rfl) (Gd.at 4 false 48 (!R24) rfl rfl rfl (beq_ff H27)) rfl rfl ?_
          refine TO.y (Y.pick_f H27 rfl rfl) rfl rfl rfl ?_
          refine TO.y (Y.move rfl) rfl rfl rfl ?_
          refine TO.ite (b := !R28) (fun H31 => ?_) (fun H31 => ?_)
          · refine TO.off (Gd.at 10 false 54 (!R28) rfl rfl rfl (beq_tf H31)) rfl rfl ?_
            refine TO.off (Gd.at 10 false 54 (!R28) rfl rfl rfl (beq_tf H31)) rfl rfl ?_
            refine TO.off (Gd.at 10 false 54 (!R28) rfl rfl rfl (beq_tf H31)) rfl rfl ?_
            refine TO.y (Y.pick_t H31 rfl rfl) rfl rfl rfl ?_
            refine TO.nil ?_
            exact TE.jb_go () [9, 6, 5, 3, 1, 0, 2, 1, 0] ⟨rfl, rfl, rfl, rfl, rfl, rfl, rfl, rfl, rfl, rfl, trivial⟩ rfl
          · refine TO.y (Y.move rfl) (Gd.at 10 false 54 (!R28) rfl rfl rfl (beq_ff H31)) rfl rfl ?_
            refine TO.y (Y.move rfl) (Gd.at 10 false 54 (!R28) rfl rfl rfl (beq_ff H31)) rfl rfl ?_
            refine TO.y (Y.neb kb4 rfl rfl) (Gd.at 10 false 54 (!R28) rfl rfl rfl (beq_ff H31)) rfl rfl ?_
            refine TO.y (Y.pick_f H31 rfl rfl) rfl rfl rfl ?_
            refine TO.nil ?_
            exact TE.jb_go () [9, 6, 5, 3, 1, 0, 2, 1, 0] ⟨rfl, rfl, rfl, rfl, rfl, rfl, rfl, rfl, rfl, rfl, trivial⟩ rfl
      · refine TE.next ?_
        refine TW.cond rfl (fun H32 => ?_) (fun H32 => ?_)
        · refine TW.seq ?_
          refine TW.region ?_
          refine TO.y (Y.assign rfl) rfl rfl rfl ?_
          refine TO.nil ?_
          refine TE.next ?_
          refine TW.ret ?_
          refine TE.then_ret ?_
          exact TE.leaf fun _ _ hf_ hs_ => ret_any (rs := [.tmp 4]) (vs := [.bool false]) (.inl rfl) rfl ⟨rfl, trivial⟩ hf_ hs_ ⟨(), rfl, hs_.pulls [] rfl⟩
        · refine TW.skip ?_
          refine TE.next ?_
          refine TW.seq ?_
          refine TW.seq ?_
          refine TW.draw (isH := [.box B1 24 [V_aX0, strV aX.From, strV aX.To, .int .i64 aX.At], .box B13 28 [Y12, strV R10.1.From, strV R10.1.To, .int .i64 R10.1.At], .box B14 30 [strV R10.2.1.Key, strV R10.2.1.Val], .box B16 28 [Y15, strV R7.From, strV R7.To, .int .i64 R7.At], .box B20 28 [Y19, strV R17.1.From, strV R17.1.To, .int .i64 R17.1.At], .box B21 30 [strV R17.2.1.Key, strV R17.2.1.Val], .own Y12 (lc 30 R10.1.List), .own Y15 (lc 30 R7.List), .own Y19 (lc 30 R17.1.List)]) hMix ?_
          refine TA.y (listed' := #[true, false, false, false, false]) 0 [0, 0, 0, 0, 0, 0, 0, 0, 0] rfl (Y.load_box (v := .agg #[Y15, strV R7.From, strV R7.To, .int .i64 R7.At]) 3 kk28 rfl rfl rfl) rfl rfl rfl (by kernel_rfl) (by kernel_rfl) (by kernel_rfl) rfl rfl ?_
          refine TA.y (listed' := #[true, true, false, false, false]) 1 [0, 0, 0, 0, 0, 0, 0, 0, 0] rfl (Y.load_box (v := .agg #[V_aX0, strV aX.From, strV aX.To, .int .i64 aX.At]) 0 kk24 rfl rfl rfl) rfl rfl rfl (by kernel_rfl) (by kernel_rfl) (by kernel_rfl) rfl rfl ?_
          refine TA.one 2 (by kernel_rfl) ?_
          refine TX.ef (listed' := #[true, true, true, false, false]) [1, 1, 1, 1, 1, 1, 1, 1, 1] rfl (Ef.call (rest := [.box B1 24 [V_aX0, strV aX.From, strV aX.To, .int .i64 aX.At], .box B13 28 [Y12, strV R10.1.From, strV R10.1.To, .int .i64 R10.1.At], .box B14 30 [strV R10.2.1.Key, strV R10.2.1.Val], .box B16 28 [Y15, strV R7.From, strV R7.To, .int .i64 R7.At], .box B20 28 [Y19, strV R17.1.From, strV R17.1.To, .int .i64 R17.1.At], .box B21 30 [strV R17.2.1.Key, strV R17.2.1.Val], .own Y12 (lc 30 R10.1.List), .own Y15 (lc 30 R7.List), .own Y19 (lc 30 R17.1.List)]) [0, 0, 0, 0, 0, 0, 0, 0, 0] (laws_toIter_con aX V_aX0 R7 H8) kc11 rfl rfl ⟨(Base.can HB_V_aX0), trivial⟩) rfl rfl rfl rfl (fun _ => rfl) (fun Y33 => ?_)
          refine TA.bind fun R34 H35 => ?_
          refine TA.one 3 (by kernel_rfl) ?_
          refine TX.ef (listed' := #[true, true, true, true, false]) [1, 1, 1, 1, 1, 1, 1, 1, 1] rfl (Ef.call (rest := [.own Y33 (lc 30 R7.List), .box B1 24 [V_aX0, strV aX.From, strV aX.To, .int .i64 aX.At], .box B13 28 [Y12, strV R10.1.From, strV R10.1.To, .int .i64 R10.1.At], .box B14 30 [strV R10.2.1.Key, strV R10.2.1.Val], .box B16 28 [Y15, strV R7.From, strV R7.To, .int .i64 R7.At], .box B20 28 [Y19, strV R17.1.From, strV R17.1.To, .int .i64 R17.1.At], .box B21 30 [strV R17.2.1.Key, strV R17.2.1.Val], .own Y12 (lc 30 R10.1.List), .own Y15 (lc 30 R7.List), .own Y19 (lc 30 R17.1.List)]) [0, 0, 0, 0, 0, 0, 0, 0, 0, 0] (laws_eqIter_con R7 R7 Y15 Y33 R34 H35) kc13 rfl rfl ⟨(Can.own 8 rfl), (Can.own 0 rfl), trivial⟩) rfl rfl rfl rfl (fun _ => rfl) (fun _ => ?_)
          refine TA.y (listed' := #[true, true, true, true, true]) 4 [1, 1, 1, 1, 1, 1, 1, 1, 1] rfl (Y.not rfl) rfl rfl rfl (by kernel_rfl) (by kernel_rfl) (by kernel_rfl) rfl rfl ?_
          refine TA.nil (by kernel_rfl) ?_
          refine TE.next ?_
          refine TW.cond rfl (fun H37 => ?_) (fun H37 => ?_)
          · refine TW.seq ?_
            refine TW.region ?_
            refine TO.y (Y.assign rfl) rfl rfl rfl ?_
            refine TO.nil ?_
            refine TE.next ?_
            refine TW.ret ?_
            refine TE.then_ret ?_
            exact TE.leaf fun _ _ hf_ hs_ => ret_any (rs := [.tmp 4]) (vs := [.bool false]) (.inl rfl) rfl ⟨rfl, trivial⟩ hf_ hs_ ⟨(), rfl, hs_.pulls [] rfl⟩
          · refine TW.skip ?_
            refine TE.next ?_
            refine TW.seq ?_
            refine TW.region ?_
            refine TO.y (Y.assign rfl) rfl rfl rfl ?_
            refine TO.nil ?_
            refine TE.next ?_
            refine TW.seq ?_
            refine TW.region ?_
            refine TO.y (Y.load_box (v := .agg #[Y15, strV R7.From, strV R7.To, .int .i64 R7.At]) 4 kk28 rfl rfl rfl) rfl rfl rfl ?_
            refine TO.y (Y.move rfl) rfl rfl rfl ?_
            refine TO.bind fun R38 H39 => ?_
            refine TO.ef (Ef.call (rest := [.own Y33 (lc 30 R7.List), .box B1 24 [V_aX0, strV aX.From, strV aX.To, .int .i64 aX.At], .box B13 28 [Y12, strV R10.1.From, strV R10.1.To, .int .i64 R10.1.At], .box B14 30 [strV R10.2.1.Key, strV R10.2.1.Val], .box B16 28 [Y15, strV R7.From, strV R7.To, .int .i64 R7.At], .box B20 28 [Y19, strV R17.1.From, strV R17.1.To, .int .i64 R17.1.At], .box B21 30 [strV R17.2.1.Key, strV R17.2.1.Val], .own Y12 (lc 30 R10.1.List), .own Y19 (lc 30 R17.1.List)]) [8, 0, 0, 0, 0, 0, 0, 0, 0, 0] (laws_markIter_con R7 (1 : Int) Y15 R38 H39) kc15 rfl rfl trivial) rfl rfl rfl (fun _ => ?_)
            refine TO.y (Y.assign rfl) rfl rfl rfl ?_
            refine TO.nil ?_
            refine TE.next ?_
            refine TW.seq ?_
            refine TW.seq ?_
            refine TW.joinBX (τ := Bool) (X := Unit) (fun T _ => [(1, strV aKey), (2, .pointer (some ⟨B1, 0, none⟩)), (6, .pointer (some ⟨B13, 0, none⟩)), (7, .pointer (some ⟨B14, 0, none⟩)), (8, .bool R10.2.2), (10, .pointer (some ⟨B20, 0, none⟩)), (85, .bool T)]) (fun _ _ => [.box B1 24 [V_aX0, strV aX.From, strV aX.To, .int .i64 aX.At], .box B13 28 [Y12, strV R10.1.From, strV R10.1.To, .int .i64 R10.1.At], .box B14 30 [strV R10.2.1.Key, strV R10.2.1.Val], .box B20 28 [Y19, strV R17.1.From, strV R17.1.To, .int .i64 R17.1.At], .own Y12 (lc 30 R10.1.List), .own Y19 (lc 30 R17.1.List)]) ?_ (fun T41 X42 => ?_)
            · refine TW.region ?_
              refine TO.y (Y.move rfl) rfl rfl rfl ?_
              refine TO.y (Y.lss rfl rfl) rfl rfl rfl ?_
              refine TO.y (Y.move rfl) rfl rfl rfl ?_
              refine TO.ite (b := decide (R38.1 < (0 : Int))) (fun H43 => ?_) (fun H43 => ?_)
              · refine TO.off (Gd.at 2 false 69 (decide (R38.1 < (0 : Int))) rfl rfl rfl (beq_tf H43)) rfl rfl ?_
                refine TO.off (Gd.at 2 false 69 (decide (R38.1 < (0 : Int))) rfl rfl rfl (beq_tf H43)) rfl rfl ?_
                refine TO.off (Gd.at 2 false 69 (decide (R38.1 < (0 : Int))) rfl rfl rfl (beq_tf H43)) rfl rfl ?_
                refine TO.off (Gd.at 2 false 69 (decide (R38.1 < (0 : Int))) rfl rfl rfl (beq_tf H43)) rfl rfl ?_
                refine TO.y (Y.pick_t H43 rfl rfl) rfl rfl rfl ?_
                refine TO.y (Y.move rfl) rfl rfl rfl ?_
                refine TO.off (Gd.at 8 false 75 true rfl rfl rfl rfl) rfl rfl ?_
                refine TO.off (Gd.at 8 false 75 true rfl rfl rfl rfl) rfl rfl ?_
                refine TO.off (Gd.at 8 false 75 true rfl rfl rfl rfl) rfl rfl ?_
                refine TO.off (Gd.at 8 false 75 true rfl rfl rfl rfl) rfl rfl ?_
                refine TO.y (Y.pick_t rfl rfl rfl) rfl rfl rfl ?_
                refine TO.y (Y.move rfl) rfl rfl rfl ?_
                refine TO.off (Gd.at 14 false 81 true rfl rfl rfl rfl) rfl rfl ?_
                refine TO.off (Gd.at 14 false 81 true rfl rfl rfl rfl) rfl rfl ?_
                refine TO.off (Gd.at 14 false 81 true rfl rfl rfl rfl) rfl rfl ?_
                refine TO.y (Y.pick_t rfl rfl rfl) rfl rfl rfl ?_
                refine TO.nil ?_
                exact TE.jb_go () [2, 2, 2, 3, 4, 4] ⟨rfl, rfl, rfl, rfl, rfl, rfl, rfl, trivial⟩ rfl
              · refine TO.y (Y.load_box (v := .agg #[Y19, strV R17.1.From, strV R17.1.To, .int .i64 R17.1.At]) 6 kk28 rfl rfl rfl) (Gd.at 2 false 69 (decide (R38.1 < (0 : Int))) rfl rfl rfl (beq_ff H43)) rfl rfl ?_
                refine TO.y (Y.load_box (v := .agg #[Y12, strV R10.1.From, strV R10.1.To, .int .i64 R10.1.At]) 3 kk28 rfl rfl rfl) (Gd.at 2 false 69 (decide (R38.1 < (0 : Int))) rfl rfl rfl (beq_ff H43)) rfl rfl ?_
                refine TO.bind fun R44 H45 => ?_
                refine TO.ef (Ef.call (rest := [.own Y15 (lc 30 R38.2), .own Y33 (lc 30 R7.List), .box B1 24 [V_aX0, strV aX.From, strV aX.To, .int .i64 aX.At], .box B13 28 [Y12, strV R10.1.From, strV R10.1.To, .int .i64 R10.1.At], .box B14 30 [strV R10.2.1.Key, strV R10.2.1.Val], .box B16 28 [Y15, strV R7.From, strV R7.To, .int .i64 R7.At], .box B20 28 [Y19, strV R17.1.From, strV R17.1.To, .int .i64 R17.1.At], .box B21 30 [strV R17.2.1.Key, strV R17.2.1.Val], .own Y12 (lc 30 R10.1.List), .own Y19 (lc 30 R17.1.List)]) [0, 0, 0, 0, 0, 0, 0, 0, 0, 0] (laws_eqIter_con R17.1 R10.1 Y19 Y12 R44 H45) kc13 rfl rfl ⟨(Can.own 9 rfl), (Can.own 8 rfl), trivial⟩) (Gd.at 2 false 69 (decide (R38.1 < (0 : Int))) rfl rfl rfl (beq_ff H43)) rfl rfl (fun _ => ?_)
                refine TO.y (Y.not rfl) (Gd.at 2 false 69 (decide (R38.1 < (0 : Int))) rfl rfl rfl (beq_ff H43)) rfl rfl ?_
                refine TO.y (Y.pick_f H43 rfl rfl) rfl rfl rfl ?_
                refine TO.y (Y.move rfl) rfl rfl rfl ?_
                refine TO.ite (b := !R44) (fun H47 => ?_) (fun H47 => ?_)
                · refine TO.off (Gd.at 8 false 75 (!R44) rfl rfl rfl (beq_tf H47)) rfl rfl ?_
                  refine TO.off (Gd.at 8 false 75 (!R44) rfl rfl rfl (beq_tf H47)) rfl rfl ?_
                  refine TO.off (Gd.at 8 false 75 (!R44) rfl rfl rfl (beq_tf H47)) rfl rfl ?_
                  refine TO.off (Gd.at 8 false 75 (!R44) rfl rfl rfl (beq_tf H47)) rfl rfl ?_
                  refine TO.y (Y.pick_t H47 rfl rfl) rfl rfl rfl ?_
                  refine TO.y (Y.move rfl) rfl rfl rfl ?_
                  refine TO.off (Gd.at 14 false 81 true rfl rfl rfl rfl) rfl rfl ?_
                  refine TO.off (Gd.at 14 false 81 true rfl rfl rfl rfl) rfl rfl ?_
                  refine TO.off (Gd.at 14 false 81 true rfl rfl rfl rfl) rfl rfl ?_
                  refine TO.y (Y.pick_t rfl rfl rfl) rfl rfl rfl ?_
                  refine TO.nil ?_
                  exact TE.jb_go () [2, 2, 2, 3, 4, 4] ⟨rfl, rfl, rfl, rfl, rfl, rfl, rfl, trivial⟩ rfl
                · refine TO.y (Y.load_box (v := .agg #[strV R17.2.1.Key, strV R17.2.1.Val]) 7 kk30 rfl rfl rfl) (Gd.at 8 false 75 (!R44) rfl rfl rfl (beq_ff H47)) rfl rfl ?_
                  refine TO.y (Y.load_box (v := .agg #[strV R10.2.1.Key, strV R10.2.1.Val]) 4 kk30 rfl rfl rfl) (Gd.at 8 false 75 (!R44) rfl rfl rfl (beq_ff H47)) rfl rfl ?_
                  refine TO.bind fun R48 H49 => ?_
                  refine TO.ef (Ef.call (rest := [.own Y15 (lc 30 R38.2), .own Y33 (lc 30 R7.List), .box B1 24 [V_aX0, strV aX.From, strV aX.To, .int .i64 aX.At], .box B13 28 [Y12, strV R10.1.From, strV R10.1.To, .int .i64 R10.1.At], .box B14 30 [strV R10.2.1.Key, strV R10.2.1.Val], .box B16 28 [Y15, strV R7.From, strV R7.To, .int .i64 R7.At], .box B20 28 [Y19, strV R17.1.From, strV R17.1.To, .int .i64 R17.1.At], .box B21 30 [strV R17.2.1.Key, strV R17.2.1.Val], .own Y12 (lc 30 R10.1.List), .own Y19 (lc 30 R17.1.List)]) [0, 0, 0, 0, 0, 0, 0, 0, 0, 0] (laws_eqKV_con R17.2.1 R10.2.1  R48 H49) kc14 rfl rfl trivial) (Gd.at 8 false 75 (!R44) rfl rfl rfl (beq_ff H47)) rfl rfl (fun _ => ?_)
                  refine TO.y (Y.not rfl) (Gd.at 8 false 75 (!R44) rfl rfl rfl (beq_ff H47)) rfl rfl ?_
                  refine TO.y (Y.pick_f H47 rfl rfl) rfl rfl rfl ?_
                  refine TO.y (Y.move rfl) rfl rfl rfl ?_
                  refine TO.ite (b := !R48) (fun H51 => ?_) (fun H51 => ?_)
                  · refine TO.off (Gd.at 14 false 81 (!R48) rfl rfl rfl (beq_tf H51)) rfl rfl ?_
                    refine TO.off (Gd.at 14 false 81 (!R48) rfl rfl rfl (beq_tf H51)) rfl rfl ?_
                    refine TO.off (Gd.at 14 false 81 (!R48) rfl rfl rfl (beq_tf H51)) rfl rfl ?_
                    refine TO.y (Y.pick_t H51 rfl rfl) rfl rfl rfl ?_
                    refine TO.nil ?_
                    exact TE.jb_go () [2, 2, 2, 3, 4, 4] ⟨rfl, rfl, rfl, rfl, rfl, rfl, rfl, trivial⟩ rfl
                  · refine TO.y (Y.move rfl) (Gd.at 14 false 81 (!R48) rfl rfl rfl (beq_ff H51)) rfl rfl ?_
                    refine TO.y (Y.move rfl) (Gd.at 14 false 81 (!R48) rfl rfl rfl (beq_ff H51)) rfl rfl ?_
                    refine TO.y (Y.neb kb4 rfl rfl) (Gd.at 14 false 81 (!R48) rfl rfl rfl (beq_ff H51)) rfl rfl ?_
                    refine TO.y (Y.pick_f H51 rfl rfl) rfl rfl rfl ?_
                    refine TO.nil ?_
                    exact TE.jb_go () [2, 2, 2, 3, 4, 4] ⟨rfl, rfl, rfl, rfl, rfl, rfl, rfl, trivial⟩ rfl
            · refine TE.next ?_
              refine TW.cond rfl (fun H52 => ?_) (fun H52 => ?_)
              · refine TW.seq ?_
                refine TW.region ?_
                refine TO.y (Y.assign rfl) rfl rfl rfl ?_
                refine TO.nil ?_
                refine TE.next ?_
                refine TW.ret ?_
                refine TE.then_ret ?_
                exact TE.leaf fun _ _ hf_ hs_ => ret_any (rs := [.tmp 4]) (vs := [.bool false]) (.inl rfl) rfl ⟨rfl, trivial⟩ hf_ hs_ ⟨(), rfl, hs_.pulls [] rfl⟩
              · refine TW.skip ?_
                refine TE.next ?_
                refine TW.seq ?_
                refine TW.region ?_
                refine TO.y (Y.assign rfl) rfl rfl rfl ?_
                refine TO.nil ?_
                refine TE.next ?_
                refine TW.seq ?_
                refine TW.region ?_
                refine TO.y (Y.load_box (v := .agg #[Y19, strV R17.1.From, strV R17.1.To, .int .i64 R17.1.At]) 3 kk28 rfl rfl rfl) rfl rfl rfl ?_
                refine TO.y (Y.move rfl) rfl rfl rfl ?_
                refine TO.bind fun R53 H54 => ?_
                refine TO.ef (Ef.call (rest := [.box B1 24 [V_aX0, strV aX.From, strV aX.To, .int .i64 aX.At], .box B13 28 [Y12, strV R10.1.From, strV R10.1.To, .int .i64 R10.1.At], .box B14 30 [strV R10.2.1.Key, strV R10.2.1.Val], .box B20 28 [Y19, strV R17.1.From, strV R17.1.To, .int .i64 R17.1.At], .own Y12 (lc 30 R10.1.List)]) [5, 0, 0, 0, 0, 0] (laws_markIter_con R17.1 (1 : Int) Y19 R53 H54) kc15 rfl rfl trivial) rfl rfl rfl (fun _ => ?_)
                refine TO.y (Y.assign rfl) rfl rfl rfl ?_
                refine TO.nil ?_
                refine TE.next ?_
                refine TW.seq ?_
                refine TW.region ?_
                refine TO.y (Y.assign rfl) rfl rfl rfl ?_
                refine TO.nil ?_
                refine TE.next ?_
                refine TW.seq ?_
                refine TW.region ?_
                refine TO.y (Y.load_box (v := .agg #[Y19, strV R17.1.From, strV R17.1.To, .int .i64 R17.1.At]) 4 kk28 rfl rfl rfl) rfl rfl rfl ?_
                refine TO.y (Y.move rfl) rfl rfl rfl ?_
                refine TO.bind fun R56 H57 => ?_
                refine TO.ef (Ef.call (rest := [.own Y19 (lc 30 R53.2), .box B1 24 [V_aX0, strV aX.From, strV aX.To, .int .i64 aX.At], .box B13 28 [Y12, strV R10.1.From, strV R10.1.To, .int .i64 R10.1.At], .box B14 30 [strV R10.2.1.Key, strV R10.2.1.Val], .box B20 28 [Y19, strV R17.1.From, strV R17.1.To, .int .i64 R17.1.At], .own Y12 (lc 30 R10.1.List)]) [0, 0, 0, 0, 0, 0] (laws_heldIter_con ({ List := R53.2, From := R17.1.From, To := R17.1.To, At := R17.1.At : Iter }) (1 : Int) Y19 R56 H57) kc16 rfl rfl ⟨(Can.own 0 rfl), trivial⟩) rfl rfl rfl (fun _ => ?_)
                refine TO.y (Y.assign rfl) rfl rfl rfl ?_
                refine TO.nil ?_
                refine TE.next ?_
                refine TW.seq ?_
                refine TW.seq ?_
                refine TW.region ?_
                refine TO.y (Y.move rfl) rfl rfl rfl ?_
                refine TO.y (Y.lss rfl rfl) rfl rfl rfl ?_
                refine TO.nil ?_
                refine TE.next ?_
                refine TW.cond rfl (fun H59 => ?_) (fun H59 => ?_)
                · refine TW.seq ?_
                  refine TW.region ?_
                  refine TO.y (Y.assign rfl) rfl rfl rfl ?_
                  refine TO.nil ?_
                  refine TE.next ?_
                  refine TW.ret ?_
                  refine TE.then_ret ?_
                  exact TE.leaf fun _ _ hf_ hs_ => ret_any (rs := [.tmp 4]) (vs := [.bool false]) (.inl rfl) rfl ⟨rfl, trivial⟩ hf_ hs_ ⟨(), rfl, hs_.pulls [] rfl⟩
                · refine TW.skip ?_
                  refine TE.next ?_
                  refine TW.seq ?_
                  refine TW.seq ?_
                  refine TW.region ?_
                  refine TO.y (Y.move rfl) rfl rfl rfl ?_
                  refine TO.y (Y.move rfl) rfl rfl rfl ?_
                  refine TO.y (Y.neq rfl rfl) rfl rfl rfl ?_
                  refine TO.nil ?_
                  refine TE.next ?_
                  refine TW.cond rfl (fun H60 => ?_) (fun H60 => ?_)
                  · refine TW.seq ?_
                    refine TW.region ?_
                    refine TO.y (Y.assign rfl) rfl rfl rfl ?_
                    refine TO.nil ?_
                    refine TE.next ?_
                    refine TW.ret ?_
                    refine TE.then_ret ?_
                    exact TE.leaf fun _ _ hf_ hs_ => ret_any (rs := [.tmp 4]) (vs := [.bool false]) (.inl rfl) rfl ⟨rfl, trivial⟩ hf_ hs_ ⟨(), rfl, hs_.pulls [] rfl⟩
                  · refine TW.skip ?_
                    refine TE.next ?_
                    refine TW.seq ?_
                    refine TW.region ?_
                    refine TO.y (Y.load_box (v := .agg #[V_aX0, strV aX.From, strV aX.To, .int .i64 aX.At]) 1 kk24 rfl rfl rfl) rfl rfl rfl ?_
                    refine TO.ef (Ef.call (rest := [.own Y19 (lc 30 R53.2), .box B1 24 [V_aX0, strV aX.From, strV aX.To, .int .i64 aX.At], .box B13 28 [Y12, strV R10.1.From, strV R10.1.To, .int .i64 R10.1.At], .box B14 30 [strV R10.2.1.Key, strV R10.2.1.Val], .box B20 28 [Y19, strV R17.1.From, strV R17.1.To, .int .i64 R17.1.At], .own Y12 (lc 30 R10.1.List)]) [0, 0, 0, 0, 0, 0] (laws_toIter_con aX V_aX0 R7 H8) kc11 rfl rfl ⟨(Base.can HB_V_aX0), trivial⟩) rfl rfl rfl (fun Y61 => ?_)
                    refine TO.y (Y.move rfl) rfl rfl rfl ?_
                    refine TO.ef (Ef.call (rest := [.own Y61 (lc 30 R7.List), .own Y19 (lc 30 R53.2), .box B1 24 [V_aX0, strV aX.From, strV aX.To, .int .i64 aX.At], .box B13 28 [Y12, strV R10.1.From, strV R10.1.To, .int .i64 R10.1.At], .box B14 30 [strV R10.2.1.Key, strV R10.2.1.Val], .box B20 28 [Y19, strV R17.1.From, strV R17.1.To, .int .i64 R17.1.At], .own Y12 (lc 30 R10.1.List)]) [0, 0, 0, 0, 0, 0, 0] (impl_IterSeek_con R7 aKey Y61 R17 H18) kc20 rfl rfl ⟨(Can.own 0 rfl), trivial⟩) rfl rfl rfl (fun Y62 => ?_)
                    refine TO.y (Y.move rfl) rfl rfl rfl ?_
                    refine TO.y (Y.extract rfl rfl) rfl rfl rfl ?_
                    refine TO.y (Y.extract rfl rfl) rfl rfl rfl ?_
                    refine TO.y (Y.extract rfl rfl) rfl rfl rfl ?_
                    refine TO.ef (Ef.alloc kz28 rfl) rfl rfl rfl (fun B63 => ?_)
                    refine TO.ef (Ef.alloc kz30 rfl) rfl rfl rfl (fun B64 => ?_)
                    refine TO.ef0 (Ef.store_box (us := [Y62, strV R17.1.From, strV R17.1.To, .int .i64 R17.1.At]) (vs' := [Y62, strV R17.1.From, strV R17.1.To, .int .i64 R17.1.At]) (is' := [.box B64 30 [strV ([]), strV ([])], .box B63 28 [Y62, strV R17.1.From, strV R17.1.To, .int .i64 R17.1.At], .own Y62 (lc 30 R17.1.List), .own Y61 (lc 30 R7.List), .own Y19 (lc 30 R53.2), .box B1 24 [V_aX0, strV aX.From, strV aX.To, .int .i64 aX.At], .box B13 28 [Y12, strV R10.1.From, strV R10.1.To, .int .i64 R10.1.At], .box B14 30 [strV R10.2.1.Key, strV R10.2.1.Val], .box B20 28 [Y19, strV R17.1.From, strV R17.1.To, .int .i64 R17.1.At], .own Y12 (lc 30 R10.1.List)]) 1 kk28 rfl rfl rfl (Cel.agg ⟨(One.can (Can.own 2 rfl)), (One.plain rfl), (One.plain rfl), (One.plain rfl), trivial⟩) rfl rfl rfl rfl) rfl rfl (fun _ => ?_)
                    refine TO.ef0 (Ef.store_box (us := [strV R17.2.1.Key, strV R17.2.1.Val]) (vs' := [strV R17.2.1.Key, strV R17.2.1.Val]) (is' := [.box B64 30 [strV R17.2.1.Key, strV R17.2.1.Val], .box B63 28 [Y62, strV R17.1.From, strV R17.1.To, .int .i64 R17.1.At], .own Y62 (lc 30 R17.1.List), .own Y61 (lc 30 R7.List), .own Y19 (lc 30 R53.2), .box B1 24 [V_aX0, strV aX.From, strV aX.To, .int .i64 aX.At], .box B13 28 [Y12, strV R10.1.From, strV R10.1.To, .int .i64 R10.1.At], .box B14 30 [strV R10.2.1.Key, strV R10.2.1.Val], .box B20 28 [Y19, strV R17.1.From, strV R17.1.To, .int .i64 R17.1.At], .own Y12 (lc 30 R10.1.List)]) 0 kk30 rfl rfl rfl (Cel.plain rfl rfl) rfl rfl rfl rfl) rfl rfl (fun _ => ?_)
                    refine TO.y (Y.assign rfl) rfl rfl rfl ?_
                    refine TO.nil ?_
                    refine TE.next ?_
                    refine TW.seq ?_
                    refine TW.seq ?_
                    refine TW.joinBX (τ := Bool) (X := Unit) (fun T _ => [(10, .pointer (some ⟨B20, 0, none⟩)), (14, .int .i64 R53.1), (119, .bool T)]) (fun _ _ => [.box B20 28 [Y19, strV R17.1.From, strV R17.1.To, .int .i64 R17.1.At], .own Y19 (lc 30 R53.2)]) ?_ (fun T65 X66 => ?_)
                    · refine TW.region ?_
                      refine TO.y (Y.load_box (v := .agg #[Y62, strV R17.1.From, strV R17.1.To, .int .i64 R17.1.At]) 1 kk28 rfl rfl rfl) rfl rfl rfl ?_
                      refine TO.y (Y.load_box (v := .agg #[Y12, strV R10.1.From, strV R10.1.To, .int .i64 R10.1.At]) 6 kk28 rfl rfl rfl) rfl rfl rfl ?_
                      refine TO.bind fun R67 H68 => ?_
                      refine TO.ef (Ef.call (rest := [.box B64 30 [strV R17.2.1.Key, strV R17.2.1.Val], .box B63 28 [Y62, strV R17.1.From, strV R17.1.To, .int .i64 R17.1.At], .own Y62 (lc 30 R17.1.List), .own Y61 (lc 30 R7.List), .own Y19 (lc 30 R53.2), .box B1 24 [V_aX0, strV aX.From, strV aX.To, .int .i64 aX.At], .box B13 28 [Y12, strV R10.1.From, strV R10.1.To, .int .i64 R10.1.At], .box B14 30 [strV R10.2.1.Key, strV R10.2.1.Val], .box B20 28 [Y19, strV R17.1.From, strV R17.1.To, .int .i64 R17.1.At], .own Y12 (lc 30 R10.1.List)]) [0, 0, 0, 0, 0, 0, 0, 0, 0, 0] (laws_eqIter_con R17.1 R10.1 Y62 Y12 R67 H68) kc13 rfl rfl ⟨(Can.own 2 rfl), (Can.own 9 rfl), trivial⟩) rfl rfl rfl (fun _ => ?_)
                      refine TO.y (Y.not rfl) rfl rfl rfl ?_
                      refine TO.y (Y.move rfl) rfl rfl rfl ?_
                      refine TO.ite (b := !R67) (fun H70 => ?_) (fun H70 => ?_)
                      · refine TO.off (Gd.at 4 false 109 (!R67) rfl rfl rfl (beq_tf H70)) rfl rfl ?_
                        refine TO.off (Gd.at 4 false 109 (!R67) rfl rfl rfl (beq_tf H70)) rfl rfl ?_
                        refine TO.off (Gd.at 4 false 109 (!R67) rfl rfl rfl (beq_tf H70)) rfl rfl ?_
                        refine TO.off (Gd.at 4 false 109 (!R67) rfl rfl rfl (beq_tf H70)) rfl rfl ?_
                        refine TO.y (Y.pick_t H70 rfl rfl) rfl rfl rfl ?_
                        refine TO.y (Y.move rfl) rfl rfl rfl ?_
                        refine TO.off (Gd.at 10 false 115 true rfl rfl rfl rfl) rfl rfl ?_
                        refine TO.off (Gd.at 10 false 115 true rfl rfl rfl rfl) rfl rfl ?_
                        refine TO.off (Gd.at 10 false 115 true rfl rfl rfl rfl) rfl rfl ?_
                        refine TO.y (Y.pick_t rfl rfl rfl) rfl rfl rfl ?_
                        refine TO.nil ?_
                        exact TE.jb_go () [8, 4] ⟨rfl, rfl, rfl, trivial⟩ rfl
                      · refine TO.y (Y.load_box (v := .agg #[strV R17.2.1.Key, strV R17.2.1.Val]) 0 kk30 rfl rfl rfl) (Gd.at 4 false 109 (!R67) rfl rfl rfl (beq_ff H70)) rfl rfl ?_
                        refine TO.y (Y.load_box (v := .agg #[strV R10.2.1.Key, strV R10.2.1.Val]) 7 kk30 rfl rfl rfl) (Gd.at 4 false 109 (!R67) rfl rfl rfl (beq_ff H70)) rfl rfl ?_
                        refine TO.bind fun R71 H72 => ?_
                        refine TO.ef (Ef.call (rest := [.box B64 30 [strV R17.2.1.Key, strV R17.2.1.Val], .box B63 28 [Y62, strV R17.1.From, strV R17.1.To, .int .i64 R17.1.At], .own Y62 (lc 30 R17.1.List), .own Y61 (lc 30 R7.List), .own Y19 (lc 30 R53.2), .box B1 24 [V_aX0, strV aX.From, strV aX.To, .int .i64 aX.At], .box B13 28 [Y12, strV R10.1.From, strV R10.1.To, .int .i64 R10.1.At], .box B14 30 [strV R10.2.1.Key, strV R10.2.1.Val], .box B20 28 [Y19, strV R17.1.From, strV R17.1.To, .int .i64 R17.1.At], .own Y12 (lc 30 R10.1.List)]) [0, 0, 0, 0, 0, 0, 0, 0, 0, 0] (laws_eqKV_con R17.2.1 R10.2.1  R71 H72) kc14 rfl rfl trivial) (Gd.at 4 false 109 (!R67) rfl rfl rfl (beq_ff H70)) rfl rfl (fun _ => ?_)
                        refine TO.y (Y.not rfl) (Gd.at 4 false 109 (!R67) rfl rfl rfl (beq_ff H70)) rfl rfl ?_
                        refine TO.y (Y.pick_f H70 rfl rfl) rfl rfl rfl ?_
                        refine TO.y (Y.move rfl) rfl rfl rfl ?_
                        refine TO.ite (b := !R71) (fun H74 => ?_) (fun H74 => ?_)
                        · refine TO.off (Gd.at 10 false 115 (!R71) rfl rfl rfl (beq_tf H74)) rfl rfl ?_
                          refine TO.off (Gd.at 10 false 115 (!R71) rfl rfl rfl (beq_tf H74)) rfl rfl ?_
                          refine TO.off (Gd.at 10 false 115 (!R71) rfl rfl rfl (beq_tf H74)) rfl rfl ?_
                          refine TO.y (Y.pick_t H74 rfl rfl) rfl rfl rfl ?_
                          refine TO.nil ?_
                          exact TE.jb_go () [8, 4] ⟨rfl, rfl, rfl, trivial⟩ rfl
                        · refine TO.y (Y.move rfl) (Gd.at 10 false 115 (!R71) rfl rfl rfl (beq_ff H74)) rfl rfl ?_
                          refine TO.y (Y.move rfl) (Gd.at 10 false 115 (!R71) rfl rfl rfl (beq_ff H74)) rfl rfl ?_
                          refine TO.y (Y.neb kb4 rfl rfl) (Gd.at 10 false 115 (!R71) rfl rfl rfl (beq_ff H74)) rfl rfl ?_
                          refine TO.y (Y.pick_f H74 rfl rfl) rfl rfl rfl ?_
                          refine TO.nil ?_
                          exact TE.jb_go () [8, 4] ⟨rfl, rfl, rfl, trivial⟩ rfl
                    · refine TE.next ?_
                      refine TW.cond rfl (fun H75 => ?_) (fun H75 => ?_)
                      · refine TW.seq ?_
                        refine TW.region ?_
                        refine TO.y (Y.assign rfl) rfl rfl rfl ?_
                        refine TO.nil ?_
                        refine TE.next ?_
                        refine TW.ret ?_
                        refine TE.then_ret ?_
                        exact TE.leaf fun _ _ hf_ hs_ => ret_any (rs := [.tmp 4]) (vs := [.bool false]) (.inl rfl) rfl ⟨rfl, trivial⟩ hf_ hs_ ⟨(), rfl, hs_.pulls [] rfl⟩
                      · refine TW.skip ?_
                        refine TE.next ?_
                        refine TW.seq ?_
                        refine TW.region ?_
                        refine TO.y (Y.assign rfl) rfl rfl rfl ?_
                        refine TO.nil ?_
                        refine TE.next ?_
                        refine TW.seq ?_
                        refine TW.region ?_
                        refine TO.y (Y.load_box (v := .agg #[Y19, strV R17.1.From, strV R17.1.To, .int .i64 R17.1.At]) 0 kk28 rfl rfl rfl) rfl rfl rfl ?_
                        refine TO.y (Y.move rfl) rfl rfl rfl ?_
                        refine TO.ef (Ef.call (rest := [.box B20 28 [Y19, strV R17.1.From, strV R17.1.To, .int .i64 R17.1.At], .own Y19 (lc 30 R53.2)]) [0, 0] (laws_heldIter_con ({ List := R53.2, From := R17.1.From, To := R17.1.To, At := R17.1.At : Iter }) (1 : Int) Y19 R56 H57) kc16 rfl rfl ⟨(Can.own 1 rfl), trivial⟩) rfl rfl rfl (fun _ => ?_)
                        refine TO.y (Y.assign rfl) rfl rfl rfl ?_
                        refine TO.nil ?_
                        refine TE.next ?_
                        refine TW.seq ?_
                        refine TW.seq ?_
                        refine TW.region ?_
                        refine TO.y (Y.move rfl) rfl rfl rfl ?_
                        refine TO.y (Y.lss rfl rfl) rfl rfl rfl ?_
                        refine TO.nil ?_
                        refine TE.next ?_
                        refine TW.cond rfl (fun H77 => ?_) (fun H77 => ?_)
                        · refine TW.seq ?_
                          refine TW.region ?_
                          refine TO.y (Y.assign rfl) rfl rfl rfl ?_
                          refine TO.nil ?_
                          refine TE.next ?_
                          refine TW.ret ?_
                          refine TE.then_ret ?_
                          exact TE.leaf fun _ _ hf_ hs_ => ret_any (rs := [.tmp 4]) (vs := [.bool false]) (.inl rfl) rfl ⟨rfl, trivial⟩ hf_ hs_ ⟨(), rfl, hs_.pulls [] rfl⟩
                        · refine TW.skip ?_
                          refine TE.next ?_
                          refine TW.seq ?_
                          refine TW.seq ?_
                          refine TW.region ?_
                          refine TO.y (Y.move rfl) rfl rfl rfl ?_
                          refine TO.y (Y.move rfl) rfl rfl rfl ?_
                          refine TO.y (Y.neq rfl rfl) rfl rfl rfl ?_
                          refine TO.nil ?_
                          refine TE.next ?_
                          refine TW.cond rfl (fun H78 => ?_) (fun H78 => ?_)
                          · refine TW.seq ?_
                            refine TW.region ?_
                            refine TO.y (Y.assign rfl) rfl rfl rfl ?_
                            refine TO.nil ?_
                            refine TE.next ?_
                            refine TW.ret ?_
                            refine TE.then_ret ?_
                            exact TE.leaf fun _ _ hf_ hs_ => ret_any (rs := [.tmp 4]) (vs := [.bool false]) (.inl rfl) rfl ⟨rfl, trivial⟩ hf_ hs_ ⟨(), rfl, hs_.pulls [] rfl⟩
                          · refine TW.skip ?_
                            refine TE.next ?_
                            refine TW.seq ?_
                            refine TW.region ?_
                            refine TO.y (Y.assign rfl) rfl rfl rfl ?_
                            refine TO.nil ?_
                            refine TE.next ?_
                            refine TW.ret ?_
                            exact TE.leaf fun _ _ hf_ hs_ => ret_any (rs := [.tmp 4]) (vs := [.bool true]) (.inl rfl) rfl ⟨rfl, trivial⟩ hf_ hs_ ⟨(), rfl, hs_.pulls [] rfl⟩

end Go.Proofs.Ytpfndjojoikkgab
