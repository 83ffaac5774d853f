/-
  The functions that a law reaches, each as a pure function, with the proof that the program computes it, and the step from a pure law to the given statement. Conditions: none.
-/
import Derived.Test.YtfanigbmjmiidaaP4
set_option linter.unusedVariables false
set_option maxRecDepth 100000
set_option maxHeartbeats 4000000
namespace Go.Proofs.Ytfanigbmjmiidaa
open Go Sl

/-- loop.example/g00950/laws.FnExactEngPut -/
noncomputable def laws_FnExactEngPut (aE : Eng) (aL : List Op) : Option Bool :=
  (laws_szEng aE (1048576 : Int)).bind fun R2 =>
  if (decide (R2 < (0 : Int))) = true then (some true)
  else ((laws_szOpS aL R2).bind fun R6 =>
  if (decide (R6 < (0 : Int))) = true then (some true)
  else ((laws_toEng aE).bind fun R10 =>
  (laws_toOpS aL).bind fun R13 =>
  (spec_EngPut R10 R13).bind fun R16 =>
  (impl_EngPut R10 R13).bind fun R23 =>
  ((laws_eqEng R23.1 R16.1).bind fun R29 =>
  if (!R29) = true then (some true)
  else (some (!(decide (R23.2 = R16.2))))).bind (fun (T27 : Bool) =>
  if T27 = true then (some false)
  else ((laws_eqEng R10 R10).bind fun R35 =>
  if (!R35) = true then (some false)
  else ((laws_eqOpS R13 R13).bind fun R40 =>
  if (!R40) = true then (some false)
  else ((laws_markEng R10 (1 : Int)).bind fun R44 =>
  (laws_markOpS R13 R44.1).bind fun R47 =>
  (if (decide (R47.1 < (0 : Int))) = true then (some true)
  else ((laws_eqEng R23.1 R16.1).bind fun R53 =>
  if (!R53) = true then (some true)
  else (some (!(decide (R23.2 = R16.2)))))).bind (fun (T50 : Bool) =>
  if T50 = true then (some false)
  else ((laws_markEng R23.1 (1 : Int)).bind fun R58 =>
  (laws_heldEng ({ Mem := R58.2.1, Tables := R58.2.2.1, Seq := R23.1.Seq, Snaps := R58.2.2.2 : Eng }) (1 : Int)).bind fun R61 =>
  if (decide (R61 < (0 : Int))) = true then (some false)
  else (if (!(decide (R61 = R58.1))) = true then (some false)
  else (((laws_eqEng R23.1 R16.1).bind fun R72 =>
  if (!R72) = true then (some true)
  else (some (!(decide (R23.2 = R16.2))))).bind (fun (T70 : Bool) =>
  if T70 = true then (some false)
  else (if (decide (R61 < (0 : Int))) = true then (some false)
  else (if (!(decide (R61 = R58.1))) = true then (some false)
  else (some true))))))))))))))

theorem laws_FnExactEngPut_con (aE : Eng) (aL : List Op) (V_aE0 : Value) (V_aE1 : Value) (V_aE3 : Value) (V_aL0 : Value) (r : Bool) (hm : laws_FnExactEngPut aE aL = some r) :
    Con Try.prog 3 [.agg #[V_aE0, V_aE1, .int .i64 aE.Seq, V_aE3], V_aL0] [] [(V_aE0, lc aE.Mem), (V_aE1, lc aE.Tables), (V_aE3, lc aE.Snaps), (V_aL0, lc aL)] (fun _ : Unit => .bool r) (fun _ => []) := by
  refine Con.intro (args := [.agg #[V_aE0, V_aE1, .int .i64 aE.Seq, V_aE3], V_aL0]) (n := 119) (val := fun r (_ : Unit) => .bool r) (post := fun _ _ => []) (m := laws_FnExactEngPut aE aL) Try.func3 rfl rfl rfl hm ?_
  intro w S hrd
  have HB_V_aE0 := hrd _ (.head _)
  have HB_V_aE1 := hrd _ (.tail _ (.head _))
  have HB_V_aE3 := hrd _ (.tail _ (.tail _ (.head _)))
  have HB_V_aL0 := hrd _ (.tail _ (.tail _ (.tail _ (.head _))))
  clear hrd
  unfold laws_FnExactEngPut
  refine TW.seq ?_
  refine TW.region ?_
  refine TO.ef (Ef.box rfl (Cel.agg ⟨(One.can (Base.can HB_V_aE0)), (One.can (Base.can HB_V_aE1)), (One.plain rfl), (One.can (Base.can HB_V_aE3)), trivial⟩)) rfl rfl rfl (fun B1 => ?_)
  refine TO.y (Y.assign rfl) rfl rfl rfl ?_
  refine TO.nil ?_
  refine TE.next ?_
  refine TW.seq ?_
  refine TW.region ?_
  refine TO.y (Y.assign rfl) rfl rfl rfl ?_
  refine TO.nil ?_
  refine TE.next ?_
  refine TW.seq ?_
  refine TW.region ?_
  refine TO.y (Y.load_box (v := .agg #[V_aE0, V_aE1, .int .i64 aE.Seq, V_aE3]) 0 kk26 rfl rfl rfl) rfl rfl rfl ?_
  refine TO.y (Y.move rfl) rfl rfl rfl ?_
  refine TO.bind fun R2 H3 => ?_
  refine TO.ef (Ef.call (rest := [.box B1 26 [V_aE0, V_aE1, .int .i64 aE.Seq, V_aE3]]) [0] (laws_szEng_con aE (1048576 : Int) V_aE0 V_aE1 V_aE3 R2 H3) kc5 rfl rfl ⟨(Base.can HB_V_aE0), (Base.can HB_V_aE1), (Base.can HB_V_aE3), trivial⟩) rfl rfl rfl (fun _ => ?_)
  refine TO.y (Y.assign rfl) rfl rfl rfl ?_
  refine TO.nil ?_
  refine TE.next ?_
  refine TW.seq ?_
  refine TW.seq ?_
  refine TW.region ?_
  refine TO.y (Y.move rfl) rfl rfl rfl ?_
  refine TO.y (Y.lss rfl rfl) rfl rfl rfl ?_
  refine TO.nil ?_
  refine TE.next ?_
  refine TW.cond rfl (fun H5 => ?_) (fun H5 => ?_)
  · refine TW.seq ?_
    refine TW.region ?_
    refine TO.y (Y.assign rfl) rfl rfl rfl ?_
    refine TO.nil ?_
    refine TE.next ?_
    refine TW.ret ?_
    refine TE.then_ret ?_
    exact TE.leaf fun _ _ hf_ hs_ => ret_any (rs := [.tmp 4]) (vs := [.bool true]) (.inl rfl) rfl ⟨rfl, trivial⟩ hf_ hs_ ⟨(), rfl, hs_.pulls [] rfl⟩
  · refine TW.skip ?_
    refine TE.next ?_
    refine TW.seq ?_
    refine TW.region ?_
    refine TO.y (Y.move rfl) rfl rfl rfl ?_
    refine TO.y (Y.move rfl) rfl rfl rfl ?_
    refine TO.bind fun R6 H7 => ?_
    refine TO.ef (Ef.call (rest := [.box B1 26 [V_aE0, V_aE1, .int .i64 aE.Seq, V_aE3]]) [0] (laws_szOpS_con aL R2 V_aL0 R6 H7) kc6 rfl rfl ⟨(Base.can HB_V_aL0), trivial⟩) rfl rfl rfl (fun _ => ?_)
    refine TO.y (Y.assign rfl) rfl rfl rfl ?_
    refine TO.nil ?_
    refine TE.next ?_
    refine TW.seq ?_
    refine TW.seq ?_
    refine TW.region ?_
    refine TO.y (Y.move rfl) rfl rfl rfl ?_
    refine TO.y (Y.lss rfl rfl) rfl rfl rfl ?_
    refine TO.nil ?_
    refine TE.next ?_
    refine TW.cond rfl (fun H9 => ?_) (fun H9 => ?_)
    · refine TW.seq ?_
      refine TW.region ?_
      refine TO.y (Y.assign rfl) rfl rfl rfl ?_
      refine TO.nil ?_
      refine TE.next ?_
      refine TW.ret ?_
      refine TE.then_ret ?_
      exact TE.leaf fun _ _ hf_ hs_ => ret_any (rs := [.tmp 4]) (vs := [.bool true]) (.inl rfl) rfl ⟨rfl, trivial⟩ hf_ hs_ ⟨(), rfl, hs_.pulls [] rfl⟩
    · refine TW.skip ?_
      refine TE.next ?_
      refine TW.seq ?_
      refine TW.region ?_
      refine TO.y (Y.load_box (v := .agg #[V_aE0, V_aE1, .int .i64 aE.Seq, V_aE3]) 0 kk26 rfl rfl rfl) rfl rfl rfl ?_
      refine TO.bind fun R10 H11 => ?_
      refine TO.ef (Ef.call (rest := [.box B1 26 [V_aE0, V_aE1, .int .i64 aE.Seq, V_aE3]]) [0] (laws_toEng_con aE V_aE0 V_aE1 V_aE3 R10 H11) kc8 rfl rfl ⟨(Base.can HB_V_aE0), (Base.can HB_V_aE1), (Base.can HB_V_aE3), trivial⟩) rfl rfl rfl (fun Y12 => ?_)
      refine TO.y (Y.move rfl) rfl rfl rfl ?_
      refine TO.bind fun R13 H14 => ?_
      refine TO.ef (Ef.call (rest := [.own Y12.1 (lc R10.Mem), .own Y12.2.1 (lc R10.Tables), .own Y12.2.2 (lc R10.Snaps), .box B1 26 [V_aE0, V_aE1, .int .i64 aE.Seq, V_aE3]]) [0, 0, 0, 0] (laws_toOpS_con aL V_aL0 R13 H14) kc9 rfl rfl ⟨(Base.can HB_V_aL0), trivial⟩) rfl rfl rfl (fun Y15 => ?_)
      refine TO.bind fun R16 H17 => ?_
      refine TO.ef (Ef.call (rest := [.own Y15 (lc R13), .own Y12.1 (lc R10.Mem), .own Y12.2.1 (lc R10.Tables), .own Y12.2.2 (lc R10.Snaps), .box B1 26 [V_aE0, V_aE1, .int .i64 aE.Seq, V_aE3]]) [0, 0, 0, 0, 0] (spec_EngPut_con R10 R13 Y12.1 Y12.2.1 Y12.2.2 Y15 R16 H17) kc7 rfl rfl ⟨(Can.own 1 rfl), (Can.own 2 rfl), (Can.own 3 rfl), (Can.own 0 rfl), trivial⟩) rfl rfl rfl (fun Y18 => ?_)
      refine TO.y (Y.move rfl) rfl rfl rfl ?_
      refine TO.y (Y.extract rfl rfl) rfl rfl rfl ?_
      refine TO.y (Y.extract rfl rfl) rfl rfl rfl ?_
      refine TO.ef (Ef.alloc kz33 rfl) rfl rfl rfl (fun B19 => ?_)
      refine TO.ef0 (Ef.store_box (us := [Y18.1, Y18.2.1, .int .i64 R16.1.Seq, Y18.2.2]) (vs' := [Y18.1, Y18.2.1, .int .i64 R16.1.Seq, Y18.2.2]) (is' := [.box B19 33 [Y18.1, Y18.2.1, .int .i64 R16.1.Seq, Y18.2.2], .own Y18.1 (lc R16.1.Mem), .own Y18.2.1 (lc R16.1.Tables), .own Y18.2.2 (lc R16.1.Snaps), .own Y15 (lc R13), .own Y12.1 (lc R10.Mem), .own Y12.2.1 (lc R10.Tables), .own Y12.2.2 (lc R10.Snaps), .box B1 26 [V_aE0, V_aE1, .int .i64 aE.Seq, V_aE3]]) 0 kk33 rfl rfl rfl (Cel.agg ⟨(One.can (Can.own 1 rfl)), (One.can (Can.own 2 rfl)), (One.plain rfl), (One.can (Can.own 3 rfl)), trivial⟩) rfl rfl rfl rfl) rfl rfl (fun _ => ?_)
      refine TO.y (Y.assign rfl) rfl rfl rfl ?_
      refine TO.nil ?_
      refine TE.next ?_
      refine TW.seq ?_
      refine TW.region ?_
      refine TO.y (Y.load_box (v := .agg #[V_aE0, V_aE1, .int .i64 aE.Seq, V_aE3]) 8 kk26 rfl rfl rfl) rfl rfl rfl ?_
      refine TO.ef (Ef.call (rest := [.box B19 33 [Y18.1, Y18.2.1, .int .i64 R16.1.Seq, Y18.2.2], .own Y18.1 (lc R16.1.Mem), .own Y18.2.1 (lc R16.1.Tables), .own Y18.2.2 (lc R16.1.Snaps), .own Y15 (lc R13), .own Y12.1 (lc R10.Mem), .own Y12.2.1 (lc R10.Tables), .own Y12.2.2 (lc R10.Snaps), .box B1 26 [V_aE0, V_aE1, .int .i64 aE.Seq, V_aE3]]) [0, 0, 0, 0, 0, 0, 0, 0, 0] (laws_toEng_con aE V_aE0 V_aE1 V_aE3 R10 H11) kc8 rfl rfl ⟨(Base.can HB_V_aE0), (Base.can HB_V_aE1), (Base.can HB_V_aE3), trivial⟩) rfl rfl rfl (fun Y20 => ?_)
      refine TO.ef (Ef.alloc kz33 rfl) rfl rfl rfl (fun B21 => ?_)
      refine TO.ef0 (Ef.store_box (us := [Y20.1, Y20.2.1, .int .i64 R10.Seq, Y20.2.2]) (vs' := [Y20.1, Y20.2.1, .int .i64 R10.Seq, Y20.2.2]) (is' := [.box B21 33 [Y20.1, Y20.2.1, .int .i64 R10.Seq, Y20.2.2], .own Y20.1 (lc R10.Mem), .own Y20.2.1 (lc R10.Tables), .own Y20.2.2 (lc R10.Snaps), .box B19 33 [Y18.1, Y18.2.1, .int .i64 R16.1.Seq, Y18.2.2], .own Y18.1 (lc R16.1.Mem), .own Y18.2.1 (lc R16.1.Tables), .own Y18.2.2 (lc R16.1.Snaps), .own Y15 (lc R13), .own Y12.1 (lc R10.Mem), .own Y12.2.1 (lc R10.Tables), .own Y12.2.2 (lc R10.Snaps), .box B1 26 [V_aE0, V_aE1, .int .i64 aE.Seq, V_aE3]]) 0 kk33 rfl rfl rfl (Cel.agg ⟨(One.can (Can.own 1 rfl)), (One.can (Can.own 2 rfl)), (One.plain rfl), (One.can (Can.own 3 rfl)), trivial⟩) rfl rfl rfl rfl) rfl rfl (fun _ => ?_)
      refine TO.nil ?_
      refine TE.next ?_
      refine TW.seq ?_
      refine TW.region ?_
      refine TO.y (Y.move rfl) rfl rfl rfl ?_
      refine TO.ef (Ef.call (rest := [.box B21 33 [Y20.1, Y20.2.1, .int .i64 R10.Seq, Y20.2.2], .own Y20.1 (lc R10.Mem), .own Y20.2.1 (lc R10.Tables), .own Y20.2.2 (lc R10.Snaps), .box B19 33 [Y18.1, Y18.2.1, .int .i64 R16.1.Seq, Y18.2.2], .own Y18.1 (lc R16.1.Mem), .own Y18.2.1 (lc R16.1.Tables), .own Y18.2.2 (lc R16.1.Snaps), .own Y15 (lc R13), .own Y12.1 (lc R10.Mem), .own Y12.2.1 (lc R10.Tables), .own Y12.2.2 (lc R10.Snaps), .box B1 26 [V_aE0, V_aE1, .int .i64 aE.Seq, V_aE3]]) [0, 0, 0, 0, 0, 0, 0, 0, 0, 0, 0, 0, 0] (laws_toOpS_con aL V_aL0 R13 H14) kc9 rfl rfl ⟨(Base.can HB_V_aL0), trivial⟩) rfl rfl rfl (fun Y22 => ?_)
      refine TO.y (Y.assign rfl) rfl rfl rfl ?_
      refine TO.nil ?_
      refine TE.next ?_
      refine TW.seq ?_
      refine TW.region ?_
      refine TO.y (Y.load_box (v := .agg #[Y20.1, Y20.2.1, .int .i64 R10.Seq, Y20.2.2]) 1 kk33 rfl rfl rfl) rfl rfl rfl ?_
      refine TO.y (Y.move rfl) rfl rfl rfl ?_
      refine TO.bind fun R23 H24 => ?_
      refine TO.ef (Ef.call (rest := [.own Y22 (lc R13), .box B21 33 [Y20.1, Y20.2.1, .int .i64 R10.Seq, Y20.2.2], .own Y20.1 (lc R10.Mem), .own Y20.2.1 (lc R10.Tables), .own Y20.2.2 (lc R10.Snaps), .box B19 33 [Y18.1, Y18.2.1, .int .i64 R16.1.Seq, Y18.2.2], .own Y18.1 (lc R16.1.Mem), .own Y18.2.1 (lc R16.1.Tables), .own Y18.2.2 (lc R16.1.Snaps), .own Y15 (lc R13), .own Y12.1 (lc R10.Mem), .own Y12.2.1 (lc R10.Tables), .own Y12.2.2 (lc R10.Snaps), .box B1 26 [V_aE0, V_aE1, .int .i64 aE.Seq, V_aE3]]) [0, 0, 0, 0, 0, 0, 0, 0, 0, 0, 0, 0, 0, 0] (impl_EngPut_con R10 R13 Y20.1 Y20.2.1 Y20.2.2 Y22 R23 H24) kc10 rfl rfl ⟨(Can.own 2 rfl), (Can.own 3 rfl), (Can.own 4 rfl), (Can.own 0 rfl), trivial⟩) rfl rfl rfl (fun Y25 => ?_)
      refine TO.y (Y.move rfl) rfl rfl rfl ?_
      refine TO.y (Y.extract rfl rfl) rfl rfl rfl ?_
      refine TO.y (Y.extract rfl rfl) rfl rfl rfl ?_
      refine TO.ef (Ef.alloc kz33 rfl) rfl rfl rfl (fun B26 => ?_)
      refine TO.ef0 (Ef.store_box (us := [Y25.1, Y25.2.1, .int .i64 R23.1.Seq, Y25.2.2]) (vs' := [Y25.1, Y25.2.1, .int .i64 R23.1.Seq, Y25.2.2]) (is' := [.box B26 33 [Y25.1, Y25.2.1, .int .i64 R23.1.Seq, Y25.2.2], .own Y25.1 (lc R23.1.Mem), .own Y25.2.1 (lc R23.1.Tables), .own Y25.2.2 (lc R23.1.Snaps), .own Y22 (lc R13), .box B21 33 [Y20.1, Y20.2.1, .int .i64 R10.Seq, Y20.2.2], .own Y20.1 (lc R10.Mem), .own Y20.2.1 (lc R10.Tables), .own Y20.2.2 (lc R10.Snaps), .box B19 33 [Y18.1, Y18.2.1, .int .i64 R16.1.Seq, Y18.2.2], .own Y18.1 (lc R16.1.Mem), .own Y18.2.1 (lc R16.1.Tables), .own Y18.2.2 (lc R16.1.Snaps), .own Y15 (lc R13), .own Y12.1 (lc R10.Mem), .own Y12.2.1 (lc R10.Tables), .own Y12.2.2 (lc R10.Snaps), .box B1 26 [V_aE0, V_aE1, .int .i64 aE.Seq, V_aE3]]) 0 kk33 rfl rfl rfl (Cel.agg ⟨(One.can (Can.own 1 rfl)), (One.can (Can.own 2 rfl)), (One.plain rfl), (One.can (Can.own 3 rfl)), trivial⟩) rfl rfl rfl rfl) rfl rfl (fun _ => ?_)
      refine TO.y (Y.assign rfl) rfl rfl rfl ?_
      refine TO.nil ?_
      refine TE.next ?_
      refine TW.seq ?_
      refine TW.seq ?_
      refine TW.joinBX (τ := Bool) (X := Unit) (fun T _ => [(1, V_aL0), (2, .pointer (some ⟨B1, 0, none⟩)), (6, .pointer (some ⟨B19, 0, none⟩)), (7, .bool R16.2), (8, .pointer (some ⟨B21, 0, none⟩)), (9, Y22), (10, .pointer (some ⟨B26, 0, none⟩)), (11, .bool R23.2), (53, .bool T)]) (fun _ _ => [.box B1 26 [V_aE0, V_aE1, .int .i64 aE.Seq, V_aE3], .box B19 33 [Y18.1, Y18.2.1, .int .i64 R16.1.Seq, Y18.2.2], .box B21 33 [Y20.1, Y20.2.1, .int .i64 R10.Seq, Y20.2.2], .box B26 33 [Y25.1, Y25.2.1, .int .i64 R23.1.Seq, Y25.2.2], .own Y18.1 (lc R16.1.Mem), .own Y18.2.1 (lc R16.1.Tables), .own Y18.2.2 (lc R16.1.Snaps), .own Y20.1 (lc R10.Mem), .own Y20.2.1 (lc R10.Tables), .own Y20.2.2 (lc R10.Snaps), .own Y22 (lc R13), .own Y25.1 (lc R23.1.Mem), .own Y25.2.1 (lc R23.1.Tables), .own Y25.2.2 (lc R23.1.Snaps)]) ?_ (fun T27 X28 => ?_)
      · refine TW.region ?_
        refine TO.y (Y.load_box (v := .agg #[Y25.1, Y25.2.1, .int .i64 R23.1.Seq, Y25.2.2]) 0 kk33 rfl rfl rfl) rfl rfl rfl ?_
        refine TO.y (Y.load_box (v := .agg #[Y18.1, Y18.2.1, .int .i64 R16.1.Seq, Y18.2.2]) 9 kk33 rfl rfl rfl) rfl rfl rfl ?_
        refine TO.bind fun R29 H30 => ?_
        refine TO.ef (Ef.call (rest := [.box B26 33 [Y25.1, Y25.2.1, .int .i64 R23.1.Seq, Y25.2.2], .own Y25.1 (lc R23.1.Mem), .own Y25.2.1 (lc R23.1.Tables), .own Y25.2.2 (lc R23.1.Snaps), .own Y22 (lc R13), .box B21 33 [Y20.1, Y20.2.1, .int .i64 R10.Seq, Y20.2.2], .own Y20.1 (lc R10.Mem), .own Y20.2.1 (lc R10.Tables), .own Y20.2.2 (lc R10.Snaps), .box B19 33 [Y18.1, Y18.2.1, .int .i64 R16.1.Seq, Y18.2.2], .own Y18.1 (lc R16.1.Mem), .own Y18.2.1 (lc R16.1.Tables), .own Y18.2.2 (lc R16.1.Snaps), .own Y15 (lc R13), .own Y12.1 (lc R10.Mem), .own Y12.2.1 (lc R10.Tables), .own Y12.2.2 (lc R10.Snaps), .box B1 26 [V_aE0, V_aE1, .int .i64 aE.Seq, V_aE3]]) [0, 0, 0, 0, 0, 0, 0, 0, 0, 0, 0, 0, 0, 0, 0, 0, 0, 0] (laws_eqEng_con R23.1 R16.1 Y25.1 Y25.2.1 Y25.2.2 Y18.1 Y18.2.1 Y18.2.2 R29 H30) kc11 rfl rfl ⟨(Can.own 1 rfl), (Can.own 2 rfl), (Can.own 3 rfl), (Can.own 10 rfl), (Can.own 11 rfl), (Can.own 12 rfl), trivial⟩) rfl rfl rfl (fun _ => ?_)
        refine TO.y (Y.not rfl) rfl rfl rfl ?_
        refine TO.y (Y.move rfl) rfl rfl rfl ?_
        refine TO.ite (b := !R29) (fun H32 => ?_) (fun H32 => ?_)
        · refine TO.off (Gd.at 4 false 49 (!R29) rfl rfl rfl (beq_tf H32)) rfl rfl ?_
          refine TO.off (Gd.at 4 false 49 (!R29) rfl rfl rfl (beq_tf H32)) rfl rfl ?_
          refine TO.off (Gd.at 4 false 49 (!R29) rfl rfl rfl (beq_tf H32)) rfl rfl ?_
          refine TO.y (Y.pick_t H32 rfl rfl) rfl rfl rfl ?_
          refine TO.nil ?_
          exact TE.jb_go () [17, 9, 5, 0, 7, 7, 7, 4, 4, 4, 3, 0, 0, 0] ⟨rfl, rfl, rfl, rfl, rfl, rfl, rfl, rfl, rfl, trivial⟩ rfl
        · refine TO.y (Y.move rfl) (Gd.at 4 false 49 (!R29) rfl rfl rfl (beq_ff H32)) rfl rfl ?_
          refine TO.y (Y.move rfl) (Gd.at 4 false 49 (!R29) rfl rfl rfl (beq_ff H32)) rfl rfl ?_
          refine TO.y (Y.neb kb4 rfl rfl) (Gd.at 4 false 49 (!R29) rfl rfl rfl (beq_ff H32)) rfl rfl ?_
          refine TO.y (Y.pick_f H32 rfl rfl) rfl rfl rfl ?_
          refine TO.nil ?_
          exact TE.jb_go () [17, 9, 5, 0, 7, 7, 7, 4, 4, 4, 3, 0, 0, 0] ⟨rfl, rfl, rfl, rfl, rfl, rfl, rfl, rfl, rfl, trivial⟩ rfl
      · refine TE.next ?_
        refine TW.cond rfl (fun H33 => ?_) (fun H33 => ?_)
        · refine TW.seq ?_
          refine TW.region ?_
          refine TO.y (Y.assign rfl) rfl rfl rfl ?_
          refine TO.nil ?_
          refine TE.next ?_
          refine TW.ret ?_
          refine TE.then_ret ?_
          exact TE.leaf fun _ _ hf_ hs_ => ret_any (rs := [.tmp 4]) (vs := [.bool false]) (.inl rfl) rfl ⟨rfl, trivial⟩ hf_ hs_ ⟨(), rfl, hs_.pulls [] rfl⟩
        · refine TW.skip ?_
          refine TE.next ?_
          refine TW.seq ?_
          refine TW.seq ?_
          refine TW.draw (isH := [.box B1 26 [V_aE0, V_aE1, .int .i64 aE.Seq, V_aE3], .box B19 33 [Y18.1, Y18.2.1, .int .i64 R16.1.Seq, Y18.2.2], .box B21 33 [Y20.1, Y20.2.1, .int .i64 R10.Seq, Y20.2.2], .box B26 33 [Y25.1, Y25.2.1, .int .i64 R23.1.Seq, Y25.2.2], .own Y18.1 (lc R16.1.Mem), .own Y18.2.1 (lc R16.1.Tables), .own Y18.2.2 (lc R16.1.Snaps), .own Y20.1 (lc R10.Mem), .own Y20.2.1 (lc R10.Tables), .own Y20.2.2 (lc R10.Snaps), .own Y22 (lc R13), .own Y25.1 (lc R23.1.Mem), .own Y25.2.1 (lc R23.1.Tables), .own Y25.2.2 (lc R23.1.Snaps)]) hMix ?_
          refine TA.y (listed' := #[true, false, false, false, false]) 0 [0, 0, 0, 0, 0, 0, 0, 0, 0, 0, 0, 0, 0, 0] rfl (Y.load_box (v := .agg #[Y20.1, Y20.2.1, .int .i64 R10.Seq, Y20.2.2]) 2 kk33 rfl rfl rfl) rfl rfl rfl (by kernel_rfl) (by kernel_rfl) (by kernel_rfl) rfl rfl ?_
          refine TA.y (listed' := #[true, true, false, false, false]) 1 [0, 0, 0, 0, 0, 0, 0, 0, 0, 0, 0, 0, 0, 0] rfl (Y.load_box (v := .agg #[V_aE0, V_aE1, .int .i64 aE.Seq, V_aE3]) 0 kk26 rfl rfl rfl) rfl rfl rfl (by kernel_rfl) (by kernel_rfl) (by kernel_rfl) rfl rfl ?_
          refine TA.one 2 (by kernel_rfl) ?_
          refine TX.ef (listed' := #[true, true, true, false, false]) [3, 3, 3, 3, 3, 3, 3, 3, 3, 3, 3, 3, 3, 3] rfl (Ef.call (rest := [.box B1 26 [V_aE0, V_aE1, .int .i64 aE.Seq, V_aE3], .box B19 33 [Y18.1, Y18.2.1, .int .i64 R16.1.Seq, Y18.2.2], .box B21 33 [Y20.1, Y20.2.1, .int .i64 R10.Seq, Y20.2.2], .box B26 33 [Y25.1, Y25.2.1, .int .i64 R23.1.Seq, Y25.2.2], .own Y18.1 (lc R16.1.Mem), .own Y18.2.1 (lc R16.1.Tables), .own Y18.2.2 (lc R16.1.Snaps), .own Y20.1 (lc R10.Mem), .own Y20.2.1 (lc R10.Tables), .own Y20.2.2 (lc R10.Snaps), .own Y22 (lc R13), .own Y25.1 (lc R23.1.Mem), .own Y25.2.1 (lc R23.1.Tables), .own Y25.2.2 (lc R23.1.Snaps)]) [0, 0, 0, 0, 0, 0, 0, 0, 0, 0, 0, 0, 0, 0] (laws_toEng_con aE V_aE0 V_aE1 V_aE3 R10 H11) kc8 rfl rfl ⟨(Base.can HB_V_aE0), (Base.can HB_V_aE1), (Base.can HB_V_aE3), trivial⟩) rfl rfl rfl rfl (fun _ => rfl) (fun Y34 => ?_)
          refine TA.bind fun R35 H36 => ?_
          refine TA.one 3 (by kernel_rfl) ?_
          refine TX.ef (listed' := #[true, true, true, true, false]) [3, 3, 3, 3, 3, 3, 3, 3, 3, 3, 3, 3, 3, 3] rfl (Ef.call (rest := [.own Y34.1 (lc R10.Mem), .own Y34.2.1 (lc R10.Tables), .own Y34.2.2 (lc R10.Snaps), .box B1 26 [V_aE0, V_aE1, .int .i64 aE.Seq, V_aE3], .box B19 33 [Y18.1, Y18.2.1, .int .i64 R16.1.Seq, Y18.2.2], .box B21 33 [Y20.1, Y20.2.1, .int .i64 R10.Seq, Y20.2.2], .box B26 33 [Y25.1, Y25.2.1, .int .i64 R23.1.Seq, Y25.2.2], .own Y18.1 (lc R16.1.Mem), .own Y18.2.1 (lc R16.1.Tables), .own Y18.2.2 (lc R16.1.Snaps), .own Y20.1 (lc R10.Mem), .own Y20.2.1 (lc R10.Tables), .own Y20.2.2 (lc R10.Snaps), .own Y22 (lc R13), .own Y25.1 (lc R23.1.Mem), .own Y25.2.1 (lc R23.1.Tables), .own Y25.2.2 (lc R23.1.Snaps)]) [0, 0, 0, 0, 0, 0, 0, 0, 0, 0, 0, 0, 0, 0, 0, 0, 0] (laws_eqEng_con R10 R10 Y20.1 Y20.2.1 Y20.2.2 Y34.1 Y34.2.1 Y34.2.2 R35 H36) kc11 rfl rfl ⟨(Can.own 10 rfl), (Can.own 11 rfl), (Can.own 12 rfl), (Can.own 0 rfl), (Can.own 1 rfl), (Can.own 2 rfl), trivial⟩) rfl rfl rfl rfl (fun _ => rfl) (fun _ => ?_)
          refine TA.y (listed' := #[true, true, true, true, true]) 4 [3, 3, 3, 3, 3, 3, 3, 3, 3, 3, 3, 3, 3, 3] rfl (Y.not rfl) rfl rfl rfl (by kernel_rfl) (by kernel_rfl) (by kernel_rfl) rfl rfl ?_
          refine TA.nil (by kernel_rfl) ?_
          refine TE.next ?_
          refine TW.cond rfl (fun H38 => ?_) (fun H38 => ?_)
          · refine TW.seq ?_
            refine TW.region ?_
            refine TO.y (Y.assign rfl) rfl rfl rfl ?_
            refine TO.nil ?_
            refine TE.next ?_
            refine TW.ret ?_
            refine TE.then_ret ?_
            exact TE.leaf fun _ _ hf_ hs_ => ret_any (rs := [.tmp 4]) (vs := [.bool false]) (.inl rfl) rfl ⟨rfl, trivial⟩ hf_ hs_ ⟨(), rfl, hs_.pulls [] rfl⟩
          · refine TW.skip ?_
            refine TE.next ?_
            refine TW.seq ?_
            refine TW.seq ?_
            refine TW.region ?_
            refine TO.y (Y.move rfl) rfl rfl rfl ?_
            refine TO.y (Y.move rfl) rfl rfl rfl ?_
            refine TO.ef (Ef.call (rest := [.own Y34.1 (lc R10.Mem), .own Y34.2.1 (lc R10.Tables), .own Y34.2.2 (lc R10.Snaps), .box B1 26 [V_aE0, V_aE1, .int .i64 aE.Seq, V_aE3], .box B19 33 [Y18.1, Y18.2.1, .int .i64 R16.1.Seq, Y18.2.2], .box B21 33 [Y20.1, Y20.2.1, .int .i64 R10.Seq, Y20.2.2], .box B26 33 [Y25.1, Y25.2.1, .int .i64 R23.1.Seq, Y25.2.2], .own Y18.1 (lc R16.1.Mem), .own Y18.2.1 (lc R16.1.Tables), .own Y18.2.2 (lc R16.1.Snaps), .own Y20.1 (lc R10.Mem), .own Y20.2.1 (lc R10.Tables), .own Y20.2.2 (lc R10.Snaps), .own Y22 (lc R13), .own Y25.1 (lc R23.1.Mem), .own Y25.2.1 (lc R23.1.Tables), .own Y25.2.2 (lc R23.1.Snaps)]) [0, 0, 0, 0, 0, 0, 0, 0, 0, 0, 0, 0, 0, 0, 0, 0, 0] (laws_toOpS_con aL V_aL0 R13 H14) kc9 rfl rfl ⟨(Base.can HB_V_aL0), trivial⟩) rfl rfl rfl (fun Y39 => ?_)
            refine TO.bind fun R40 H41 => ?_
            refine TO.ef (Ef.call (rest := [.own Y39 (lc R13), .own Y34.1 (lc R10.Mem), .own Y34.2.1 (lc R10.Tables), .own Y34.2.2 (lc R10.Snaps), .box B1 26 [V_aE0, V_aE1, .int .i64 aE.Seq, V_aE3], .box B19 33 [Y18.1, Y18.2.1, .int .i64 R16.1.Seq, Y18.2.2], .box B21 33 [Y20.1, Y20.2.1, .int .i64 R10.Seq, Y20.2.2], .box B26 33 [Y25.1, Y25.2.1, .int .i64 R23.1.Seq, Y25.2.2], .own Y18.1 (lc R16.1.Mem), .own Y18.2.1 (lc R16.1.Tables), .own Y18.2.2 (lc R16.1.Snaps), .own Y20.1 (lc R10.Mem), .own Y20.2.1 (lc R10.Tables), .own Y20.2.2 (lc R10.Snaps), .own Y22 (lc R13), .own Y25.1 (lc R23.1.Mem), .own Y25.2.1 (lc R23.1.Tables), .own Y25.2.2 (lc R23.1.Snaps)]) [0, 0, 0, 0, 0, 0, 0, 0, 0, 0, 0, 0, 0, 0, 0, 0, 0, 0] (laws_eqOpS_con R13 R13 Y22 Y39 R40 H41) kc12 rfl rfl ⟨(Can.own 14 rfl), (Can.own 0 rfl), trivial⟩) rfl rfl rfl (fun _ => ?_)
            refine TO.y (Y.not rfl) rfl rfl rfl ?_
            refine TO.nil ?_
            refine TE.next ?_
            refine TW.cond rfl (fun H43 => ?_) (fun H43 => ?_)
            · refine TW.seq ?_
              refine TW.region ?_
              refine TO.y (Y.assign rfl) rfl rfl rfl ?_
              refine TO.nil ?_
              refine TE.next ?_
              refine TW.ret ?_
              refine TE.then_ret ?_
              exact TE.leaf fun _ _ hf_ hs_ => ret_any (rs := [.tmp 4]) (vs := [.bool false]) (.inl rfl) rfl ⟨rfl, trivial⟩ hf_ hs_ ⟨(), rfl, hs_.pulls [] rfl⟩
            · refine TW.skip ?_
              refine TE.next ?_
              refine TW.seq ?_
              refine TW.region ?_
              refine TO.y (Y.assign rfl) rfl rfl rfl ?_
              refine TO.nil ?_
              refine TE.next ?_
              refine TW.seq ?_
              refine TW.region ?_
              refine TO.y (Y.load_box (v := .agg #[Y20.1, Y20.2.1, .int .i64 R10.Seq, Y20.2.2]) 6 kk33 rfl rfl rfl) rfl rfl rfl ?_
              refine TO.y (Y.move rfl) rfl rfl rfl ?_
              refine TO.bind fun R44 H45 => ?_
              refine TO.ef (Ef.call (rest := [.own Y39 (lc R13), .own Y34.1 (lc R10.Mem), .own Y34.2.1 (lc R10.Tables), .own Y34.2.2 (lc R10.Snaps), .box B1 26 [V_aE0, V_aE1, .int .i64 aE.Seq, V_aE3], .box B19 33 [Y18.1, Y18.2.1, .int .i64 R16.1.Seq, Y18.2.2], .box B21 33 [Y20.1, Y20.2.1, .int .i64 R10.Seq, Y20.2.2], .box B26 33 [Y25.1, Y25.2.1, .int .i64 R23.1.Seq, Y25.2.2], .own Y18.1 (lc R16.1.Mem), .own Y18.2.1 (lc R16.1.Tables), .own Y18.2.2 (lc R16.1.Snaps), .own Y22 (lc R13), .own Y25.1 (lc R23.1.Mem), .own Y25.2.1 (lc R23.1.Tables), .own Y25.2.2 (lc R23.1.Snaps)]) [11, 11, 11, 0, 0, 0, 0, 0, 0, 0, 0, 0, 0, 0, 0, 0, 0, 0] (laws_markEng_con R10 (1 : Int) Y20.1 Y20.2.1 Y20.2.2 R44 H45) kc13 rfl rfl trivial) rfl rfl rfl (fun _ => ?_)
              refine TO.y (Y.assign rfl) rfl rfl rfl ?_
              refine TO.nil ?_
              refine TE.next ?_
              refine TW.seq ?_
              refine TW.region ?_
              refine TO.y (Y.move rfl) rfl rfl rfl ?_
              refine TO.y (Y.move rfl) rfl rfl rfl ?_
              refine TO.bind fun R47 H48 => ?_
              refine TO.ef (Ef.call (rest := [.own Y20.1 (lc R44.2.1), .own Y20.2.1 (lc R44.2.2.1), .own Y20.2.2 (lc R44.2.2.2), .own Y39 (lc R13), .own Y34.1 (lc R10.Mem), .own Y34.2.1 (lc R10.Tables), .own Y34.2.2 (lc R10.Snaps), .box B1 26 [V_aE0, V_aE1, .int .i64 aE.Seq, V_aE3], .box B19 33 [Y18.1, Y18.2.1, .int .i64 R16.1.Seq, Y18.2.2], .box B21 33 [Y20.1, Y20.2.1, .int .i64 R10.Seq, Y20.2.2], .box B26 33 [Y25.1, Y25.2.1, .int .i64 R23.1.Seq, Y25.2.2], .own Y18.1 (lc R16.1.Mem), .own Y18.2.1 (lc R16.1.Tables), .own Y18.2.2 (lc R16.1.Snaps), .own Y25.1 (lc R23.1.Mem), .own Y25.2.1 (lc R23.1.Tables), .own Y25.2.2 (lc R23.1.Snaps)]) [14, 0, 0, 0, 0, 0, 0, 0, 0, 0, 0, 0, 0, 0, 0, 0, 0, 0] (laws_markOpS_con R13 R44.1 Y22 R47 H48) kc14 rfl rfl trivial) rfl rfl rfl (fun _ => ?_)
              refine TO.y (Y.assign rfl) rfl rfl rfl ?_
              refine TO.nil ?_
              refine TE.next ?_
              refine TW.seq ?_
              refine TW.seq ?_
              refine TW.joinBX (τ := Bool) (X := Unit) (fun T _ => [(1, V_aL0), (2, .pointer (some ⟨B1, 0, none⟩)), (6, .pointer (some ⟨B19, 0, none⟩)), (7, .bool R16.2), (10, .pointer (some ⟨B26, 0, none⟩)), (82, .bool T)]) (fun _ _ => [.box B1 26 [V_aE0, V_aE1, .int .i64 aE.Seq, V_aE3], .box B19 33 [Y18.1, Y18.2.1, .int .i64 R16.1.Seq, Y18.2.2], .box B26 33 [Y25.1, Y25.2.1, .int .i64 R23.1.Seq, Y25.2.2], .own Y18.1 (lc R16.1.Mem), .own Y18.2.1 (lc R16.1.Tables), .own Y18.2.2 (lc R16.1.Snaps), .own Y25.1 (lc R23.1.Mem), .own Y25.2.1 (lc R23.1.Tables), .own Y25.2.2 (lc R23.1.Snaps)]) ?_ (fun T50 X51 => ?_)
              · refine TW.region ?_
                refine TO.y (Y.move rfl) rfl rfl rfl ?_
                refine TO.y (Y.lss rfl rfl) rfl rfl rfl ?_
                refine TO.y (Y.move rfl) rfl rfl rfl ?_
                refine TO.ite (b := decide (R47.1 < (0 : Int))) (fun H52 => ?_) (fun H52 => ?_)
                · refine TO.off (Gd.at 2 false 72 (decide (R47.1 < (0 : Int))) rfl rfl rfl (beq_tf H52)) rfl rfl ?_
                  refine TO.off (Gd.at 2 false 72 (decide (R47.1 < (0 : Int))) rfl rfl rfl (beq_tf H52)) rfl rfl ?_
                  refine TO.off (Gd.at 2 false 72 (decide (R47.1 < (0 : Int))) rfl rfl rfl (beq_tf H52)) rfl rfl ?_
                  refine TO.off (Gd.at 2 false 72 (decide (R47.1 < (0 : Int))) rfl rfl rfl (beq_tf H52)) rfl rfl ?_
                  refine TO.y (Y.pick_t H52 rfl rfl) rfl rfl rfl ?_
                  refine TO.y (Y.move rfl) rfl rfl rfl ?_
                  refine TO.off (Gd.at 8 false 78 true rfl rfl rfl rfl) rfl rfl ?_
                  refine TO.off (Gd.at 8 false 78 true rfl rfl rfl rfl) rfl rfl ?_
                  refine TO.off (Gd.at 8 false 78 true rfl rfl rfl rfl) rfl rfl ?_
                  refine TO.y (Y.pick_t rfl rfl rfl) rfl rfl rfl ?_
                  refine TO.nil ?_
                  exact TE.jb_go () [8, 8, 9, 9, 9, 9, 9, 9, 9] ⟨rfl, rfl, rfl, rfl, rfl, rfl, trivial⟩ rfl
                · refine TO.y (Y.load_box (v := .agg #[Y25.1, Y25.2.1, .int .i64 R23.1.Seq, Y25.2.2]) 11 kk33 rfl rfl rfl) (Gd.at 2 false 72 (decide (R47.1 < (0 : Int))) rfl rfl rfl (beq_ff H52)) rfl rfl ?_
                  refine TO.y (Y.load_box (v := .agg #[Y18.1, Y18.2.1, .int .i64 R16.1.Seq, Y18.2.2]) 9 kk33 rfl rfl rfl) (Gd.at 2 false 72 (decide (R47.1 < (0 : Int))) rfl rfl rfl (beq_ff H52)) rfl rfl ?_
                  refine TO.bind fun R53 H54 => ?_
                  refine TO.ef (Ef.call (rest := [.own Y22 (lc R47.2), .own Y20.1 (lc R44.2.1), .own Y20.2.1 (lc R44.2.2.1), .own Y20.2.2 (lc R44.2.2.2), .own Y39 (lc R13), .own Y34.1 (lc R10.Mem), .own Y34.2.1 (lc R10.Tables), .own Y34.2.2 (lc R10.Snaps), .box B1 26 [V_aE0, V_aE1, .int .i64 aE.Seq, V_aE3], .box B19 33 [Y18.1, Y18.2.1, .int .i64 R16.1.Seq, Y18.2.2], .box B21 33 [Y20.1, Y20.2.1, .int .i64 R10.Seq, Y20.2.2], .box B26 33 [Y25.1, Y25.2.1, .int .i64 R23.1.Seq, Y25.2.2], .own Y18.1 (lc R16.1.Mem), .own Y18.2.1 (lc R16.1.Tables), .own Y18.2.2 (lc R16.1.Snaps), .own Y25.1 (lc R23.1.Mem), .own Y25.2.1 (lc R23.1.Tables), .own Y25.2.2 (lc R23.1.Snaps)]) [0, 0, 0, 0, 0, 0, 0, 0, 0, 0, 0, 0, 0, 0, 0, 0, 0, 0] (laws_eqEng_con R23.1 R16.1 Y25.1 Y25.2.1 Y25.2.2 Y18.1 Y18.2.1 Y18.2.2 R53 H54) kc11 rfl rfl ⟨(Can.own 15 rfl), (Can.own 16 rfl), (Can.own 17 rfl), (Can.own 12 rfl), (Can.own 13 rfl), (Can.own 14 rfl), trivial⟩) (Gd.at 2 false 72 (decide (R47.1 < (0 : Int))) rfl rfl rfl (beq_ff H52)) rfl rfl (fun _ => ?_)
                  refine TO.y (Y.not rfl) (Gd.at 2 false 72 (decide (R47.1 < (0 : Int))) rfl rfl rfl (beq_ff H52)) rfl rfl ?_
                  refine TO.y (Y.pick_f H52 rfl rfl) rfl rfl rfl ?_
                  refine TO.y (Y.move rfl) rfl rfl rfl ?_
                  refine TO.ite (b := !R53) (fun H56 => ?_) (fun H56 => ?_)
                  · refine TO.off (Gd.at 8 false 78 (!R53) rfl rfl rfl (beq_tf H56)) rfl rfl ?_
                    refine TO.off (Gd.at 8 false 78 (!R53) rfl rfl rfl (beq_tf H56)) rfl rfl ?_
                    refine TO.off (Gd.at 8 false 78 (!R53) rfl rfl rfl (beq_tf H56)) rfl rfl ?_
                    refine TO.y (Y.pick_t H56 rfl rfl) rfl rfl rfl ?_
                    refine TO.nil ?_
                    exact TE.jb_go () [8, 8, 9, 9, 9, 9, 9, 9, 9] ⟨rfl, rfl, rfl, rfl, rfl, rfl, trivial⟩ rfl
                  · refine TO.y (Y.move rfl) (Gd.at 8 false 78 (!R53) rfl rfl rfl (beq_ff H56)) rfl rfl ?_
                    refine TO.y (Y.move rfl) (Gd.at 8 false 78 (!R53) rfl rfl rfl (beq_ff H56)) rfl rfl ?_
                    refine TO.y (Y.neb kb4 rfl rfl) (Gd.at 8 false 78 (!R53) rfl rfl rfl (beq_ff H56)) rfl rfl ?_
                    refine TO.y (Y.pick_f H56 rfl rfl) rfl rfl rfl ?_
                    refine TO.nil ?_
                    exact TE.jb_go () [8, 8, 9, 9, 9, 9, 9, 9, 9] ⟨rfl, rfl, rfl, rfl, rfl, rfl, trivial⟩ rfl
              · refine TE.next ?_
                refine TW.cond rfl (fun H57 => ?_) (fun H57 => ?_)
                · refine TW.seq ?_
                  refine TW.region ?_
                  refine TO.y (Y.assign rfl) rfl rfl rfl ?_
                  refine TO.nil ?_
                  refine TE.next ?_
                  refine TW.ret ?_
                  refine TE.then_ret ?_
                  exact TE.leaf fun _ _ hf_ hs_ => ret_any (rs := [.tmp 4]) (vs := [.bool false]) (.inl rfl) rfl ⟨rfl, trivial⟩ hf_ hs_ ⟨(), rfl, hs_.pulls [] rfl⟩
                · refine TW.skip ?_
                  refine TE.next ?_
                  refine TW.seq ?_
                  refine TW.region ?_
                  refine TO.y (Y.assign rfl) rfl rfl rfl ?_
                  refine TO.nil ?_
                  refine TE.next ?_
                  refine TW.seq ?_
                  refine TW.region ?_
                  refine TO.y (Y.load_box (v := .agg #[Y25.1, Y25.2.1, .int .i64 R23.1.Seq, Y25.2.2]) 2 kk33 rfl rfl rfl) rfl rfl rfl ?_
                  refine TO.y (Y.move rfl) rfl rfl rfl ?_
                  refine TO.bind fun R58 H59 => ?_
                  refine TO.ef (Ef.call (rest := [.box B1 26 [V_aE0, V_aE1, .int .i64 aE.Seq, V_aE3], .box B19 33 [Y18.1, Y18.2.1, .int .i64 R16.1.Seq, Y18.2.2], .box B26 33 [Y25.1, Y25.2.1, .int .i64 R23.1.Seq, Y25.2.2], .own Y18.1 (lc R16.1.Mem), .own Y18.2.1 (lc R16.1.Tables), .own Y18.2.2 (lc R16.1.Snaps)]) [6, 6, 6, 0, 0, 0, 0, 0, 0] (laws_markEng_con R23.1 (1 : Int) Y25.1 Y25.2.1 Y25.2.2 R58 H59) kc13 rfl rfl trivial) rfl rfl rfl (fun _ => ?_)
                  refine TO.y (Y.assign rfl) rfl rfl rfl ?_
                  refine TO.nil ?_
                  refine TE.next ?_
                  refine TW.seq ?_
                  refine TW.region ?_
                  refine TO.y (Y.assign rfl) rfl rfl rfl ?_
                  refine TO.nil ?_
                  refine TE.next ?_
                  refine TW.seq ?_
                  refine TW.region ?_
                  refine TO.y (Y.load_box (v := .agg #[Y25.1, Y25.2.1, .int .i64 R23.1.Seq, Y25.2.2]) 5 kk33 rfl rfl rfl) rfl rfl rfl ?_
                  refine TO.y (Y.move rfl) rfl rfl rfl ?_
                  refine TO.bind fun R61 H62 => ?_
                  refine TO.ef (Ef.call (rest := [.own Y25.1 (lc R58.2.1), .own Y25.2.1 (lc R58.2.2.1), .own Y25.2.2 (lc R58.2.2.2), .box B1 26 [V_aE0, V_aE1, .int .i64 aE.Seq, V_aE3], .box B19 33 [Y18.1, Y18.2.1, .int .i64 R16.1.Seq, Y18.2.2], .box B26 33 [Y25.1, Y25.2.1, .int .i64 R23.1.Seq, Y25.2.2], .own Y18.1 (lc R16.1.Mem), .own Y18.2.1 (lc R16.1.Tables), .own Y18.2.2 (lc R16.1.Snaps)]) [0, 0, 0, 0, 0, 0, 0, 0, 0] (laws_heldEng_con ({ Mem := R58.2.1, Tables := R58.2.2.1, Seq := R23.1.Seq, Snaps := R58.2.2.2 : Eng }) (1 : Int) Y25.1 Y25.2.1 Y25.2.2 R61 H62) kc15 rfl rfl ⟨(Can.own 0 rfl), (Can.own 1 rfl), (Can.own 2 rfl), trivial⟩) rfl rfl rfl (fun _ => ?_)
                  refine TO.y (Y.assign rfl) rfl rfl rfl ?_
                  refine TO.nil ?_
                  refine TE.next ?_
                  refine TW.seq ?_
                  refine TW.seq ?_
                  refine TW.region ?_
                  refine TO.y (Y.move rfl) rfl rfl rfl ?_
                  refine TO.y (Y.lss rfl rfl) rfl rfl rfl ?_
                  refine TO.nil ?_
                  refine TE.next ?_
                  refine TW.cond rfl (fun H64 => ?_) (fun H64 => ?_)
                  · refine TW.seq ?_
                    refine TW.region ?_
                    refine TO.y (Y.assign rfl) rfl rfl rfl ?_
                    refine TO.nil ?_
                    refine TE.next ?_
                    refine TW.ret ?_
                    refine TE.then_ret ?_
                    exact TE.leaf fun _ _ hf_ hs_ => ret_any (rs := [.tmp 4]) (vs := [.bool false]) (.inl rfl) rfl ⟨rfl, trivial⟩ hf_ hs_ ⟨(), rfl, hs_.pulls [] rfl⟩
                  · refine TW.skip ?_
                    refine TE.next ?_
                    refine TW.seq ?_
                    refine TW.seq ?_
                    refine TW.region ?_
                    refine TO.y (Y.move rfl) rfl rfl rfl ?_
                    refine TO.y (Y.move rfl) rfl rfl rfl ?_
                    refine TO.y (Y.neq rfl rfl) rfl rfl rfl ?_
                    refine TO.nil ?_
                    refine TE.next ?_
                    refine TW.cond rfl (fun H65 => ?_) (fun H65 => ?_)
                    · refine TW.seq ?_
                      refine TW.region ?_
                      refine TO.y (Y.assign rfl) rfl rfl rfl ?_
                      refine TO.nil ?_
                      refine TE.next ?_
                      refine TW.ret ?_
                      refine TE.then_ret ?_
                      exact TE.leaf fun _ _ hf_ hs_ => ret_any (rs := [.tmp 4]) (vs := [.bool false]) (.inl rfl) rfl ⟨rfl, trivial⟩ hf_ hs_ ⟨(), rfl, hs_.pulls [] rfl⟩
                    · refine TW.skip ?_
                      refine TE.next ?_
                      refine TW.seq ?_
                      refine TW.region ?_
                      refine TO.y (Y.load_box (v := .agg #[V_aE0, V_aE1, .int .i64 aE.Seq, V_aE3]) 3 kk26 rfl rfl rfl) rfl rfl rfl ?_
                      refine TO.ef (Ef.call (rest := [.own Y25.1 (lc R58.2.1), .own Y25.2.1 (lc R58.2.2.1), .own Y25.2.2 (lc R58.2.2.2), .box B1 26 [V_aE0, V_aE1, .int .i64 aE.Seq, V_aE3], .box B19 33 [Y18.1, Y18.2.1, .int .i64 R16.1.Seq, Y18.2.2], .box B26 33 [Y25.1, Y25.2.1, .int .i64 R23.1.Seq, Y25.2.2], .own Y18.1 (lc R16.1.Mem), .own Y18.2.1 (lc R16.1.Tables), .own Y18.2.2 (lc R16.1.Snaps)]) [0, 0, 0, 0, 0, 0, 0, 0, 0] (laws_toEng_con aE V_aE0 V_aE1 V_aE3 R10 H11) kc8 rfl rfl ⟨(Base.can HB_V_aE0), (Base.can HB_V_aE1), (Base.can HB_V_aE3), trivial⟩) rfl rfl rfl (fun Y66 => ?_)
                      refine TO.y (Y.move rfl) rfl rfl rfl ?_
                      refine TO.ef (Ef.call (rest := [.own Y66.1 (lc R10.Mem), .own Y66.2.1 (lc R10.Tables), .own Y66.2.2 (lc R10.Snaps), .own Y25.1 (lc R58.2.1), .own Y25.2.1 (lc R58.2.2.1), .own Y25.2.2 (lc R58.2.2.2), .box B1 26 [V_aE0, V_aE1, .int .i64 aE.Seq, V_aE3], .box B19 33 [Y18.1, Y18.2.1, .int .i64 R16.1.Seq, Y18.2.2], .box B26 33 [Y25.1, Y25.2.1, .int .i64 R23.1.Seq, Y25.2.2], .own Y18.1 (lc R16.1.Mem), .own Y18.2.1 (lc R16.1.Tables), .own Y18.2.2 (lc R16.1.Snaps)]) [0, 0, 0, 0, 0, 0, 0, 0, 0, 0, 0, 0] (laws_toOpS_con aL V_aL0 R13 H14) kc9 rfl rfl ⟨(Base.can HB_V_aL0), trivial⟩) rfl rfl rfl (fun Y67 => ?_)
                      refine TO.ef (Ef.call (rest := [.own Y67 (lc R13), .own Y66.1 (lc R10.Mem), .own Y66.2.1 (lc R10.Tables), .own Y66.2.2 (lc R10.Snaps), .own Y25.1 (lc R58.2.1), .own Y25.2.1 (lc R58.2.2.1), .own Y25.2.2 (lc R58.2.2.2), .box B1 26 [V_aE0, V_aE1, .int .i64 aE.Seq, V_aE3], .box B19 33 [Y18.1, Y18.2.1, .int .i64 R16.1.Seq, Y18.2.2], .box B26 33 [Y25.1, Y25.2.1, .int .i64 R23.1.Seq, Y25.2.2], .own Y18.1 (lc R16.1.Mem), .own Y18.2.1 (lc R16.1.Tables), .own Y18.2.2 (lc R16.1.Snaps)]) [0, 0, 0, 0, 0, 0, 0, 0, 0, 0, 0, 0, 0] (impl_EngPut_con R10 R13 Y66.1 Y66.2.1 Y66.2.2 Y67 R23 H24) kc10 rfl rfl ⟨(Can.own 1 rfl), (Can.own 2 rfl), (Can.own 3 rfl), (Can.own 0 rfl), trivial⟩) rfl rfl rfl (fun Y68 => ?_)
                      refine TO.y (Y.move rfl) rfl rfl rfl ?_
                      refine TO.y (Y.extract rfl rfl) rfl rfl rfl ?_
                      refine TO.y (Y.extract rfl rfl) rfl rfl rfl ?_
                      refine TO.ef (Ef.alloc kz33 rfl) rfl rfl rfl (fun B69 => ?_)
                      refine TO.ef0 (Ef.store_box (us := [Y68.1, Y68.2.1, .int .i64 R23.1.Seq, Y68.2.2]) (vs' := [Y68.1, Y68.2.1, .int .i64 R23.1.Seq, Y68.2.2]) (is' := [.box B69 33 [Y68.1, Y68.2.1, .int .i64 R23.1.Seq, Y68.2.2], .own Y68.1 (lc R23.1.Mem), .own Y68.2.1 (lc R23.1.Tables), .own Y68.2.2 (lc R23.1.Snaps), .own Y67 (lc R13), .own Y66.1 (lc R10.Mem), .own Y66.2.1 (lc R10.Tables), .own Y66.2.2 (lc R10.Snaps), .own Y25.1 (lc R58.2.1), .own Y25.2.1 (lc R58.2.2.1), .own Y25.2.2 (lc R58.2.2.2), .box B1 26 [V_aE0, V_aE1, .int .i64 aE.Seq, V_aE3], .box B19 33 [Y18.1, Y18.2.1, .int .i64 R16.1.Seq, Y18.2.2], .box B26 33 [Y25.1, Y25.2.1, .int .i64 R23.1.Seq, Y25.2.2], .own Y18.1 (lc R16.1.Mem), .own Y18.2.1 (lc R16.1.Tables), .own Y18.2.2 (lc R16.1.Snaps)]) 0 kk33 rfl rfl rfl (Cel.agg ⟨(One.can (Can.own 1 rfl)), (One.can (Can.own 2 rfl)), (One.plain rfl), (One.can (Can.own 3 rfl)), trivial⟩) rfl rfl rfl rfl) rfl rfl (fun _ => ?_)
                      refine TO.y (Y.assign rfl) rfl rfl rfl ?_
                      refine TO.nil ?_
                      refine TE.next ?_
                      refine TW.seq ?_
                      refine TW.seq ?_
                      refine TW.joinBX (τ := Bool) (X := Unit) (fun T _ => [(10, .pointer (some ⟨B26, 0, none⟩)), (13, .int .i64 R58.1), (110, .bool T)]) (fun _ _ => [.box B26 33 [Y25.1, Y25.2.1, .int .i64 R23.1.Seq, Y25.2.2], .own Y25.1 (lc R58.2.1), .own Y25.2.1 (lc R58.2.2.1), .own Y25.2.2 (lc R58.2.2.2)]) ?_ (fun T70 X71 => ?_)
                      · refine TW.region ?_
                        refine TO.y (Y.load_box (v := .agg #[Y68.1, Y68.2.1, .int .i64 R23.1.Seq, Y68.2.2]) 0 kk33 rfl rfl rfl) rfl rfl rfl ?_
                        refine TO.y (Y.load_box (v := .agg #[Y18.1, Y18.2.1, .int .i64 R16.1.Seq, Y18.2.2]) 12 kk33 rfl rfl rfl) rfl rfl rfl ?_
                        refine TO.bind fun R72 H73 => ?_
                        refine TO.ef (Ef.call (rest := [.box B69 33 [Y68.1, Y68.2.1, .int .i64 R23.1.Seq, Y68.2.2], .own Y68.1 (lc R23.1.Mem), .own Y68.2.1 (lc R23.1.Tables), .own Y68.2.2 (lc R23.1.Snaps), .own Y67 (lc R13), .own Y66.1 (lc R10.Mem), .own Y66.2.1 (lc R10.Tables), .own Y66.2.2 (lc R10.Snaps), .own Y25.1 (lc R58.2.1), .own Y25.2.1 (lc R58.2.2.1), .own Y25.2.2 (lc R58.2.2.2), .box B1 26 [V_aE0, V_aE1, .int .i64 aE.Seq, V_aE3], .box B19 33 [Y18.1, Y18.2.1, .int .i64 R16.1.Seq, Y18.2.2], .box B26 33 [Y25.1, Y25.2.1, .int .i64 R23.1.Seq, Y25.2.2], .own Y18.1 (lc R16.1.Mem), .own Y18.2.1 (lc R16.1.Tables), .own Y18.2.2 (lc R16.1.Snaps)]) [0, 0, 0, 0, 0, 0, 0, 0, 0, 0, 0, 0, 0, 0, 0, 0, 0] (laws_eqEng_con R23.1 R16.1 Y68.1 Y68.2.1 Y68.2.2 Y18.1 Y18.2.1 Y18.2.2 R72 H73) kc11 rfl rfl ⟨(Can.own 1 rfl), (Can.own 2 rfl), (Can.own 3 rfl), (Can.own 14 rfl), (Can.own 15 rfl), (Can.own 16 rfl), trivial⟩) rfl rfl rfl (fun _ => ?_)
                        refine TO.y (Y.not rfl) rfl rfl rfl ?_
                        refine TO.y (Y.move rfl) rfl rfl rfl ?_
                        refine TO.ite (b := !R72) (fun H75 => ?_) (fun H75 => ?_)
                        · refine TO.off (Gd.at 4 false 106 (!R72) rfl rfl rfl (beq_tf H75)) rfl rfl ?_
                          refine TO.off (Gd.at 4 false 106 (!R72) rfl rfl rfl (beq_tf H75)) rfl rfl ?_
                          refine TO.off (Gd.at 4 false 106 (!R72) rfl rfl rfl (beq_tf H75)) rfl rfl ?_
                          refine TO.y (Y.pick_t H75 rfl rfl) rfl rfl rfl ?_
                          refine TO.nil ?_
                          exact TE.jb_go () [13, 8, 8, 8] ⟨rfl, rfl, rfl, trivial⟩ rfl
                        · refine TO.y (Y.move rfl) (Gd.at 4 false 106 (!R72) rfl rfl rfl (beq_ff H75)) rfl rfl ?_
                          refine TO.y (Y.move rfl) (Gd.at 4 false 106 (!R72) rfl rfl rfl (beq_ff H75)) rfl rfl ?_
                          refine TO.y (Y.neb kb4 rfl rfl) (Gd.at 4 false 106 (!R72) rfl rfl rfl (beq_ff H75)) rfl rfl ?_
                          refine TO.y (Y.pick_f H75 rfl rfl) rfl rfl rfl ?_
                          refine TO.nil ?_
                          exact TE.jb_go () [13, 8, 8, 8] ⟨rfl, rfl, rfl, trivial⟩ rfl
                      · refine TE.next ?_
                        refine TW.cond rfl (fun H76 => ?_) (fun H76 => ?_)
                        · refine TW.seq ?_
                          refine TW.region ?_
                          refine TO.y (Y.assign rfl) rfl rfl rfl ?_
                          refine TO.nil ?_
                          refine TE.next ?_
                          refine TW.ret ?_
                          refine TE.then_ret ?_
                          exact TE.leaf fun _ _ hf_ hs_ => ret_any (rs := [.tmp 4]) (vs := [.bool false]) (.inl rfl) rfl ⟨rfl, trivial⟩ hf_ hs_ ⟨(), rfl, hs_.pulls [] rfl⟩
                        · refine TW.skip ?_
                          refine TE.next ?_
                          refine TW.seq ?_
                          refine TW.region ?_
                          refine TO.y (Y.assign rfl) rfl rfl rfl ?_
                          refine TO.nil ?_
                          refine TE.next ?_
                          refine TW.seq ?_
                          refine TW.region ?_
                          refine TO.y (Y.load_box (v := .agg #[Y25.1, Y25.2.1, .int .i64 R23.1.Seq, Y25.2.2]) 0 kk33 rfl rfl rfl) rfl rfl rfl ?_
                          refine TO.y (Y.move rfl) rfl rfl rfl ?_
                          refine TO.ef (Ef.call (rest := [.box B26 33 [Y25.1, Y25.2.1, .int .i64 R23.1.Seq, Y25.2.2], .own Y25.1 (lc R58.2.1), .own Y25.2.1 (lc R58.2.2.1), .own Y25.2.2 (lc R58.2.2.2)]) [0, 0, 0, 0] (laws_heldEng_con ({ Mem := R58.2.1, Tables := R58.2.2.1, Seq := R23.1.Seq, Snaps := R58.2.2.2 : Eng }) (1 : Int) Y25.1 Y25.2.1 Y25.2.2 R61 H62) kc15 rfl rfl ⟨(Can.own 1 rfl), (Can.own 2 rfl), (Can.own 3 rfl), trivial⟩) rfl rfl rfl (fun _ => ?_)
                          refine TO.y (Y.assign rfl) rfl rfl rfl ?_
                          refine TO.nil ?_
                          refine TE.next ?_
                          refine TW.seq ?_
                          refine TW.seq ?_
                          refine TW.region ?_
                          refine TO.y (Y.move rfl) rfl rfl rfl ?_
                          refine TO.y (Y.lss rfl rfl) rfl rfl rfl ?_
                          refine TO.nil ?_
                          refine TE.next ?_
                          refine TW.cond rfl (fun H78 => ?_) (fun H78 => ?_)
                          · refine TW.seq ?_
                            refine TW.region ?_
                            refine TO.y (Y.assign rfl) rfl rfl rfl ?_
                            refine TO.nil ?_
                            refine TE.next ?_
                            refine TW.ret ?_
                            refine TE.then_ret ?_
                            exact TE.leaf fun _ _ hf_ hs_ => ret_any (rs := [.tmp 4]) (vs := [.bool false]) (.inl rfl) rfl ⟨rfl, trivial⟩ hf_ hs_ ⟨(), rfl, hs_.pulls [] rfl⟩
                          · refine TW.skip ?_
                            refine TE.next ?_
                            refine TW.seq ?_
                            refine TW.seq ?_
                            refine TW.region ?_
                            refine TO.y (Y.move rfl) rfl rfl rfl ?_
                            refine TO.y (Y.move rfl) rfl rfl rfl ?_
                            refine TO.y (Y.neq rfl rfl) rfl rfl rfl ?_
                            refine TO.nil ?_
                            refine TE.next ?_
                            refine TW.cond rfl (fun H79 => ?_) (fun H79 => ?_)
                            · refine TW.seq ?_
                              refine TW.region ?_
                              refine TO.y (Y.assign rfl) rfl rfl rfl ?_
                              refine TO.nil ?_
                              refine TE.next ?_
                              refine TW.ret ?_
                              refine TE.then_ret ?_
                              exact TE.leaf fun _ _ hf_ hs_ => ret_any (rs := [.tmp 4]) (vs := [.bool false]) (.inl rfl) rfl ⟨rfl, trivial⟩ hf_ hs_ ⟨(), rfl, hs_.pulls [] rfl⟩
                            · refine TW.skip ?_
                              refine TE.next ?_
                              refine TW.seq ?_
                              refine TW.region ?_
                              refine TO.y (Y.assign rfl) rfl rfl rfl ?_
                              refine TO.nil ?_
                              refine TE.next ?_
                              refine TW.ret ?_
                              exact TE.leaf fun _ _ hf_ hs_ => ret_any (rs := [.tmp 4]) (vs := [.bool true]) (.inl rfl) rfl ⟨rfl, trivial⟩ hf_ hs_ ⟨(), rfl, hs_.pulls [] rfl⟩

end Go.Proofs.Ytfanigbmjmiidaa
