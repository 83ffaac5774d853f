/-
  The functions that a law reaches, each as a pure function, with the proof that the program computes it, and the step from a pure law to the given statement. Conditions: none.
-/
import Derived.Test.YtahennbogdbnmaaK2
set_option linter.unusedVariables false
set_option maxRecDepth 100000
set_option maxHeartbeats 4000000
namespace Go.Proofs.Ytahennbogdbnmaa
open Go Sl

/-- loop.example/g00950/laws.FnCompact -/
noncomputable def laws_FnCompact (code : List UInt8) : Option Bool :=
  (laws_big code).bind fun R1 =>
  if R1 = true then (some true)
  else ((spec_DrawCompactEnts code).bind fun R5 =>
  (impl_CompactEnts R5.1 R5.2.1 R5.2.2).bind fun R8 =>
  (spec_CompactEnts R5.1 R5.2.1 R5.2.2).bind fun R11 =>
  (laws_sameEnts R8 R11).bind fun R14 =>
  if (!R14) = true then (some false)
  else ((spec_MemOk R5.1).bind fun R18 =>
  if (!R18) = true then (some true)
  else ((impl_SeenAt R5.1 R5.2.1).bind fun R22 =>
  (impl_SeenAt R8 R5.2.1).bind fun R25 =>
  (if (!(decide (((R22.length : Nat) : Int) = ((R25.length : Nat) : Int)))) = true then (some true)
  else (some (!(decide (((R22.length : Nat) : Int) = IntKind.i64.wrap (((R5.2.1.length : Nat) : Int) + (1 : Int))))))).bind (fun (T28 : Bool) =>
  if T28 = true then (some false)
  else (bindC (loopO (fun (S32 : Int) => if (decide (S32 < ((R22.length : Nat) : Int))) = true then ((idx R22 S32).bind fun E37 =>
  (idx R25 S32).bind fun E39 =>
  (laws_sameMap E37 E39).bind fun R45 =>
  if (!R45) = true then (some (.done (.done false)))
  else (some (.go (IntKind.i64.wrap (S32 + (1 : Int))))))
  else (some (.done (.go ()))))
  (0 : Int))
  (fun (T34 : Unit) => (impl_CompactEnts R8 R5.2.1 R5.2.2).bind fun R51 =>
  ((laws_sameEnts R8 R51).bind fun R56 =>
  if R56 = true then (some (decide (((R8.length : Nat) : Int) ≤ ((R5.1.length : Nat) : Int))))
  else (some false)).bind (fun (T54 : Bool) =>
  some T54)))))))

theorem laws_FnCompact_con (code : List UInt8) (V_code0 : Value) (r : Bool) (hm : laws_FnCompact code = some r) :
    Con Try.prog 4 [V_code0] [] [(V_code0, lc code)] (fun _ : Unit => .bool r) (fun _ => []) := by
  refine Con.intro (args := [V_code0]) (n := 82) (val := fun r (_ : Unit) => .bool r) (post := fun _ _ => []) (m := laws_FnCompact code) Try.func4 rfl rfl rfl hm ?_
  intro w S hrd
  have HB_V_code0 := hrd _ (.head _)
  clear hrd
  unfold laws_FnCompact
  refine TW.seq ?_
  refine TW.region ?_
  refine TO.y (Y.assign rfl) rfl rfl rfl ?_
  refine TO.nil ?_
  refine TE.next ?_
  refine TW.seq ?_
  refine TW.seq ?_
  refine TW.region ?_
  refine TO.y (Y.move rfl) rfl rfl rfl ?_
  refine TO.bind fun R1 H2 => ?_
  refine TO.ef (Ef.call (rest := []) [] (laws_big_con code V_code0 R1 H2) kc6 rfl rfl ⟨(Base.can HB_V_code0), trivial⟩) rfl rfl rfl (fun _ => ?_)
  refine TO.nil ?_
  refine TE.next ?_
  refine TW.cond rfl (fun H4 => ?_) (fun H4 => ?_)
  · refine TW.seq ?_
    refine TW.region ?_
    refine TO.y (Y.assign rfl) rfl rfl rfl ?_
    refine TO.nil ?_
    refine TE.next ?_
    refine TW.ret ?_
    refine TE.then_ret ?_
    exact TE.leaf fun _ _ hf_ hs_ => ret_any (rs := [.tmp 2]) (vs := [.bool true]) (.inl rfl) rfl ⟨rfl, trivial⟩ hf_ hs_ ⟨(), rfl, hs_.pulls [] rfl⟩
  · refine TW.skip ?_
    refine TE.next ?_
    refine TW.seq ?_
    refine TW.region ?_
    refine TO.y (Y.move rfl) rfl rfl rfl ?_
    refine TO.bind fun R5 H6 => ?_
    refine TO.ef (Ef.call (rest := []) [] (spec_DrawCompactEnts_con code V_code0 R5 H6) kc16 rfl rfl ⟨(Base.can HB_V_code0), trivial⟩) rfl rfl rfl (fun Y7 => ?_)
    refine TO.y (Y.move rfl) rfl rfl rfl ?_
    refine TO.y (Y.extract rfl rfl) rfl rfl rfl ?_
    refine TO.y (Y.extract rfl rfl) rfl rfl rfl ?_
    refine TO.y (Y.extract rfl rfl) rfl rfl rfl ?_
    refine TO.y (Y.assign rfl) rfl rfl rfl ?_
    refine TO.y (Y.assign rfl) rfl rfl rfl ?_
    refine TO.y (Y.assign rfl) rfl rfl rfl ?_
    refine TO.nil ?_
    refine TE.next ?_
    refine TW.seq ?_
    refine TW.region ?_
    refine TO.y (Y.move rfl) rfl rfl rfl ?_
    refine TO.y (Y.move rfl) rfl rfl rfl ?_
    refine TO.y (Y.move rfl) rfl rfl rfl ?_
    refine TO.bind fun R8 H9 => ?_
    refine TO.ef (Ef.call (rest := [.own Y7.1 (lc R5.1), .own Y7.2 (lc R5.2.1)]) [0, 0] (impl_CompactEnts_con R5.1 R5.2.1 R5.2.2 Y7.1 Y7.2 R8 H9) kc17 rfl rfl ⟨(Can.own 0 rfl), (Can.own 1 rfl), trivial⟩) rfl rfl rfl (fun Y10 => ?_)
    refine TO.y (Y.assign rfl) rfl rfl rfl ?_
    refine TO.nil ?_
    refine TE.next ?_
    refine TW.seq ?_
    refine TW.seq ?_
    refine TW.region ?_
    refine TO.y (Y.move rfl) rfl rfl rfl ?_
    refine TO.y (Y.move rfl) rfl rfl rfl ?_
    refine TO.y (Y.move rfl) rfl rfl rfl ?_
    refine TO.y (Y.move rfl) rfl rfl rfl ?_
    refine TO.bind fun R11 H12 => ?_
    refine TO.ef (Ef.call (rest := [.own Y10 (lc R8), .own Y7.1 (lc R5.1), .own Y7.2 (lc R5.2.1)]) [0, 0, 0] (spec_CompactEnts_con R5.1 R5.2.1 R5.2.2 Y7.1 Y7.2 R11 H12) kc19 rfl rfl ⟨(Can.own 1 rfl), (Can.own 2 rfl), trivial⟩) rfl rfl rfl (fun Y13 => ?_)
    refine TO.bind fun R14 H15 => ?_
    refine TO.ef (Ef.call (rest := [.own Y13 (lc R11), .own Y10 (lc R8), .own Y7.1 (lc R5.1), .own Y7.2 (lc R5.2.1)]) [0, 0, 0, 0] (laws_sameEnts_con R8 R11 Y10 Y13 R14 H15) kc18 rfl rfl ⟨(Can.own 1 rfl), (Can.own 0 rfl), trivial⟩) rfl rfl rfl (fun _ => ?_)
    refine TO.y (Y.not rfl) rfl rfl rfl ?_
    refine TO.nil ?_
    refine TE.next ?_
    refine TW.cond rfl (fun H17 => ?_) (fun H17 => ?_)
    · refine TW.seq ?_
      refine TW.region ?_
      refine TO.y (Y.assign rfl) rfl rfl rfl ?_
      refine TO.nil ?_
      refine TE.next ?_
      refine TW.ret ?_
      refine TE.then_ret ?_
      exact TE.leaf fun _ _ hf_ hs_ => ret_any (rs := [.tmp 2]) (vs := [.bool false]) (.inl rfl) rfl ⟨rfl, trivial⟩ hf_ hs_ ⟨(), rfl, hs_.pulls [] rfl⟩
    · refine TW.skip ?_
      refine TE.next ?_
      refine TW.seq ?_
      refine TW.seq ?_
      refine TW.region ?_
      refine TO.y (Y.move rfl) rfl rfl rfl ?_
      refine TO.bind fun R18 H19 => ?_
      refine TO.ef (Ef.call (rest := [.own Y13 (lc R11), .own Y10 (lc R8), .own Y7.1 (lc R5.1), .own Y7.2 (lc R5.2.1)]) [0, 0, 0, 0] (spec_MemOk_con R5.1 Y7.1 R18 H19) kc20 rfl rfl ⟨(Can.own 2 rfl), trivial⟩) rfl rfl rfl (fun _ => ?_)
      refine TO.y (Y.not rfl) rfl rfl rfl ?_
      refine TO.nil ?_
      refine TE.next ?_
      refine TW.cond rfl (fun H21 => ?_) (fun H21 => ?_)
      · refine TW.seq ?_
        refine TW.region ?_
        refine TO.y (Y.assign rfl) rfl rfl rfl ?_
        refine TO.nil ?_
        refine TE.next ?_
        refine TW.ret ?_
        refine TE.then_ret ?_
        exact TE.leaf fun _ _ hf_ hs_ => ret_any (rs := [.tmp 2]) (vs := [.bool true]) (.inl rfl) rfl ⟨rfl, trivial⟩ hf_ hs_ ⟨(), rfl, hs_.pulls [] rfl⟩
      · refine TW.skip ?_
        refine TE.next ?_
        refine TW.seq ?_
        refine TW.region ?_
        refine TO.y (Y.move rfl) rfl rfl rfl ?_
        refine TO.y (Y.move rfl) rfl rfl rfl ?_
        refine TO.bind fun R22 H23 => ?_
        refine TO.ef (Ef.call (rest := [.own Y13 (lc R11), .own Y10 (lc R8), .own Y7.1 (lc R5.1), .own Y7.2 (lc R5.2.1)]) [0, 0, 0, 0] (impl_SeenAt_con R5.1 R5.2.1 Y7.1 Y7.2 R22 H23) kc21 rfl rfl ⟨(Can.own 2 rfl), (Can.own 3 rfl), trivial⟩) rfl rfl rfl (fun Y24 => ?_)
        refine TO.y (Y.assign rfl) rfl rfl rfl ?_
        refine TO.nil ?_
        refine TE.next ?_
        refine TW.seq ?_
        refine TW.region ?_
        refine TO.y (Y.move rfl) rfl rfl rfl ?_
        refine TO.y (Y.move rfl) rfl rfl rfl ?_
        refine TO.bind fun R25 H26 => ?_
        refine TO.ef (Ef.call (rest := [.own Y24 (lc R22), .own Y13 (lc R11), .own Y10 (lc R8), .own Y7.1 (lc R5.1), .own Y7.2 (lc R5.2.1)]) [0, 0, 0, 0, 0] (impl_SeenAt_con R8 R5.2.1 Y10 Y7.2 R25 H26) kc21 rfl rfl ⟨(Can.own 2 rfl), (Can.own 4 rfl), trivial⟩) rfl rfl rfl (fun Y27 => ?_)
        refine TO.y (Y.assign rfl) rfl rfl rfl ?_
        refine TO.nil ?_
        refine TE.next ?_
        refine TW.seq ?_
        refine TW.seq ?_
        refine TW.joinBX (τ := Bool) (X := Unit) (fun T _ => [(3, Y7.1), (4, Y7.2), (5, .bool R5.2.2), (6, Y10), (7, Y24), (8, Y27), (51, .bool T)]) (fun _ _ => [.own Y7.1 (lc R5.1), .own Y7.2 (lc R5.2.1), .own Y10 (lc R8), .own Y24 (lc R22), .own Y27 (lc R25)]) ?_ (fun T28 X29 => ?_)
        · refine TW.region ?_
          refine TO.y (Y.move rfl) rfl rfl rfl ?_
          refine TO.y (Y.len (l := R22) ke47 (Can.own 1 rfl) rfl) rfl rfl rfl ?_
          refine TO.y (Y.move rfl) rfl rfl rfl ?_
          refine TO.y (Y.len (l := R25) ke47 (Can.own 0 rfl) rfl) rfl rfl rfl ?_
          refine TO.y (Y.neq rfl rfl) rfl rfl rfl ?_
          refine TO.y (Y.move rfl) rfl rfl rfl ?_
          refine TO.ite (b := !(decide (((R22.length : Nat) : Int) = ((R25.length : Nat) : Int)))) (fun H30 => ?_) (fun H30 => ?_)
          · refine TO.off (Gd.at 5 false 44 (!(decide (((R22.length : Nat) : Int) = ((R25.length : Nat) : Int)))) rfl rfl rfl (beq_tf H30)) rfl rfl ?_
            refine TO.off (Gd.at 5 false 44 (!(decide (((R22.length : Nat) : Int) = ((R25.length : Nat) : Int)))) rfl rfl rfl (beq_tf H30)) rfl rfl ?_
            refine TO.off (Gd.at 5 false 44 (!(decide (((R22.length : Nat) : Int) = ((R25.length : Nat) : Int)))) rfl rfl rfl (beq_tf H30)) rfl rfl ?_
            refine TO.off (Gd.at 5 false 44 (!(decide (((R22.length : Nat) : Int) = ((R25.length : Nat) : Int)))) rfl rfl rfl (beq_tf H30)) rfl rfl ?_
            refine TO.off (Gd.at 5 false 44 (!(decide (((R22.length : Nat) : Int) = ((R25.length : Nat) : Int)))) rfl rfl rfl (beq_tf H30)) rfl rfl ?_
            refine TO.off (Gd.at 5 false 44 (!(decide (((R22.length : Nat) : Int) = ((R25.length : Nat) : Int)))) rfl rfl rfl (beq_tf H30)) rfl rfl ?_
            refine TO.y (Y.pick_t H30 rfl rfl) rfl rfl rfl ?_
            refine TO.nil ?_
            exact TE.jb_go () [4, 4, 3, 1, 0] ⟨rfl, rfl, rfl, rfl, rfl, rfl, rfl, trivial⟩ rfl
          · refine TO.y (Y.move rfl) (Gd.at 5 false 44 (!(decide (((R22.length : Nat) : Int) = ((R25.length : Nat) : Int)))) rfl rfl rfl (beq_ff H30)) rfl rfl ?_
            refine TO.y (Y.len (l := R22) ke47 (Can.own 1 rfl) rfl) (Gd.at 5 false 44 (!(decide (((R22.length : Nat) : Int) = ((R25.length : Nat) : Int)))) rfl rfl rfl (beq_ff H30)) rfl rfl ?_
            refine TO.y (Y.move rfl) (Gd.at 5 false 44 (!(decide (((R22.length : Nat) : Int) = ((R25.length : Nat) : Int)))) rfl rfl rfl (beq_ff H30)) rfl rfl ?_
            refine TO.y (Y.len (l := R5.2.1) ke41 (Can.own 5 rfl) rfl) (Gd.at 5 false 44 (!(decide (((R22.length : Nat) : Int) = ((R25.length : Nat) : Int)))) rfl rfl rfl (beq_ff H30)) rfl rfl ?_
            refine TO.y (Y.add rfl rfl) (Gd.at 5 false 44 (!(decide (((R22.length : Nat) : Int) = ((R25.length : Nat) : Int)))) rfl rfl rfl (beq_ff H30)) rfl rfl ?_
            refine TO.y (Y.neq rfl rfl) (Gd.at 5 false 44 (!(decide (((R22.length : Nat) : Int) = ((R25.length : Nat) : Int)))) rfl rfl rfl (beq_ff H30)) rfl rfl ?_
            refine TO.y (Y.pick_f H30 rfl rfl) rfl rfl rfl ?_
            refine TO.nil ?_
            exact TE.jb_go () [4, 4, 3, 1, 0] ⟨rfl, rfl, rfl, rfl, rfl, rfl, rfl, trivial⟩ rfl
        · refine TE.next ?_
          refine TW.cond rfl (fun H31 => ?_) (fun H31 => ?_)
          · refine TW.seq ?_
            refine TW.region ?_
            refine TO.y (Y.assign rfl) rfl rfl rfl ?_
            refine TO.nil ?_
            refine TE.next ?_
            refine TW.ret ?_
            refine TE.then_ret ?_
            exact TE.leaf fun _ _ hf_ hs_ => ret_any (rs := [.tmp 2]) (vs := [.bool false]) (.inl rfl) rfl ⟨rfl, trivial⟩ hf_ hs_ ⟨(), rfl, hs_.pulls [] rfl⟩
          · refine TW.skip ?_
            refine TE.next ?_
            refine TW.seq ?_
            refine TW.seq ?_
            refine TW.region ?_
            refine TO.y (Y.assign rfl) rfl rfl rfl ?_
            refine TO.nil ?_
            refine TE.next ?_
            refine TW.joinX (τ := Unit) (X := Unit) (fun _ _ => [(3, Y7.1), (4, Y7.2), (5, .bool R5.2.2), (6, Y10)]) (fun _ _ => [.own Y7.1 (lc R5.1), .own Y7.2 (lc R5.2.1), .own Y10 (lc R8)]) ?_ (fun T34 X35 => ?_)
            · refine TW.block ?_
              refine TW.loopX (σ := Int) (X := Unit) (fun T _ => [(3, Y7.1), (4, Y7.2), (5, .bool R5.2.2), (6, Y10), (7, Y24), (8, Y27), (9, .int .i64 T)]) (fun _ _ => [.own Y7.1 (lc R5.1), .own Y7.2 (lc R5.2.1), .own Y10 (lc R8), .own Y24 (lc R22), .own Y27 (lc R25)]) () [0, 0, 0, 0, 0] ⟨rfl, rfl, rfl, rfl, rfl, rfl, rfl, trivial⟩ rfl (fun S32 X33 => ?_)
              refine TW.seq ?_
              refine TW.seq ?_
              refine TW.region ?_
              refine TO.y (Y.move rfl) rfl rfl rfl ?_
              refine TO.y (Y.move rfl) rfl rfl rfl ?_
              refine TO.y (Y.len (l := R22) ke47 (Can.own 3 rfl) rfl) rfl rfl rfl ?_
              refine TO.y (Y.lss rfl rfl) rfl rfl rfl ?_
              refine TO.nil ?_
              refine TE.next ?_
              refine TW.cond rfl (fun H36 => ?_) (fun H36 => ?_)
              · refine TW.skip ?_
                refine TE.next ?_
                refine TW.seq ?_
                refine TW.block ?_
                refine TW.seq ?_
                refine TW.bind fun E37 H38 => ?_
                refine TW.bind fun E39 H40 => ?_
                refine TW.bind fun R45 H46 => ?_
                refine TW.joinU (X := Unit) (fun _ _ => [(3, Y7.1), (4, Y7.2), (5, .bool R5.2.2), (6, Y10), (7, Y24), (8, Y27), (9, .int .i64 S32), (67, .bool (!R45))]) (fun _ _ => [.own Y7.1 (lc R5.1), .own Y7.2 (lc R5.2.1), .own Y10 (lc R8), .own Y24 (lc R22), .own Y27 (lc R25)]) ?_ (fun _ X49 => ?_)
                · refine TW.draw (isH := [.own Y7.1 (lc R5.1), .own Y7.2 (lc R5.2.1), .own Y10 (lc R8)]) hMix ?_
                  refine TA.y (listed' := #[true, false, false, false, false, false, false, false, false, false]) 0 [0, 0, 0] rfl (Y.move rfl) rfl rfl rfl (by kernel_rfl) (by kernel_rfl) (by kernel_rfl) rfl rfl ?_
                  refine TA.y (listed' := #[true, true, false, false, false, false, false, false, false, false]) 1 [0, 0, 0] rfl (Y.move rfl) rfl rfl rfl (by kernel_rfl) (by kernel_rfl) (by kernel_rfl) rfl rfl ?_
                  refine TA.y (listed' := #[true, true, false, false, true, false, false, false, false, false]) 4 [0, 0, 0] rfl (Y.move rfl) rfl rfl rfl (by kernel_rfl) (by kernel_rfl) (by kernel_rfl) rfl rfl ?_
                  refine TA.y (listed' := #[true, true, false, false, true, true, false, false, false, false]) 5 [0, 0, 0] rfl (Y.move rfl) rfl rfl rfl (by kernel_rfl) (by kernel_rfl) (by kernel_rfl) rfl rfl ?_
                  refine TA.two 2 6 (by kernel_rfl) ?_ ?_
                  · refine TX.y (listed' := #[true, true, true, false, true, true, false, false, false, false]) [0, 0, 0] rfl (Y.index ke47 (Can.own 3 rfl) H38 rfl rfl) rfl rfl rfl rfl rfl ?_
                    refine TA.ghost (X := Value) (is' := fun X51 => [.own Y24 (hl R22 S32.toNat [.raw X51]), .own X51 (lc E37), .own Y7.1 (lc R5.1), .own Y7.2 (lc R5.2.1), .own Y10 (lc R8), .own Y27 (lc R25)]) (Gh.open 1 S32.toNat [3, 0, 0, 0, 0] rfl (idx_get H38).2.2 rfl) (fun X51 => ?_)
                    refine TA.two 3 6 (by kernel_rfl) ?_ ?_
                    · refine TX.y (listed' := #[true, true, true, true, true, true, false, false, false, false]) [2, 2, 2] rfl (Y.load_hole (α := List KV) (us := [X51]) (u := X51) kk24 rfl (i := 0) rfl (idx_get H38).2.2 rfl rfl rfl rfl rfl rfl) rfl rfl rfl rfl rfl ?_
                      refine TA.one 6 (by kernel_rfl) ?_
                      refine TX.y (listed' := #[true, true, true, true, true, true, true, false, false, false]) [2, 2, 2] rfl (Y.index ke47 (Can.own 5 rfl) H40 rfl rfl) rfl rfl rfl rfl rfl ?_
                      refine TA.ghost (X := Value) (is' := fun X53 => [.own Y27 (hl R25 S32.toNat [.raw X53]), .own X53 (lc E39), .own Y24 (hl R22 S32.toNat [.raw X51]), .own X51 (lc E37), .own Y7.1 (lc R5.1), .own Y7.2 (lc R5.2.1), .own Y10 (lc R8)]) (Gh.open 1 S32.toNat [5, 0, 0, 0, 0, 0] rfl (idx_get H40).2.2 rfl) (fun X53 => ?_)
                      refine TA.one 7 (by kernel_rfl) ?_
                      refine TX.y (listed' := #[true, true, true, true, true, true, true, true, false, false]) [4, 4, 4] rfl (Y.load_hole (α := List KV) (us := [X53]) (u := X53) kk24 rfl (i := 0) rfl (idx_get H40).2.2 rfl rfl rfl rfl rfl rfl) rfl rfl rfl rfl rfl ?_
                      refine TA.one 8 (by kernel_rfl) ?_
                      refine TX.ef (listed' := #[true, true, true, true, true, true, true, true, true, false]) [4, 4, 4] rfl (Ef.call (rest := [.own Y27 (hl R25 S32.toNat [.raw X53]), .own X53 (lc E39), .own Y24 (hl R22 S32.toNat [.raw X51]), .own X51 (lc E37), .own Y7.1 (lc R5.1), .own Y7.2 (lc R5.2.1), .own Y10 (lc R8)]) [0, 0, 0, 0, 0, 0, 0] (laws_sameMap_con E37 E39 X51 X53 R45 H46) kc12 rfl rfl ⟨(Can.own 3 rfl), (Can.own 1 rfl), trivial⟩) rfl rfl rfl rfl (fun _ => rfl) (fun _ => ?_)
                      refine TA.y (listed' := #[true, true, true, true, true, true, true, true, true, true]) 9 [4, 4, 4] rfl (Y.not rfl) rfl rfl rfl (by kernel_rfl) (by kernel_rfl) (by kernel_rfl) rfl rfl ?_
                      refine TA.nil (by kernel_rfl) ?_
                      refine TE.ghost (is' := fun _ => [.own Y27 (lc R25), .own Y24 (hl R22 S32.toNat [.raw X51]), .own X51 (lc E37), .own Y7.1 (lc R5.1), .own Y7.2 (lc R5.2.1), .own Y10 (lc R8)]) (Gh.close_same (js := [.own X53 (lc E39)]) (r := [.own Y24 (hl R22 S32.toNat [.raw X51]), .own X51 (lc E37), .own Y7.1 (lc R5.1), .own Y7.2 (lc R5.2.1), .own Y10 (lc R8)]) [0, 0, 0, 0, 0, 0, 0] rfl (idx_get H40).2.2 (Cls.fill Cls.nil) rfl) (fun _ => ?_)
                      refine TE.ghost (is' := fun _ => [.own Y24 (lc R22), .own Y27 (lc R25), .own Y7.1 (lc R5.1), .own Y7.2 (lc R5.2.1), .own Y10 (lc R8)]) (Gh.close_same (js := [.own X51 (lc E37)]) (r := [.own Y27 (lc R25), .own Y7.1 (lc R5.1), .own Y7.2 (lc R5.2.1), .own Y10 (lc R8)]) [1, 1, 0, 0, 0, 0] rfl (idx_get H38).2.2 (Cls.fill Cls.nil) rfl) (fun _ => ?_)
                      exact TE.jb_go () [2, 2, 2, 0, 0] ⟨rfl, rfl, rfl, rfl, rfl, rfl, rfl, rfl, trivial⟩ rfl
                    · refine TX.y (listed' := #[true, true, true, false, true, true, true, false, false, false]) [2, 2, 2] rfl (Y.index ke47 (Can.own 5 rfl) H40 rfl rfl) rfl rfl rfl rfl rfl ?_
                      refine TA.ghost (X := Value) (is' := fun X53 => [.own Y27 (hl R25 S32.toNat [.raw X53]), .own X53 (lc E39), .own Y24 (hl R22 S32.toNat [.raw X51]), .own X51 (lc E37), .own Y7.1 (lc R5.1), .own Y7.2 (lc R5.2.1), .own Y10 (lc R8)]) (Gh.open 1 S32.toNat [5, 0, 0, 0, 0, 0] rfl (idx_get H40).2.2 rfl) (fun X53 => ?_)
                      refine TA.two 3 7 (by kernel_rfl) ?_ ?_
                      · refine TX.y (listed' := #[true, true, true, true, true, true, true, false, false, false]) [4, 4, 4] rfl (Y.load_hole (α := List KV) (us := [X51]) (u := X51) kk24 rfl (i := 2) rfl (idx_get H38).2.2 rfl rfl rfl rfl rfl rfl) rfl rfl rfl rfl rfl ?_
                        refine TA.one 7 (by kernel_rfl) ?_
                        refine TX.y (listed' := #[true, true, true, true, true, true, true, true, false, false]) [4, 4, 4] rfl (Y.load_hole (α := List KV) (us := [X53]) (u := X53) kk24 rfl (i := 0) rfl (idx_get H40).2.2 rfl rfl rfl rfl rfl rfl) rfl rfl rfl rfl rfl ?_
                        refine TA.one 8 (by kernel_rfl) ?_
                        refine TX.ef (listed' := #[true, true, true, true, true, true, true, true, true, false]) [4, 4, 4] rfl (Ef.call (rest := [.own Y27 (hl R25 S32.toNat [.raw X53]), .own X53 (lc E39), .own Y24 (hl R22 S32.toNat [.raw X51]), .own X51 (lc E37), .own Y7.1 (lc R5.1), .own Y7.2 (lc R5.2.1), .own Y10 (lc R8)]) [0, 0, 0, 0, 0, 0, 0] (laws_sameMap_con E37 E39 X51 X53 R45 H46) kc12 rfl rfl ⟨(Can.own 3 rfl), (Can.own 1 rfl), trivial⟩) rfl rfl rfl rfl (fun _ => rfl) (fun _ => ?_)
                        refine TA.y (listed' := #[true, true, true, true, true, true, true, true, true, true]) 9 [4, 4, 4] rfl (Y.not rfl) rfl rfl rfl (by kernel_rfl) (by kernel_rfl) (by kernel_rfl) rfl rfl ?_
                        refine TA.nil (by kernel_rfl) ?_
                        refine TE.ghost (is' := fun _ => [.own Y27 (lc R25), .own Y24 (hl R22 S32.toNat [.raw X51]), .own X51 (lc E37), .own Y7.1 (lc R5.1), .own Y7.2 (lc R5.2.1), .own Y10 (lc R8)]) (Gh.close_same (js := [.own X53 (lc E39)]) (r := [.own Y24 (hl R22 S32.toNat [.raw X51]), .own X51 (lc E37), .own Y7.1 (lc R5.1), .own Y7.2 (lc R5.2.1), .own Y10 (lc R8)]) [0, 0, 0, 0, 0, 0, 0] rfl (idx_get H40).2.2 (Cls.fill Cls.nil) rfl) (fun _ => ?_)
                        refine TE.ghost (is' := fun _ => [.own Y24 (lc R22), .own Y27 (lc R25), .own Y7.1 (lc R5.1), .own Y7.2 (lc R5.2.1), .own Y10 (lc R8)]) (Gh.close_same (js := [.own X51 (lc E37)]) (r := [.own Y27 (lc R25), .own Y7.1 (lc R5.1), .own Y7.2 (lc R5.2.1), .own Y10 (lc R8)]) [1, 1, 0, 0, 0, 0] rfl (idx_get H38).2.2 (Cls.fill Cls.nil) rfl) (fun _ => ?_)
                        exact TE.jb_go () [2, 2, 2, 0, 0] ⟨rfl, rfl, rfl, rfl, rfl, rfl, rfl, rfl, trivial⟩ rfl
                      · refine TX.y (listed' := #[true, true, true, false, true, true, true, true, false, false]) [4, 4, 4] rfl (Y.load_hole (α := List KV) (us := [X53]) (u := X53) kk24 rfl (i := 0) rfl (idx_get H40).2.2 rfl rfl rfl rfl rfl rfl) rfl rfl rfl rfl rfl ?_
                        refine TA.one 3 (by kernel_rfl) ?_
                        refine TX.y (listed' := #[true, true, true, true, true, true, true, true, false, false]) [4, 4, 4] rfl (Y.load_hole (α := List KV) (us := [X51]) (u := X51) kk24 rfl (i := 2) rfl (idx_get H38).2.2 rfl rfl rfl rfl rfl rfl) rfl rfl rfl rfl rfl ?_
                        refine TA.one 8 (by kernel_rfl) ?_
                        refine TX.ef (listed' := #[true, true, true, true, true, true, true, true, true, false]) [4, 4, 4] rfl (Ef.call (rest := [.own Y27 (hl R25 S32.toNat [.raw X53]), .own X53 (lc E39), .own Y24 (hl R22 S32.toNat [.raw X51]), .own X51 (lc E37), .own Y7.1 (lc R5.1), .own Y7.2 (lc R5.2.1), .own Y10 (lc R8)]) [0, 0, 0, 0, 0, 0, 0] (laws_sameMap_con E37 E39 X51 X53 R45 H46) kc12 rfl rfl ⟨(Can.own 3 rfl), (Can.own 1 rfl), trivial⟩) rfl rfl rfl rfl (fun _ => rfl) (fun _ => ?_)
                        refine TA.y (listed' := #[true, true, true, true, true, true, true, true, true, true]) 9 [4, 4, 4] rfl (Y.not rfl) rfl rfl rfl (by kernel_rfl) (by kernel_rfl) (by kernel_rfl) rfl rfl ?_
                        refine TA.nil (by kernel_rfl) ?_
                        refine TE.ghost (is' := fun _ => [.own Y27 (lc R25), .own Y24 (hl R22 S32.toNat [.raw X51]), .own X51 (lc E37), .own Y7.1 (lc R5.1), .own Y7.2 (lc R5.2.1), .own Y10 (lc R8)]) (Gh.close_same (js := [.own X53 (lc E39)]) (r := [.own Y24 (hl R22 S32.toNat [.raw X51]), .own X51 (lc E37), .own Y7.1 (lc R5.1), .own Y7.2 (lc R5.2.1), .own Y10 (lc R8)]) [0, 0, 0, 0, 0, 0, 0] rfl (idx_get H40).2.2 (Cls.fill Cls.nil) rfl) (fun _ => ?_)
                        refine TE.ghost (is' := fun _ => [.own Y24 (lc R22), .own Y27 (lc R25), .own Y7.1 (lc R5.1), .own Y7.2 (lc R5.2.1), .own Y10 (lc R8)]) (Gh.close_same (js := [.own X51 (lc E37)]) (r := [.own Y27 (lc R25), .own Y7.1 (lc R5.1), .own Y7.2 (lc R5.2.1), .own Y10 (lc R8)]) [1, 1, 0, 0, 0, 0] rfl (idx_get H38).2.2 (Cls.fill Cls.nil) rfl) (fun _ => ?_)
                        exact TE.jb_go () [2, 2, 2, 0, 0] ⟨rfl, rfl, rfl, rfl, rfl, rfl, rfl, rfl, trivial⟩ rfl
                  · refine TX.y (listed' := #[true, true, false, false, true, true, true, false, false, false]) [0, 0, 0] rfl (Y.index ke47 (Can.own 4 rfl) H40 rfl rfl) rfl rfl rfl rfl rfl ?_
                    refine TA.ghost (X := Value) (is' := fun X51 => [.own Y27 (hl R25 S32.toNat [.raw X51]), .own X51 (lc E39), .own Y7.1 (lc R5.1), .own Y7.2 (lc R5.2.1), .own Y10 (lc R8), .own Y24 (lc R22)]) (Gh.open 1 S32.toNat [4, 0, 0, 0, 0] rfl (idx_get H40).2.2 rfl) (fun X51 => ?_)
                    refine TA.two 2 7 (by kernel_rfl) ?_ ?_
                    · refine TX.y (listed' := #[true, true, true, false, true, true, true, false, false, false]) [2, 2, 2] rfl (Y.index ke47 (Can.own 5 rfl) H38 rfl rfl) rfl rfl rfl rfl rfl ?_
                      refine TA.ghost (X := Value) (is' := fun X53 => [.own Y24 (hl R22 S32.toNat [.raw X53]), .own X53 (lc E37), .own Y27 (hl R25 S32.toNat [.raw X51]), .own X51 (lc E39), .own Y7.1 (lc R5.1), .own Y7.2 (lc R5.2.1), .own Y10 (lc R8)]) (Gh.open 1 S32.toNat [5, 0, 0, 0, 0, 0] rfl (idx_get H38).2.2 rfl) (fun X53 => ?_)
                      refine TA.two 3 7 (by kernel_rfl) ?_ ?_
                      · refine TX.y (listed' := #[true, true, true, true, true, true, true, false, false, false]) [4, 4, 4] rfl (Y.load_hole (α := List KV) (us := [X53]) (u := X53) kk24 rfl (i := 0) rfl (idx_get H38).2.2 rfl rfl rfl rfl rfl rfl) rfl rfl rfl rfl rfl ?_
                        refine TA.one 7 (by kernel_rfl) ?_
                        refine TX.y (listed' := #[true, true, true, true, true, true, true, true, false, false]) [4, 4, 4] rfl (Y.load_hole (α := List KV) (us := [X51]) (u := X51) kk24 rfl (i := 2) rfl (idx_get H40).2.2 rfl rfl rfl rfl rfl rfl) rfl rfl rfl rfl rfl ?_
                        refine TA.one 8 (by kernel_rfl) ?_
                        refine TX.ef (listed' := #[true, true, true, true, true, true, true, true, true, false]) [4, 4, 4] rfl (Ef.call (rest := [.own Y24 (hl R22 S32.toNat [.raw X53]), .own X53 (lc E37), .own Y27 (hl R25 S32.toNat [.raw X51]), .own X51 (lc E39), .own Y7.1 (lc R5.1), .own Y7.2 (lc R5.2.1), .own Y10 (lc R8)]) [0, 0, 0, 0, 0, 0, 0] (laws_sameMap_con E37 E39 X53 X51 R45 H46) kc12 rfl rfl ⟨(Can.own 1 rfl), (Can.own 3 rfl), trivial⟩) rfl rfl rfl rfl (fun _ => rfl) (fun _ => ?_)
                        refine TA.y (listed' := #[true, true, true, true, true, true, true, true, true, true]) 9 [4, 4, 4] rfl (Y.not rfl) rfl rfl rfl (by kernel_rfl) (by kernel_rfl) (by kernel_rfl) rfl rfl ?_
                        refine TA.nil (by kernel_rfl) ?_
                        refine TE.ghost (is' := fun _ => [.own Y24 (lc R22), .own Y27 (hl R25 S32.toNat [.raw X51]), .own X51 (lc E39), .own Y7.1 (lc R5.1), .own Y7.2 (lc R5.2.1), .own Y10 (lc R8)]) (Gh.close_same (js := [.own X53 (lc E37)]) (r := [.own Y27 (hl R25 S32.toNat [.raw X51]), .own X51 (lc E39), .own Y7.1 (lc R5.1), .own Y7.2 (lc R5.2.1), .own Y10 (lc R8)]) [0, 0, 0, 0, 0, 0, 0] rfl (idx_get H38).2.2 (Cls.fill Cls.nil) rfl) (fun _ => ?_)
                        refine TE.ghost (is' := fun _ => [.own Y27 (lc R25), .own Y24 (lc R22), .own Y7.1 (lc R5.1), .own Y7.2 (lc R5.2.1), .own Y10 (lc R8)]) (Gh.close_same (js := [.own X51 (lc E39)]) (r := [.own Y24 (lc R22), .own Y7.1 (lc R5.1), .own Y7.2 (lc R5.2.1), .own Y10 (lc R8)]) [1, 1, 0, 0, 0, 0] rfl (idx_get H40).2.2 (Cls.fill Cls.nil) rfl) (fun _ => ?_)
                        exact TE.jb_go () [2, 2, 2, 1, 0] ⟨rfl, rfl, rfl, rfl, rfl, rfl, rfl, rfl, trivial⟩ rfl
                      · refine TX.y (listed' := #[true, true, true, false, true, true, true, true, false, false]) [4, 4, 4] rfl (Y.load_hole (α := List KV) (us := [X51]) (u := X51) kk24 rfl (i := 2) rfl (idx_get H40).2.2 rfl rfl rfl rfl rfl rfl) rfl rfl rfl rfl rfl ?_
                        refine TA.one 3 (by kernel_rfl) ?_
                        refine TX.y (listed' := #[true, true, true, true, true, true, true, true, false, false]) [4, 4, 4] rfl (Y.load_hole (α := List KV) (us := [X53]) (u := X53) kk24 rfl (i := 0) rfl (idx_get H38).2.2 rfl rfl rfl rfl rfl rfl) rfl rfl rfl rfl rfl ?_
                        refine TA.one 8 (by kernel_rfl) ?_
                        refine TX.ef (listed' := #[true, true, true, true, true, true, true, true, true, false]) [4, 4, 4] rfl (Ef.call (rest := [.own Y24 (hl R22 S32.toNat [.raw X53]), .own X53 (lc E37), .own Y27 (hl R25 S32.toNat [.raw X51]), .own X51 (lc E39), .own Y7.1 (lc R5.1), .own Y7.2 (lc R5.2.1), .own Y10 (lc R8)]) [0, 0, 0, 0, 0, 0, 0] (laws_sameMap_con E37 E39 X53 X51 R45 H46) kc12 rfl rfl ⟨(Can.own 1 rfl), (Can.own 3 rfl), trivial⟩) rfl rfl rfl rfl (fun _ => rfl) (fun _ => ?_)
                        refine TA.y (listed' := #[true, true, true, true, true, true, true, true, true, true]) 9 [4, 4, 4] rfl (Y.not rfl) rfl rfl rfl (by kernel_rfl) (by kernel_rfl) (by kernel_rfl) rfl rfl ?_
                        refine TA.nil (by kernel_rfl) ?_
                        refine TE.ghost (is' := fun _ => [.own Y24 (lc R22), .own Y27 (hl R25 S32.toNat [.raw X51]), .own X51 (lc E39), .own Y7.1 (lc R5.1), .own Y7.2 (lc R5.2.1), .own Y10 (lc R8)]) (Gh.close_same (js := [.own X53 (lc E37)]) (r := [.own Y27 (hl R25 S32.toNat [.raw X51]), .own X51 (lc E39), .own Y7.1 (lc R5.1), .own Y7.2 (lc R5.2.1), .own Y10 (lc R8)]) [0, 0, 0, 0, 0, 0, 0] rfl (idx_get H38).2.2 (Cls.fill Cls.nil) rfl) (fun _ => ?_)
                        refine TE.ghost (is' := fun _ => [.own Y27 (lc R25), .own Y24 (lc R22), .own Y7.1 (lc R5.1), .own Y7.2 (lc R5.2.1), .own Y10 (lc R8)]) (Gh.close_same (js := [.own X51 (lc E39)]) (r := [.own Y24 (lc R22), .own Y7.1 (lc R5.1), .own Y7.2 (lc R5.2.1), .own Y10 (lc R8)]) [1, 1, 0, 0, 0, 0] rfl (idx_get H40).2.2 (Cls.fill Cls.nil) rfl) (fun _ => ?_)
                        exact TE.jb_go () [2, 2, 2, 1, 0] ⟨rfl, rfl, rfl, rfl, rfl, rfl, rfl, rfl, trivial⟩ rfl
                    · refine TX.y (listed' := #[true, true, false, false, true, true, true, true, false, false]) [2, 2, 2] rfl (Y.load_hole (α := List KV) (us := [X51]) (u := X51) kk24 rfl (i := 0) rfl (idx_get H40).2.2 rfl rfl rfl rfl rfl rfl) rfl rfl rfl rfl rfl ?_
                      refine TA.one 2 (by kernel_rfl) ?_
                      refine TX.y (listed' := #[true, true, true, false, true, true, true, true, false, false]) [2, 2, 2] rfl (Y.index ke47 (Can.own 5 rfl) H38 rfl rfl) rfl rfl rfl rfl rfl ?_
                      refine TA.ghost (X := Value) (is' := fun X53 => [.own Y24 (hl R22 S32.toNat [.raw X53]), .own X53 (lc E37), .own Y27 (hl R25 S32.toNat [.raw X51]), .own X51 (lc E39), .own Y7.1 (lc R5.1), .own Y7.2 (lc R5.2.1), .own Y10 (lc R8)]) (Gh.open 1 S32.toNat [5, 0, 0, 0, 0, 0] rfl (idx_get H38).2.2 rfl) (fun X53 => ?_)
                      refine TA.one 3 (by kernel_rfl) ?_
                      refine TX.y (listed' := #[true, true, true, true, true, true, true, true, false, false]) [4, 4, 4] rfl (Y.load_hole (α := List KV) (us := [X53]) (u := X53) kk24 rfl (i := 0) rfl (idx_get H38).2.2 rfl rfl rfl rfl rfl rfl) rfl rfl rfl rfl rfl ?_
                      refine TA.one 8 (by kernel_rfl) ?_
                      refine TX.ef (listed' := #[true, true, true, true, true, true, true, true, true, false]) [4, 4, 4] rfl (Ef.call (rest := [.own Y24 (hl R22 S32.toNat [.raw X53]), .own X53 (lc E37), .own Y27 (hl R25 S32.toNat [.raw X51]), .own X51 (lc E39), .own Y7.1 (lc R5.1), .own Y7.2 (lc R5.2.1), .own Y10 (lc R8)]) [0, 0, 0, 0, 0, 0, 0] (laws_sameMap_con E37 E39 X53 X51 R45 H46) kc12 rfl rfl ⟨(Can.own 1 rfl), (Can.own 3 rfl), trivial⟩) rfl rfl rfl rfl (fun _ => rfl) (fun _ => ?_)
                      refine TA.y (listed' := #[true, true, true, true, true, true, true, true, true, true]) 9 [4, 4, 4] rfl (Y.not rfl) rfl rfl rfl (by kernel_rfl) (by kernel_rfl) (by kernel_rfl) rfl rfl ?_
                      refine TA.nil (by kernel_rfl) ?_
                      refine TE.ghost (is' := fun _ => [.own Y24 (lc R22), .own Y27 (hl R25 S32.toNat [.raw X51]), .own X51 (lc E39), .own Y7.1 (lc R5.1), .own Y7.2 (lc R5.2.1), .own Y10 (lc R8)]) (Gh.close_same (js := [.own X53 (lc E37)]) (r := [.own Y27 (hl R25 S32.toNat [.raw X51]), .own X51 (lc E39), .own Y7.1 (lc R5.1), .own Y7.2 (lc R5.2.1), .own Y10 (lc R8)]) [0, 0, 0, 0, 0, 0, 0] rfl (idx_get H38).2.2 (Cls.fill Cls.nil) rfl) (fun _ => ?_)
                      refine TE.ghost (is' := fun _ => [.own Y27 (lc R25), .own Y24 (lc R22), .own Y7.1 (lc R5.1), .own Y7.2 (lc R5.2.1), .own Y10 (lc R8)]) (Gh.close_same (js := [.own X51 (lc E39)]) (r := [.own Y24 (lc R22), .own Y7.1 (lc R5.1), .own Y7.2 (lc R5.2.1), .own Y10 (lc R8)]) [1, 1, 0, 0, 0, 0] rfl (idx_get H40).2.2 (Cls.fill Cls.nil) rfl) (fun _ => ?_)
                      exact TE.jb_go () [2, 2, 2, 1, 0] ⟨rfl, rfl, rfl, rfl, rfl, rfl, rfl, rfl, trivial⟩ rfl
                · refine TE.next ?_
                  refine TW.cond rfl (fun H50 => ?_) (fun H50 => ?_)
                  · refine TW.seq ?_
                    refine TW.region ?_
                    refine TO.y (Y.assign rfl) rfl rfl rfl ?_
                    refine TO.nil ?_
                    refine TE.next ?_
                    refine TW.ret ?_
                    refine TE.block_ret ?_
                    refine TE.then_ret ?_
                    refine TE.lp_ret ?_
                    refine TE.block_ret ?_
                    refine TE.jn_done ?_
                    refine TE.then_ret ?_
                    exact TE.leaf fun _ _ hf_ hs_ => ret_any (rs := [.tmp 2]) (vs := [.bool false]) (.inl rfl) rfl ⟨rfl, trivial⟩ hf_ hs_ ⟨(), rfl, hs_.pulls [] rfl⟩
                  · refine TW.skip ?_
                    refine TE.block_normal ?_
                    refine TE.next ?_
                    refine TW.region ?_
                    refine TO.y (Y.move rfl) rfl rfl rfl ?_
                    refine TO.y (Y.add rfl rfl) rfl rfl rfl ?_
                    refine TO.y (Y.assign rfl) rfl rfl rfl ?_
                    refine TO.nil ?_
                    exact TE.lp_go () [0, 0, 0, 0, 0] ⟨rfl, rfl, rfl, rfl, rfl, rfl, rfl, trivial⟩ rfl
              · refine TW.exit ?_
                refine TE.then_exit ?_
                refine TE.lp_exit ?_
                refine TE.block_exit ?_
                exact TE.jn_go () [0, 0, 0] ⟨rfl, rfl, rfl, rfl, trivial⟩ rfl
            · refine TE.next ?_
              refine TW.seq ?_
              refine TW.region ?_
              refine TO.y (Y.move rfl) rfl rfl rfl ?_
              refine TO.y (Y.move rfl) rfl rfl rfl ?_
              refine TO.y (Y.move rfl) rfl rfl rfl ?_
              refine TO.bind fun R51 H52 => ?_
              refine TO.ef (Ef.call (rest := [.own Y7.1 (lc R5.1), .own Y7.2 (lc R5.2.1), .own Y10 (lc R8)]) [0, 0, 0] (impl_CompactEnts_con R8 R5.2.1 R5.2.2 Y10 Y7.2 R51 H52) kc17 rfl rfl ⟨(Can.own 2 rfl), (Can.own 1 rfl), trivial⟩) rfl rfl rfl (fun Y53 => ?_)
              refine TO.y (Y.assign rfl) rfl rfl rfl ?_
              refine TO.nil ?_
              refine TE.next ?_
              refine TW.seq ?_
              refine TW.joinBX (τ := Bool) (X := Unit) (fun T _ => [(2, .bool T)]) (fun _ _ => []) ?_ (fun T54 X55 => ?_)
              · refine TW.region ?_
                refine TO.y (Y.move rfl) rfl rfl rfl ?_
                refine TO.y (Y.move rfl) rfl rfl rfl ?_
                refine TO.bind fun R56 H57 => ?_
                refine TO.ef (Ef.call (rest := [.own Y53 (lc R51), .own Y7.1 (lc R5.1), .own Y7.2 (lc R5.2.1), .own Y10 (lc R8)]) [0, 0, 0, 0] (laws_sameEnts_con R8 R51 Y10 Y53 R56 H57) kc18 rfl rfl ⟨(Can.own 3 rfl), (Can.own 0 rfl), trivial⟩) rfl rfl rfl (fun _ => ?_)
                refine TO.y (Y.move rfl) rfl rfl rfl ?_
                refine TO.ite (b := R56) (fun H59 => ?_) (fun H59 => ?_)
                · refine TO.y (Y.move rfl) (Gd.at 3 true 75 R56 rfl rfl rfl (beq_tt H59)) rfl rfl ?_
                  refine TO.y (Y.len (l := R8) ke40 (Can.own 3 rfl) rfl) (Gd.at 3 true 75 R56 rfl rfl rfl (beq_tt H59)) rfl rfl ?_
                  refine TO.y (Y.move rfl) (Gd.at 3 true 75 R56 rfl rfl rfl (beq_tt H59)) rfl rfl ?_
                  refine TO.y (Y.len (l := R5.1) ke40 (Can.own 1 rfl) rfl) (Gd.at 3 true 75 R56 rfl rfl rfl (beq_tt H59)) rfl rfl ?_
                  refine TO.y (Y.leq rfl rfl) (Gd.at 3 true 75 R56 rfl rfl rfl (beq_tt H59)) rfl rfl ?_
                  refine TO.y (Y.pick_t H59 rfl rfl) rfl rfl rfl ?_
                  refine TO.y (Y.assign rfl) rfl rfl rfl ?_
                  refine TO.nil ?_
                  exact TE.jb_go () [] ⟨rfl, trivial⟩ rfl
                · refine TO.off (Gd.at 3 true 75 R56 rfl rfl rfl (beq_ft H59)) rfl rfl ?_
                  refine TO.off (Gd.at 3 true 75 R56 rfl rfl rfl (beq_ft H59)) rfl rfl ?_
                  refine TO.off (Gd.at 3 true 75 R56 rfl rfl rfl (beq_ft H59)) rfl rfl ?_
                  refine TO.off (Gd.at 3 true 75 R56 rfl rfl rfl (beq_ft H59)) rfl rfl ?_
                  refine TO.off (Gd.at 3 true 75 R56 rfl rfl rfl (beq_ft H59)) rfl rfl ?_
                  refine TO.y (Y.pick_f H59 rfl rfl) rfl rfl rfl ?_
                  refine TO.y (Y.assign rfl) rfl rfl rfl ?_
                  refine TO.nil ?_
                  exact TE.jb_go () [] ⟨rfl, trivial⟩ rfl
              · refine TE.next ?_
                refine TW.ret ?_
                exact TE.leaf fun _ _ hf_ hs_ => ret_any (rs := [.tmp 2]) (vs := [.bool T54]) (.inl rfl) rfl ⟨rfl, trivial⟩ hf_ hs_ ⟨(), rfl, hs_.pulls [] rfl⟩

end Go.Proofs.Ytahennbogdbnmaa
