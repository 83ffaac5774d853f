/-
  The functions that a law reaches, each as a pure function, with the proof that the program computes it, and the step from a pure law to the given statement. Conditions: none.
-/
import Derived.Test.YtpnnbeiojpphhaaF2
set_option linter.unusedVariables false
set_option maxRecDepth 100000
namespace Go.Proofs.Ytpnnbeiojpphhaa
open Go Sl

/-- loop.example/g00950/laws.FnExactFilesPick -/
noncomputable def laws_FnExactFilesPick (aL : List File) (aLevel : Int) : Option Bool :=
  (laws_szFileS aL (1048576 : Int)).bind fun R1 =>
  if (decide (R1 < (0 : Int))) = true then (some true)
  else ((laws_toFileS aL).bind fun R5 =>
  (spec_FilesPick R5 aLevel).bind fun R8 =>
  (impl_FilesPick R5 aLevel).bind fun R12 =>
  (laws_eqIntS R12 R8).bind fun R15 =>
  if (!R15) = true then (some false)
  else ((laws_eqFileS R5 R5).bind fun R20 =>
  if (!R20) = true then (some false)
  else ((laws_markFileS R5 (1 : Int)).bind fun R24 =>
  (if (decide (R24.1 < (0 : Int))) = true then (some true)
  else (some (!R15))).bind (fun (T27 : Bool) =>
  if T27 = true then (some false)
  else ((laws_markIntS R12 (1 : Int)).bind fun R32 =>
  (laws_heldIntS R32.2 (1 : Int)).bind fun R35 =>
  if (decide (R35 < (0 : Int))) = true then (some false)
  else (if (!(decide (R35 = R32.1))) = true then (some false)
  else (if (!R15) = true then (some false)
  else (if (decide (R35 < (0 : Int))) = true then (some false)
  else (if (!(decide (R35 = R32.1))) = true then (some false)
  else (some true))))))))))

theorem laws_FnExactFilesPick_con (aL : List File) (aLevel : Int) (V_aL0 : Value) (r : Bool) (hm : laws_FnExactFilesPick aL aLevel = some r) :
    Con Try.prog 4 [V_aL0, .int .i64 aLevel] [] [(V_aL0, lc 75 aL)] (fun _ : Unit => .bool r) (fun _ => []) := by
  refine Con.intro (args := [V_aL0, .int .i64 aLevel]) (n := 74) (val := fun r (_ : Unit) => .bool r) (post := fun _ _ => []) (m := laws_FnExactFilesPick aL aLevel) Try.func4 rfl rfl rfl hm ?_
  intro w S hrd
  have HB_V_aL0 := hrd _ (.head _)
  clear hrd
  unfold laws_FnExactFilesPick
  refine TW.seq ?_
  refine TW.region ?_
  refine TO.y (Y.assign rfl) rfl rfl rfl ?_
  refine TO.nil ?_
  refine TE.next ?_
  refine TW.seq ?_
  refine TW.region ?_
  refine TO.y (Y.assign rfl) rfl rfl rfl ?_
  refine TO.nil ?_
  refine TE.next ?_
  refine TW.seq ?_
  refine TW.region ?_
  refine TO.y (Y.move rfl) rfl rfl rfl ?_
  refine TO.y (Y.move rfl) rfl rfl rfl ?_
  refine TO.bind fun R1 H2 => ?_
  refine TO.ef (Ef.call (rest := []) [] (laws_szFileS_con aL (1048576 : Int) V_aL0 R1 H2) kc9 rfl rfl ⟨(Base.can HB_V_aL0), trivial⟩) rfl rfl rfl (fun _ => ?_)
  refine TO.y (Y.assign rfl) rfl rfl rfl ?_
  refine TO.nil ?_
  refine TE.next ?_
  refine TW.seq ?_
  refine TW.seq ?_
  refine TW.region ?_
  refine TO.y (Y.move rfl) rfl rfl rfl ?_
  refine TO.y (Y.lss rfl rfl) rfl rfl rfl ?_
  refine TO.nil ?_
  refine TE.next ?_
  refine TW.cond rfl (fun H4 => ?_) (fun H4 => ?_)
  · refine TW.seq ?_
    refine TW.region ?_
    refine TO.y (Y.assign rfl) rfl rfl rfl ?_
    refine TO.nil ?_
    refine TE.next ?_
    refine TW.ret ?_
    refine TE.then_ret ?_
    exact TE.leaf fun _ _ hf_ hs_ => ret_any (rs := [.tmp 4]) (vs := [.bool true]) (.inl rfl) rfl ⟨rfl, trivial⟩ hf_ hs_ ⟨(), rfl, hs_.pulls [] rfl⟩
  · refine TW.skip ?_
    refine TE.next ?_
    refine TW.seq ?_
    refine TW.region ?_
    refine TO.y (Y.move rfl) rfl rfl rfl ?_
    refine TO.bind fun R5 H6 => ?_
    refine TO.ef (Ef.call (rest := []) [] (laws_toFileS_con aL V_aL0 R5 H6) kc11 rfl rfl ⟨(Base.can HB_V_aL0), trivial⟩) rfl rfl rfl (fun Y7 => ?_)
    refine TO.y (Y.move rfl) rfl rfl rfl ?_
    refine TO.bind fun R8 H9 => ?_
    refine TO.ef (Ef.call (rest := [.own Y7 (lc 77 R5)]) [0] (spec_FilesPick_con R5 aLevel Y7 R8 H9) kc18 rfl rfl ⟨(Can.own 0 rfl), trivial⟩) rfl rfl rfl (fun Y10 => ?_)
    refine TO.y (Y.assign rfl) rfl rfl rfl ?_
    refine TO.nil ?_
    refine TE.next ?_
    refine TW.seq ?_
    refine TW.region ?_
    refine TO.y (Y.move rfl) rfl rfl rfl ?_
    refine TO.ef (Ef.call (rest := [.own Y10 (lc 3 R8), .own Y7 (lc 77 R5)]) [0, 0] (laws_toFileS_con aL V_aL0 R5 H6) kc11 rfl rfl ⟨(Base.can HB_V_aL0), trivial⟩) rfl rfl rfl (fun Y11 => ?_)
    refine TO.y (Y.assign rfl) rfl rfl rfl ?_
    refine TO.nil ?_
    refine TE.next ?_
    refine TW.seq ?_
    refine TW.region ?_
    refine TO.y (Y.move rfl) rfl rfl rfl ?_
    refine TO.y (Y.move rfl) rfl rfl rfl ?_
    refine TO.bind fun R12 H13 => ?_
    refine TO.ef (Ef.call (rest := [.own Y11 (lc 77 R5), .own Y10 (lc 3 R8), .own Y7 (lc 77 R5)]) [0, 0, 0] (impl_FilesPick_con R5 aLevel Y11 R12 H13) kc19 rfl rfl ⟨(Can.own 0 rfl), trivial⟩) rfl rfl rfl (fun Y14 => ?_)
    refine TO.y (Y.assign rfl) rfl rfl rfl ?_
    refine TO.nil ?_
    refine TE.next ?_
    refine TW.seq ?_
    refine TW.seq ?_
    refine TW.region ?_
    refine TO.y (Y.move rfl) rfl rfl rfl ?_
    refine TO.y (Y.move rfl) rfl rfl rfl ?_
    refine TO.bind fun R15 H16 => ?_
    refine TO.ef (Ef.call (rest := [.own Y14 (lc 3 R12), .own Y11 (lc 77 R5), .own Y10 (lc 3 R8), .own Y7 (lc 77 R5)]) [0, 0, 0, 0] (laws_eqIntS_con R12 R8 Y14 Y10 R15 H16) kc13 rfl rfl ⟨(Can.own 0 rfl), (Can.own 2 rfl), trivial⟩) rfl rfl rfl (fun _ => ?_)
    refine TO.y (Y.not rfl) rfl rfl rfl ?_
    refine TO.nil ?_
    refine TE.next ?_
    refine TW.cond rfl (fun H18 => ?_) (fun H18 => ?_)
    · refine TW.seq ?_
      refine TW.region ?_
      refine TO.y (Y.assign rfl) rfl rfl rfl ?_
      refine TO.nil ?_
      refine TE.next ?_
      refine TW.ret ?_
      refine TE.then_ret ?_
      exact TE.leaf fun _ _ hf_ hs_ => ret_any (rs := [.tmp 4]) (vs := [.bool false]) (.inl rfl) rfl ⟨rfl, trivial⟩ hf_ hs_ ⟨(), rfl, hs_.pulls [] rfl⟩
    · refine TW.skip ?_
      refine TE.next ?_
      refine TW.seq ?_
      refine TW.seq ?_
      refine TW.region ?_
      refine TO.y (Y.move rfl) rfl rfl rfl ?_
      refine TO.y (Y.move rfl) rfl rfl rfl ?_
      refine TO.ef (Ef.call (rest := [.own Y14 (lc 3 R12), .own Y11 (lc 77 R5), .own Y10 (lc 3 R8), .own Y7 (lc 77 R5)]) [0, 0, 0, 0] (laws_toFileS_con aL V_aL0 R5 H6) kc11 rfl rfl ⟨(Base.can HB_V_aL0), trivial⟩) rfl rfl rfl (fun Y19 => ?_)
      refine TO.bind fun R20 H21 => ?_
      refine TO.ef (Ef.call (rest := [.own Y19 (lc 77 R5), .own Y14 (lc 3 R12), .own Y11 (lc 77 R5), .own Y10 (lc 3 R8), .own Y7 (lc 77 R5)]) [0, 0, 0, 0, 0] (laws_eqFileS_con R5 R5 Y11 Y19 R20 H21) kc14 rfl rfl ⟨(Can.own 2 rfl), (Can.own 0 rfl), trivial⟩) rfl rfl rfl (fun _ => ?_)
      refine TO.y (Y.not rfl) rfl rfl rfl ?_
      refine TO.nil ?_
      refine TE.next ?_
      refine TW.cond rfl (fun H23 => ?_) (fun H23 => ?_)
      · refine TW.seq ?_
        refine TW.region ?_
        refine TO.y (Y.assign rfl) rfl rfl rfl ?_
        refine TO.nil ?_
        refine TE.next ?_
        refine TW.ret ?_
        refine TE.then_ret ?_
        exact TE.leaf fun _ _ hf_ hs_ => ret_any (rs := [.tmp 4]) (vs := [.bool false]) (.inl rfl) rfl ⟨rfl, trivial⟩ hf_ hs_ ⟨(), rfl, hs_.pulls [] rfl⟩
      · refine TW.skip ?_
        refine TE.next ?_
        refine TW.seq ?_
        refine TW.region ?_
        refine TO.y (Y.assign rfl) rfl rfl rfl ?_
        refine TO.nil ?_
        refine TE.next ?_
        refine TW.seq ?_
        refine TW.region ?_
        refine TO.y (Y.move rfl) rfl rfl rfl ?_
        refine TO.y (Y.move rfl) rfl rfl rfl ?_
        refine TO.bind fun R24 H25 => ?_
        refine TO.ef (Ef.call (rest := [.own Y19 (lc 77 R5), .own Y14 (lc 3 R12), .own Y10 (lc 3 R8), .own Y7 (lc 77 R5)]) [2, 0, 0, 0, 0] (laws_markFileS_con R5 (1 : Int) Y11 R24 H25) kc15 rfl rfl trivial) rfl rfl rfl (fun _ => ?_)
        refine TO.y (Y.assign rfl) rfl rfl rfl ?_
        refine TO.nil ?_
        refine TE.next ?_
        refine TW.seq ?_
        refine TW.seq ?_
        refine TW.joinBX (τ := Bool) (X := Unit) (fun T _ => [(0, V_aL0), (1, .int .i64 aLevel), (6, Y10), (8, Y14), (46, .bool T)]) (fun _ _ => [.own Y10 (lc 3 R8), .own Y14 (lc 3 R12)]) ?_ (fun T27 X28 => ?_)
        · refine TW.region ?_
          refine TO.y (Y.move rfl) rfl rfl rfl ?_
          refine TO.y (Y.lss rfl rfl) rfl rfl rfl ?_
          refine TO.y (Y.move rfl) rfl rfl rfl ?_
          refine TO.ite (b := decide (R24.1 < (0 : Int))) (fun H29 => ?_) (fun H29 => ?_)
          · refine TO.off (Gd.at 2 false 41 (decide (R24.1 < (0 : Int))) rfl rfl rfl (beq_tf H29)) rfl rfl ?_
            refine TO.off (Gd.at 2 false 41 (decide (R24.1 < (0 : Int))) rfl rfl rfl (beq_tf H29)) rfl rfl ?_
            refine TO.off (Gd.at 2 false 41 (decide (R24.1 < (0 : Int))) rfl rfl rfl (beq_tf H29)) rfl rfl ?_
            refine TO.off (Gd.at 2 false 41 (decide (R24.1 < (0 : Int))) rfl rfl rfl (beq_tf H29)) rfl rfl ?_
            refine TO.y (Y.pick_t H29 rfl rfl) rfl rfl rfl ?_
            refine TO.nil ?_
            exact TE.jb_go () [3, 2] ⟨rfl, rfl, rfl, rfl, rfl, trivial⟩ rfl
          · refine TO.y (Y.move rfl) (Gd.at 2 false 41 (decide (R24.1 < (0 : Int))) rfl rfl rfl (beq_ff H29)) rfl rfl ?_
            refine TO.y (Y.move rfl) (Gd.at 2 false 41 (decide (R24.1 < (0 : Int))) rfl rfl rfl (beq_ff H29)) rfl rfl ?_
            refine TO.ef (Ef.call (rest := [.own Y11 (lc 77 R24.2), .own Y19 (lc 77 R5), .own Y14 (lc 3 R12), .own Y10 (lc 3 R8), .own Y7 (lc 77 R5)]) [0, 0, 0, 0, 0] (laws_eqIntS_con R12 R8 Y14 Y10 R15 H16) kc13 rfl rfl ⟨(Can.own 2 rfl), (Can.own 3 rfl), trivial⟩) (Gd.at 2 false 41 (decide (R24.1 < (0 : Int))) rfl rfl rfl (beq_ff H29)) rfl rfl (fun _ => ?_)
            refine TO.y (Y.not rfl) (Gd.at 2 false 41 (decide (R24.1 < (0 : Int))) rfl rfl rfl (beq_ff H29)) rfl rfl ?_
            refine TO.y (Y.pick_f H29 rfl rfl) rfl rfl rfl ?_
            refine TO.nil ?_
            exact TE.jb_go () [3, 2] ⟨rfl, rfl, rfl, rfl, rfl, trivial⟩ rfl
        · refine TE.next ?_
          refine TW.cond rfl (fun H31 => ?_) (fun H31 => ?_)
          · refine TW.seq ?_
            refine TW.region ?_
            refine TO.y (Y.assign rfl) rfl rfl rfl ?_
            refine TO.nil ?_
            refine TE.next ?_
            refine TW.ret ?_
            refine TE.then_ret ?_
            exact TE.leaf fun _ _ hf_ hs_ => ret_any (rs := [.tmp 4]) (vs := [.bool false]) (.inl rfl) rfl ⟨rfl, trivial⟩ hf_ hs_ ⟨(), rfl, hs_.pulls [] rfl⟩
          · refine TW.skip ?_
            refine TE.next ?_
            refine TW.seq ?_
            refine TW.region ?_
            refine TO.y (Y.assign rfl) rfl rfl rfl ?_
            refine TO.nil ?_
            refine TE.next ?_
            refine TW.seq ?_
            refine TW.region ?_
            refine TO.y (Y.move rfl) rfl rfl rfl ?_
            refine TO.y (Y.move rfl) rfl rfl rfl ?_
            refine TO.bind fun R32 H33 => ?_
            refine TO.ef (Ef.call (rest := [.own Y10 (lc 3 R8)]) [1, 0] (laws_markIntS_con R12 (1 : Int) Y14 R32 H33) kc16 rfl rfl trivial) rfl rfl rfl (fun _ => ?_)
            refine TO.y (Y.assign rfl) rfl rfl rfl ?_
            refine TO.nil ?_
            refine TE.next ?_
            refine TW.seq ?_
            refine TW.region ?_
            refine TO.y (Y.assign rfl) rfl rfl rfl ?_
            refine TO.nil ?_
            refine TE.next ?_
            refine TW.seq ?_
            refine TW.region ?_
            refine TO.y (Y.move rfl) rfl rfl rfl ?_
            refine TO.y (Y.move rfl) rfl rfl rfl ?_
            refine TO.bind fun R35 H36 => ?_
            refine TO.ef (Ef.call (rest := [.own Y14 (lc 3 R32.2), .own Y10 (lc 3 R8)]) [0, 0] (laws_heldIntS_con R32.2 (1 : Int) Y14 R35 H36) kc17 rfl rfl ⟨(Can.own 0 rfl), trivial⟩) rfl rfl rfl (fun _ => ?_)
            refine TO.y (Y.assign rfl) rfl rfl rfl ?_
            refine TO.nil ?_
            refine TE.next ?_
            refine TW.seq ?_
            refine TW.seq ?_
            refine TW.region ?_
            refine TO.y (Y.move rfl) rfl rfl rfl ?_
            refine TO.y (Y.lss rfl rfl) rfl rfl rfl ?_
            refine TO.nil ?_
            refine TE.next ?_
            refine TW.cond rfl (fun H38 => ?_) (fun H38 => ?_)
            · refine TW.seq ?_
              refine TW.region ?_
              refine TO.y (Y.assign rfl) rfl rfl rfl ?_
              refine TO.nil ?_
              refine TE.next ?_
              refine TW.ret ?_
              refine TE.then_ret ?_
              exact TE.leaf fun _ _ hf_ hs_ => ret_any (rs := [.tmp 4]) (vs := [.bool false]) (.inl rfl) rfl ⟨rfl, trivial⟩ hf_ hs_ ⟨(), rfl, hs_.pulls [] rfl⟩
            · refine TW.skip ?_
              refine TE.next ?_
              refine TW.seq ?_
              refine TW.seq ?_
              refine TW.region ?_
              refine TO.y (Y.move rfl) rfl rfl rfl ?_
              refine TO.y (Y.move rfl) rfl rfl rfl ?_
              refine TO.y (Y.neq rfl rfl) rfl rfl rfl ?_
              refine TO.nil ?_
              refine TE.next ?_
              refine TW.cond rfl (fun H39 => ?_) (fun H39 => ?_)
              · refine TW.seq ?_
                refine TW.region ?_
                refine TO.y (Y.assign rfl) rfl rfl rfl ?_
                refine TO.nil ?_
                refine TE.next ?_
                refine TW.ret ?_
                refine TE.then_ret ?_
                exact TE.leaf fun _ _ hf_ hs_ => ret_any (rs := [.tmp 4]) (vs := [.bool false]) (.inl rfl) rfl ⟨rfl, trivial⟩ hf_ hs_ ⟨(), rfl, hs_.pulls [] rfl⟩
              · refine TW.skip ?_
                refine TE.next ?_
                refine TW.seq ?_
                refine TW.region ?_
                refine TO.y (Y.move rfl) rfl rfl rfl ?_
                refine TO.ef (Ef.call (rest := [.own Y14 (lc 3 R32.2), .own Y10 (lc 3 R8)]) [0, 0] (laws_toFileS_con aL V_aL0 R5 H6) kc11 rfl rfl ⟨(Base.can HB_V_aL0), trivial⟩) rfl rfl rfl (fun Y40 => ?_)
                refine TO.y (Y.move rfl) rfl rfl rfl ?_
                refine TO.ef (Ef.call (rest := [.own Y40 (lc 77 R5), .own Y14 (lc 3 R32.2), .own Y10 (lc 3 R8)]) [0, 0, 0] (impl_FilesPick_con R5 aLevel Y40 R12 H13) kc19 rfl rfl ⟨(Can.own 0 rfl), trivial⟩) rfl rfl rfl (fun Y41 => ?_)
                refine TO.y (Y.assign rfl) rfl rfl rfl ?_
                refine TO.nil ?_
                refine TE.next ?_
                refine TW.seq ?_
                refine TW.seq ?_
                refine TW.region ?_
                refine TO.y (Y.move rfl) rfl rfl rfl ?_
                refine TO.y (Y.move rfl) rfl rfl rfl ?_
                refine TO.ef (Ef.call (rest := [.own Y41 (lc 3 R12), .own Y40 (lc 77 R5), .own Y14 (lc 3 R32.2), .own Y10 (lc 3 R8)]) [0, 0, 0, 0] (laws_eqIntS_con R12 R8 Y41 Y10 R15 H16) kc13 rfl rfl ⟨(Can.own 0 rfl), (Can.own 3 rfl), trivial⟩) rfl rfl rfl (fun _ => ?_)
                refine TO.y (Y.not rfl) rfl rfl rfl ?_
                refine TO.nil ?_
                refine TE.next ?_
                refine TW.cond rfl (fun H43 => ?_) (fun H43 => ?_)
                · refine TW.seq ?_
                  refine TW.region ?_
                  refine TO.y (Y.assign rfl) rfl rfl rfl ?_
                  refine TO.nil ?_
                  refine TE.next ?_
                  refine TW.ret ?_
                  refine TE.then_ret ?_
                  exact TE.leaf fun _ _ hf_ hs_ => ret_any (rs := [.tmp 4]) (vs := [.bool false]) (.inl rfl) rfl ⟨rfl, trivial⟩ hf_ hs_ ⟨(), rfl, hs_.pulls [] rfl⟩
                · refine TW.skip ?_
                  refine TE.next ?_
                  refine TW.seq ?_
                  refine TW.region ?_
                  refine TO.y (Y.assign rfl) rfl rfl rfl ?_
                  refine TO.nil ?_
                  refine TE.next ?_
                  refine TW.seq ?_
                  refine TW.region ?_
                  refine TO.y (Y.move rfl) rfl rfl rfl ?_
                  refine TO.y (Y.move rfl) rfl rfl rfl ?_
                  refine TO.ef (Ef.call (rest := [.own Y41 (lc 3 R12), .own Y40 (lc 77 R5), .own Y14 (lc 3 R32.2), .own Y10 (lc 3 R8)]) [0, 0, 0, 0] (laws_heldIntS_con R32.2 (1 : Int) Y14 R35 H36) kc17 rfl rfl ⟨(Can.own 2 rfl), trivial⟩) rfl rfl rfl (fun _ => ?_)
                  refine TO.y (Y.assign rfl) rfl rfl rfl ?_
                  refine TO.nil ?_
                  refine TE.next ?_
                  refine TW.seq ?_
                  refine TW.seq ?_
                  refine TW.region ?_
                  refine TO.y (Y.move rfl) rfl rfl rfl ?_
                  refine TO.y (Y.lss rfl rfl) rfl rfl rfl ?_
                  refine TO.nil ?_
                  refine TE.next ?_
                  refine TW.cond rfl (fun H45 => ?_) (fun H45 => ?_)
                  · refine TW.seq ?_
                    refine TW.region ?_
                    refine TO.y (Y.assign rfl) rfl rfl rfl ?_
                    refine TO.nil ?_
                    refine TE.next ?_
                    refine TW.ret ?_
                    refine TE.then_ret ?_
                    exact TE.leaf fun _ _ hf_ hs_ => ret_any (rs := [.tmp 4]) (vs := [.bool false]) (.inl rfl) rfl ⟨rfl, trivial⟩ hf_ hs_ ⟨(), rfl, hs_.pulls [] rfl⟩
                  · refine TW.skip ?_
                    refine TE.next ?_
                    refine TW.seq ?_
                    refine TW.seq ?_
                    refine TW.region ?_
                    refine TO.y (Y.move rfl) rfl rfl rfl ?_
                    refine TO.y (Y.move rfl) rfl rfl rfl ?_
                    refine TO.y (Y.neq rfl rfl) rfl rfl rfl ?_
                    refine TO.nil ?_
                    refine TE.next ?_
                    refine TW.cond rfl (fun H46 => ?_) (fun H46 => ?_)
                    · refine TW.seq ?_
                      refine TW.region ?_
                      refine TO.y (Y.assign rfl) rfl rfl rfl ?_
                      refine TO.nil ?_
                      refine TE.next ?_
                      refine TW.ret ?_
                      refine TE.then_ret ?_
                      exact TE.leaf fun _ _ hf_ hs_ => ret_any (rs := [.tmp 4]) (vs := [.bool false]) (.inl rfl) rfl ⟨rfl, trivial⟩ hf_ hs_ ⟨(), rfl, hs_.pulls [] rfl⟩
                    · refine TW.skip ?_
                      refine TE.next ?_
                      refine TW.seq ?_
                      refine TW.region ?_
                      refine TO.y (Y.assign rfl) rfl rfl rfl ?_
                      refine TO.nil ?_
                      refine TE.next ?_
                      refine TW.ret ?_
                      exact TE.leaf fun _ _ hf_ hs_ => ret_any (rs := [.tmp 4]) (vs := [.bool true]) (.inl rfl) rfl ⟨rfl, trivial⟩ hf_ hs_ ⟨(), rfl, hs_.pulls [] rfl⟩

end Go.Proofs.Ytpnnbeiojpphhaa
