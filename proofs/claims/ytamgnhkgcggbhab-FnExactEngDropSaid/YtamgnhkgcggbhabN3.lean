/-
  The functions that a law reaches, each as a pure function, with the proof that the program computes it, and the step from a pure law to the given statement. Conditions: none.
-/
import Derived.Test.YtamgnhkgcggbhabN2
set_option linter.unusedVariables false
set_option maxRecDepth 100000
set_option maxHeartbeats 4000000
namespace Go.Proofs.Ytamgnhkgcggbhab
open Go Sl

/-- loop.example/g00950/impl.EngOk -/
noncomputable def impl_EngOk (e : Eng) : Option Bool :=
  ((impl_isNumber e.Seq).bind fun R4 =>
  if (!R4) = true then (some true)
  else (if (decide (((e.Snaps.length : Nat) : Int) > (4 : Int))) = true then (some true)
  else ((impl_tablesOk e).bind fun R9 =>
  some (!R9)))).bind (fun (T2 : Bool) =>
  if T2 = true then (some false)
  else (bindC (loopO (fun (S13 : Int) => if (decide (S13 < ((e.Snaps.length : Nat) : Int))) = true then ((idx e.Snaps S13).bind fun E18 =>
  ((impl_inRange E18 (0 : Int) e.Seq).bind fun R22 =>
  if (!R22) = true then (some true)
  else (if (decide (S13 > (0 : Int))) = true then ((idx e.Snaps (IntKind.i64.wrap (S13 - (1 : Int)))).bind fun E27 =>
  some (decide (E18 ≤ E27)))
  else (some false))).bind (fun (T20 : Bool) =>
  if T20 = true then (some (.done (.done false)))
  else (some (.go (IntKind.i64.wrap (S13 + (1 : Int)))))))
  else (some (.done (.go ()))))
  (0 : Int))
  (fun (T15 : Unit) => some true)))

theorem impl_EngOk_con (e : Eng) (V_e0 : Value) (V_e1 : Value) (V_e3 : Value) (r : Bool) (hm : impl_EngOk e = some r) :
    Con Try.prog 49 [.agg #[V_e0, V_e1, .int .i64 e.Seq, V_e3]] [] [(V_e0, lc e.Mem), (V_e1, lc e.Tables), (V_e3, lc e.Snaps)] (fun _ : Unit => .bool r) (fun _ => []) := by
  refine Con.intro (args := [.agg #[V_e0, V_e1, .int .i64 e.Seq, V_e3]]) (n := 48) (val := fun r (_ : Unit) => .bool r) (post := fun _ _ => []) (m := impl_EngOk e) Try.func49 rfl rfl rfl hm ?_
  intro w S hrd
  have HB_V_e0 := hrd _ (.head _)
  have HB_V_e1 := hrd _ (.tail _ (.head _))
  have HB_V_e3 := hrd _ (.tail _ (.tail _ (.head _)))
  clear hrd
  unfold impl_EngOk
  refine TW.seq ?_
  refine TW.region ?_
  refine TO.ef (Ef.box rfl (Cel.agg ⟨(One.can (Base.can HB_V_e0)), (One.can (Base.can HB_V_e1)), (One.plain rfl), (One.can (Base.can HB_V_e3)), trivial⟩)) rfl rfl rfl (fun B1 => ?_)
  refine TO.y (Y.assign rfl) rfl rfl rfl ?_
  refine TO.nil ?_
  refine TE.next ?_
  refine TW.seq ?_
  refine TW.seq ?_
  refine TW.joinBX (τ := Bool) (X := Unit) (fun T _ => [(1, .pointer (some ⟨B1, 0, none⟩)), (19, .bool T)]) (fun _ _ => [.box B1 39 [V_e0, V_e1, .int .i64 e.Seq, V_e3]]) ?_ (fun T2 X3 => ?_)
  · refine TW.region ?_
    refine TO.y (Y.field_box kf39_2 rfl rfl) rfl rfl rfl ?_
    refine TO.y (Y.load_box (v := .int .i64 e.Seq) 0 kk3 rfl rfl rfl) rfl rfl rfl ?_
    refine TO.bind fun R4 H5 => ?_
    refine TO.ef (Ef.call (rest := [.box B1 39 [V_e0, V_e1, .int .i64 e.Seq, V_e3]]) [0] (impl_isNumber_con e.Seq  R4 H5) kc88 rfl rfl trivial) rfl rfl rfl (fun _ => ?_)
    refine TO.y (Y.not rfl) rfl rfl rfl ?_
    refine TO.y (Y.move rfl) rfl rfl rfl ?_
    refine TO.ite (b := !R4) (fun H7 => ?_) (fun H7 => ?_)
    · refine TO.off (Gd.at 4 false 9 (!R4) rfl rfl rfl (beq_tf H7)) rfl rfl ?_
      refine TO.off (Gd.at 4 false 9 (!R4) rfl rfl rfl (beq_tf H7)) rfl rfl ?_
      refine TO.off (Gd.at 4 false 9 (!R4) rfl rfl rfl (beq_tf H7)) rfl rfl ?_
      refine TO.off (Gd.at 4 false 9 (!R4) rfl rfl rfl (beq_tf H7)) rfl rfl ?_
      refine TO.y (Y.pick_t H7 rfl rfl) rfl rfl rfl ?_
      refine TO.y (Y.move rfl) rfl rfl rfl ?_
      refine TO.off (Gd.at 10 false 15 true rfl rfl rfl rfl) rfl rfl ?_
      refine TO.off (Gd.at 10 false 15 true rfl rfl rfl rfl) rfl rfl ?_
      refine TO.off (Gd.at 10 false 15 true rfl rfl rfl rfl) rfl rfl ?_
      refine TO.y (Y.pick_t rfl rfl rfl) rfl rfl rfl ?_
      refine TO.nil ?_
      exact TE.jb_go () [0] ⟨rfl, rfl, trivial⟩ rfl
    · refine TO.y (Y.field_box kf39_3 rfl rfl) (Gd.at 4 false 9 (!R4) rfl rfl rfl (beq_ff H7)) rfl rfl ?_
      refine TO.y (Y.load_box (v := V_e3) 0 kk34 rfl rfl rfl) (Gd.at 4 false 9 (!R4) rfl rfl rfl (beq_ff H7)) rfl rfl ?_
      refine TO.y (Y.len (l := e.Snaps) ke34 (Base.can HB_V_e3) rfl) (Gd.at 4 false 9 (!R4) rfl rfl rfl (beq_ff H7)) rfl rfl ?_
      refine TO.y (Y.gtr rfl rfl) (Gd.at 4 false 9 (!R4) rfl rfl rfl (beq_ff H7)) rfl rfl ?_
      refine TO.y (Y.pick_f H7 rfl rfl) rfl rfl rfl ?_
      refine TO.y (Y.move rfl) rfl rfl rfl ?_
      refine TO.ite (b := decide (((e.Snaps.length : Nat) : Int) > (4 : Int))) (fun H8 => ?_) (fun H8 => ?_)
      · refine TO.off (Gd.at 10 false 15 (decide (((e.Snaps.length : Nat) : Int) > (4 : Int))) rfl rfl rfl (beq_tf H8)) rfl rfl ?_
        refine TO.off (Gd.at 10 false 15 (decide (((e.Snaps.length : Nat) : Int) > (4 : Int))) rfl rfl rfl (beq_tf H8)) rfl rfl ?_
        refine TO.off (Gd.at 10 false 15 (decide (((e.Snaps.length : Nat) : Int) > (4 : Int))) rfl rfl rfl (beq_tf H8)) rfl rfl ?_
        refine TO.y (Y.pick_t H8 rfl rfl) rfl rfl rfl ?_
        refine TO.nil ?_
        exact TE.jb_go () [0] ⟨rfl, rfl, trivial⟩ rfl
      · refine TO.y (Y.load_box (v := .agg #[V_e0, V_e1, .int .i64 e.Seq, V_e3]) 0 kk39 rfl rfl rfl) (Gd.at 10 false 15 (decide (((e.Snaps.length : Nat) : Int) > (4 : Int))) rfl rfl rfl (beq_ff H8)) rfl rfl ?_
        refine TO.bind fun R9 H10 => ?_
        refine TO.ef (Ef.call (rest := [.box B1 39 [V_e0, V_e1, .int .i64 e.Seq, V_e3]]) [0] (impl_tablesOk_con e V_e0 V_e1 V_e3 R9 H10) kc89 rfl rfl ⟨(Base.can HB_V_e0), (Base.can HB_V_e1), (Base.can HB_V_e3), trivial⟩) (Gd.at 10 false 15 (decide (((e.Snaps.length : Nat) : Int) > (4 : Int))) rfl rfl rfl (beq_ff H8)) rfl rfl (fun _ => ?_)
        refine TO.y (Y.not rfl) (Gd.at 10 false 15 (decide (((e.Snaps.length : Nat) : Int) > (4 : Int))) rfl rfl rfl (beq_ff H8)) rfl rfl ?_
        refine TO.y (Y.pick_f H8 rfl rfl) rfl rfl rfl ?_
        refine TO.nil ?_
        exact TE.jb_go () [0] ⟨rfl, rfl, trivial⟩ rfl
  · refine TE.next ?_
    refine TW.cond rfl (fun H12 => ?_) (fun H12 => ?_)
    · refine TW.seq ?_
      refine TW.region ?_
      refine TO.y (Y.assign rfl) rfl rfl rfl ?_
      refine TO.nil ?_
      refine TE.next ?_
      refine TW.ret ?_
      refine TE.then_ret ?_
      exact TE.leaf fun _ _ hf_ hs_ => ret_any (rs := [.tmp 2]) (vs := [.bool false]) (.inl rfl) rfl ⟨rfl, trivial⟩ hf_ hs_ ⟨(), rfl, hs_.pulls [] rfl⟩
    · refine TW.skip ?_
      refine TE.next ?_
      refine TW.seq ?_
      refine TW.seq ?_
      refine TW.region ?_
      refine TO.y (Y.field_box kf39_3 rfl rfl) rfl rfl rfl ?_
      refine TO.y (Y.load_box (v := V_e3) 0 kk34 rfl rfl rfl) rfl rfl rfl ?_
      refine TO.y (Y.len (l := e.Snaps) ke34 (Base.can HB_V_e3) rfl) rfl rfl rfl ?_
      refine TO.y (Y.move rfl) rfl rfl rfl ?_
      refine TO.nil ?_
      refine TE.next ?_
      refine TW.joinX (τ := Unit) (X := Unit) (fun _ _ => []) (fun _ _ => []) ?_ (fun T15 X16 => ?_)
      · refine TW.block ?_
        refine TW.loopX (σ := Int) (X := Unit) (fun T _ => [(1, .pointer (some ⟨B1, 0, none⟩)), (21, V_e3), (22, .int .i64 ((e.Snaps.length : Nat) : Int)), (23, .int .i64 T)]) (fun _ _ => [.box B1 39 [V_e0, V_e1, .int .i64 e.Seq, V_e3]]) () [0] ⟨rfl, rfl, rfl, rfl, trivial⟩ rfl (fun S13 X14 => ?_)
        refine TW.seq ?_
        refine TW.region ?_
        refine TO.y (Y.lss rfl rfl) rfl rfl rfl ?_
        refine TO.nil ?_
        refine TE.next ?_
        refine TW.seq ?_
        refine TW.cond rfl (fun H17 => ?_) (fun H17 => ?_)
        · refine TW.skip ?_
          refine TE.next ?_
          refine TW.seq ?_
          refine TW.block ?_
          refine TW.seq ?_
          refine TW.region ?_
          refine TO.y (Y.move rfl) rfl rfl rfl ?_
          refine TO.bind fun E18 H19 => ?_
          refine TO.y (Y.index ke34 (Base.can HB_V_e3) H19 rfl rfl) rfl rfl rfl ?_
          refine TO.y (Y.load_el (us := [.int .i64 E18]) (u := .int .i64 E18) kk3 rfl (Base.can HB_V_e3) (idx_get H19).2.2 rfl rfl rfl rfl rfl) rfl rfl rfl ?_
          refine TO.y (Y.assign rfl) rfl rfl rfl ?_
          refine TO.y (Y.assign rfl) rfl rfl rfl ?_
          refine TO.nil ?_
          refine TE.next ?_
          refine TW.seq ?_
          refine TW.joinBX (τ := Bool) (X := Unit) (fun T _ => [(1, .pointer (some ⟨B1, 0, none⟩)), (21, V_e3), (22, .int .i64 ((e.Snaps.length : Nat) : Int)), (23, .int .i64 S13), (46, .bool T)]) (fun _ _ => [.box B1 39 [V_e0, V_e1, .int .i64 e.Seq, V_e3]]) ?_ (fun T20 X21 => ?_)
          · refine TW.region ?_
            refine TO.y (Y.move rfl) rfl rfl rfl ?_
            refine TO.y (Y.field_box kf39_2 rfl rfl) rfl rfl rfl ?_
            refine TO.y (Y.load_box (v := .int .i64 e.Seq) 0 kk3 rfl rfl rfl) rfl rfl rfl ?_
            refine TO.bind fun R22 H23 => ?_
            refine TO.ef (Ef.call (rest := [.box B1 39 [V_e0, V_e1, .int .i64 e.Seq, V_e3]]) [0] (impl_inRange_con E18 (0 : Int) e.Seq  R22 H23) kc57 rfl rfl trivial) rfl rfl rfl (fun _ => ?_)
            refine TO.y (Y.not rfl) rfl rfl rfl ?_
            refine TO.y (Y.move rfl) rfl rfl rfl ?_
            refine TO.ite (b := !R22) (fun H25 => ?_) (fun H25 => ?_)
            · refine TO.off (Gd.at 5 false 33 (!R22) rfl rfl rfl (beq_tf H25)) rfl rfl ?_
              refine TO.off (Gd.at 5 false 33 (!R22) rfl rfl rfl (beq_tf H25)) rfl rfl ?_
              refine TO.off (Gd.at 5 false 33 (!R22) rfl rfl rfl (beq_tf H25)) rfl rfl ?_
              refine TO.off (Gd.un 8 true 36 rfl rfl rfl) rfl rfl ?_
              refine TO.off (Gd.un 8 true 36 rfl rfl rfl) rfl rfl ?_
              refine TO.off (Gd.un 8 true 36 rfl rfl rfl) rfl rfl ?_
              refine TO.off (Gd.un 8 true 36 rfl rfl rfl) rfl rfl ?_
              refine TO.off (Gd.un 8 true 36 rfl rfl rfl) rfl rfl ?_
              refine TO.off (Gd.un 8 true 36 rfl rfl rfl) rfl rfl ?_
              refine TO.off (Gd.un 8 true 36 rfl rfl rfl) rfl rfl ?_
              refine TO.off (Gd.un 8 true 36 rfl rfl rfl) rfl rfl ?_
              refine TO.off (Gd.at 5 false 33 (!R22) rfl rfl rfl (beq_tf H25)) rfl rfl ?_
              refine TO.y (Y.pick_t H25 rfl rfl) rfl rfl rfl ?_
              refine TO.nil ?_
              exact TE.jb_go () [0] ⟨rfl, rfl, rfl, rfl, rfl, trivial⟩ rfl
            · refine TO.y (Y.move rfl) (Gd.at 5 false 33 (!R22) rfl rfl rfl (beq_ff H25)) rfl rfl ?_
              refine TO.y (Y.gtr rfl rfl) (Gd.at 5 false 33 (!R22) rfl rfl rfl (beq_ff H25)) rfl rfl ?_
              refine TO.y (Y.move rfl) (Gd.at 5 false 33 (!R22) rfl rfl rfl (beq_ff H25)) rfl rfl ?_
              refine TO.ite (b := decide (S13 > (0 : Int))) (fun H26 => ?_) (fun H26 => ?_)
              · refine TO.y (Y.move rfl) (Gd.at 8 true 36 (decide (S13 > (0 : Int))) rfl rfl rfl (beq_tt H26)) rfl rfl ?_
                refine TO.y (Y.field_box kf39_3 rfl rfl) (Gd.at 8 true 36 (decide (S13 > (0 : Int))) rfl rfl rfl (beq_tt H26)) rfl rfl ?_
                refine TO.y (Y.load_box (v := V_e3) 0 kk34 rfl rfl rfl) (Gd.at 8 true 36 (decide (S13 > (0 : Int))) rfl rfl rfl (beq_tt H26)) rfl rfl ?_
                refine TO.y (Y.move rfl) (Gd.at 8 true 36 (decide (S13 > (0 : Int))) rfl rfl rfl (beq_tt H26)) rfl rfl ?_
                refine TO.y (Y.sub rfl rfl) (Gd.at 8 true 36 (decide (S13 > (0 : Int))) rfl rfl rfl (beq_tt H26)) rfl rfl ?_
                refine TO.bind fun E27 H28 => ?_
                refine TO.y (Y.index ke34 (Base.can HB_V_e3) H28 rfl rfl) (Gd.at 8 true 36 (decide (S13 > (0 : Int))) rfl rfl rfl (beq_tt H26)) rfl rfl ?_
                refine TO.y (Y.load_el (us := [.int .i64 E27]) (u := .int .i64 E27) kk3 rfl (Base.can HB_V_e3) (idx_get H28).2.2 rfl rfl rfl rfl rfl) (Gd.at 8 true 36 (decide (S13 > (0 : Int))) rfl rfl rfl (beq_tt H26)) rfl rfl ?_
                refine TO.y (Y.leq rfl rfl) (Gd.at 8 true 36 (decide (S13 > (0 : Int))) rfl rfl rfl (beq_tt H26)) rfl rfl ?_
                refine TO.y (Y.pick_t H26 rfl rfl) (Gd.at 5 false 33 (!R22) rfl rfl rfl (beq_ff H25)) rfl rfl ?_
                refine TO.y (Y.pick_f H25 rfl rfl) rfl rfl rfl ?_
                refine TO.nil ?_
                exact TE.jb_go () [0] ⟨rfl, rfl, rfl, rfl, rfl, trivial⟩ rfl
              · refine TO.off (Gd.at 8 true 36 (decide (S13 > (0 : Int))) rfl rfl rfl (beq_ft H26)) rfl rfl ?_
                refine TO.off (Gd.at 8 true 36 (decide (S13 > (0 : Int))) rfl rfl rfl (beq_ft H26)) rfl rfl ?_
                refine TO.off (Gd.at 8 true 36 (decide (S13 > (0 : Int))) rfl rfl rfl (beq_ft H26)) rfl rfl ?_
                refine TO.off (Gd.at 8 true 36 (decide (S13 > (0 : Int))) rfl rfl rfl (beq_ft H26)) rfl rfl ?_
                refine TO.off (Gd.at 8 true 36 (decide (S13 > (0 : Int))) rfl rfl rfl (beq_ft H26)) rfl rfl ?_
                refine TO.off (Gd.at 8 true 36 (decide (S13 > (0 : Int))) rfl rfl rfl (beq_ft H26)) rfl rfl ?_
                refine TO.off (Gd.at 8 true 36 (decide (S13 > (0 : Int))) rfl rfl rfl (beq_ft H26)) rfl rfl ?_
                refine TO.off (Gd.at 8 true 36 (decide (S13 > (0 : Int))) rfl rfl rfl (beq_ft H26)) rfl rfl ?_
                refine TO.y (Y.pick_f H26 rfl rfl) (Gd.at 5 false 33 (!R22) rfl rfl rfl (beq_ff H25)) rfl rfl ?_
                refine TO.y (Y.pick_f H25 rfl rfl) rfl rfl rfl ?_
                refine TO.nil ?_
                exact TE.jb_go () [0] ⟨rfl, rfl, rfl, rfl, rfl, trivial⟩ rfl
          · refine TE.next ?_
            refine TW.cond rfl (fun H29 => ?_) (fun H29 => ?_)
            · refine TW.seq ?_
              refine TW.region ?_
              refine TO.y (Y.assign rfl) rfl rfl rfl ?_
              refine TO.nil ?_
              refine TE.next ?_
              refine TW.ret ?_
              refine TE.block_ret ?_
              refine TE.then_ret ?_
              refine TE.lp_ret ?_
              refine TE.block_ret ?_
              refine TE.jn_done ?_
              refine TE.then_ret ?_
              exact TE.leaf fun _ _ hf_ hs_ => ret_any (rs := [.tmp 2]) (vs := [.bool false]) (.inl rfl) rfl ⟨rfl, trivial⟩ hf_ hs_ ⟨(), rfl, hs_.pulls [] rfl⟩
            · refine TW.skip ?_
              refine TE.block_normal ?_
              refine TE.next ?_
              refine TW.region ?_
              refine TO.y (Y.add rfl rfl) rfl rfl rfl ?_
              refine TO.y (Y.move rfl) rfl rfl rfl ?_
              refine TO.nil ?_
              exact TE.lp_go () [0] ⟨rfl, rfl, rfl, rfl, trivial⟩ rfl
        · refine TW.exit ?_
          refine TE.then_exit ?_
          refine TE.lp_exit ?_
          refine TE.block_exit ?_
          exact TE.jn_go () [] trivial rfl
      · refine TE.next ?_
        refine TW.seq ?_
        refine TW.region ?_
        refine TO.y (Y.assign rfl) rfl rfl rfl ?_
        refine TO.nil ?_
        refine TE.next ?_
        refine TW.ret ?_
        exact TE.leaf fun _ _ hf_ hs_ => ret_any (rs := [.tmp 2]) (vs := [.bool true]) (.inl rfl) rfl ⟨rfl, trivial⟩ hf_ hs_ ⟨(), rfl, hs_.pulls [] rfl⟩

/-- slices.Clone[[]loop.example/g00950/impl.Ent,loop.example/g00950/impl.Ent] -/
noncomputable def slices_Clone_94167 (s : List Ent) : Option (List Ent) :=
  (app 48 ([] : List Ent) s).bind fun E4 =>
  some E4

theorem slices_Clone_94167_con (s : List Ent) (V_s0 : Value) (r : List Ent) (hm : slices_Clone_94167 s = some r) :
    Con Try.prog 90 [V_s0] [] [(V_s0, lc s)] (fun X : Value => X) (fun X => [.own X (lc r)]) := by
  refine Con.intro (args := [V_s0]) (n := 8) (val := fun _ (X : Value) => X) (post := fun r X => [.own X (lc r)]) (m := slices_Clone_94167 s) Try.func90 rfl rfl rfl hm ?_
  intro w S hrd
  have HB_V_s0 := hrd _ (.head _)
  clear hrd
  unfold slices_Clone_94167
  refine TW.seq ?_
  refine TW.region ?_
  refine TO.y (Y.assign rfl) rfl rfl rfl ?_
  refine TO.nil ?_
  refine TE.next ?_
  refine TW.seq ?_
  refine TW.seq ?_
  refine TW.region ?_
  refine TO.y (Y.move rfl) rfl rfl rfl ?_
  refine TO.y (Y.nileq ke24 (Base.can HB_V_s0) rfl rfl) rfl rfl rfl ?_
  refine TO.nil ?_
  refine TE.next ?_
  refine TW.cond_nil (Base.can HB_V_s0) rfl (fun hnil_ => ?_) ?_
  · subst hnil_
    show TW _ _ _ (some ([])) _ _ _ _ _
    refine TW.seq ?_
    refine TW.region ?_
    refine TO.y (Y.assign rfl) rfl rfl rfl ?_
    refine TO.nil ?_
    refine TE.next ?_
    refine TW.ret ?_
    refine TE.then_ret ?_
    exact TE.leaf fun _ _ hf_ hs_ => ret_any (rs := [.tmp 2]) (vs := [.slice none 0 0]) (.inl rfl) rfl ⟨rfl, trivial⟩ hf_ hs_ ⟨(.slice none 0 0), rfl, (hs_.nilItem 4).pulls [0] rfl⟩
  · refine TW.skip ?_
    refine TE.next ?_
    refine TW.seq ?_
    refine TW.region ?_
    refine TO.ef (Ef.buildSlice (α := Ent) (Vs := []) ([] : List Ent) ke24 kz72 rfl rfl rfl rfl rfl) rfl rfl rfl (fun B2 => ?_)
    refine TO.y (Y.move rfl) rfl rfl rfl ?_
    refine TO.bind fun E4 H5 => ?_
    refine TO.ef (Ef.append (α := Ent) (is' := []) [0] H5 ke24 kz72 rfl rfl rfl rfl rfl (Base.can HB_V_s0)) rfl rfl rfl (fun V3 => ?_)
    refine TO.y (Y.assign rfl) rfl rfl rfl ?_
    refine TO.nil ?_
    refine TE.next ?_
    refine TW.ret ?_
    exact TE.leaf fun _ _ hf_ hs_ => ret_any (rs := [.tmp 2]) (vs := [V3]) (.inl rfl) rfl ⟨rfl, trivial⟩ hf_ hs_ ⟨V3, rfl, hs_.pulls [0] rfl⟩

/-- slices.Clone[[]int,int] -/
noncomputable def slices_Clone_88240 (s : List Int) : Option (List Int) :=
  (app 8 ([] : List Int) s).bind fun E4 =>
  some E4

theorem slices_Clone_88240_con (s : List Int) (V_s0 : Value) (r : List Int) (hm : slices_Clone_88240 s = some r) :
    Con Try.prog 91 [V_s0] [] [(V_s0, lc s)] (fun X : Value => X) (fun X => [.own X (lc r)]) := by
  refine Con.intro (args := [V_s0]) (n := 8) (val := fun _ (X : Value) => X) (post := fun r X => [.own X (lc r)]) (m := slices_Clone_88240 s) Try.func91 rfl rfl rfl hm ?_
  intro w S hrd
  have HB_V_s0 := hrd _ (.head _)
  clear hrd
  unfold slices_Clone_88240
  refine TW.seq ?_
  refine TW.region ?_
  refine TO.y (Y.assign rfl) rfl rfl rfl ?_
  refine TO.nil ?_
  refine TE.next ?_
  refine TW.seq ?_
  refine TW.seq ?_
  refine TW.region ?_
  refine TO.y (Y.move rfl) rfl rfl rfl ?_
  refine TO.y (Y.nileq ke34 (Base.can HB_V_s0) rfl rfl) rfl rfl rfl ?_
  refine TO.nil ?_
  refine TE.next ?_
  refine TW.cond_nil (Base.can HB_V_s0) rfl (fun hnil_ => ?_) ?_
  · subst hnil_
    show TW _ _ _ (some ([])) _ _ _ _ _
    refine TW.seq ?_
    refine TW.region ?_
    refine TO.y (Y.assign rfl) rfl rfl rfl ?_
    refine TO.nil ?_
    refine TE.next ?_
    refine TW.ret ?_
    refine TE.then_ret ?_
    exact TE.leaf fun _ _ hf_ hs_ => ret_any (rs := [.tmp 2]) (vs := [.slice none 0 0]) (.inl rfl) rfl ⟨rfl, trivial⟩ hf_ hs_ ⟨(.slice none 0 0), rfl, (hs_.nilItem 1).pulls [0] rfl⟩
  · refine TW.skip ?_
    refine TE.next ?_
    refine TW.seq ?_
    refine TW.region ?_
    refine TO.ef (Ef.buildSlice (α := Int) (Vs := []) ([] : List Int) ke34 kz3 rfl rfl rfl rfl rfl) rfl rfl rfl (fun B2 => ?_)
    refine TO.y (Y.move rfl) rfl rfl rfl ?_
    refine TO.bind fun E4 H5 => ?_
    refine TO.ef (Ef.append (α := Int) (is' := []) [0] H5 ke34 kz3 rfl rfl rfl rfl rfl (Base.can HB_V_s0)) rfl rfl rfl (fun V3 => ?_)
    refine TO.y (Y.assign rfl) rfl rfl rfl ?_
    refine TO.nil ?_
    refine TE.next ?_
    refine TW.ret ?_
    exact TE.leaf fun _ _ hf_ hs_ => ret_any (rs := [.tmp 2]) (vs := [V3]) (.inl rfl) rfl ⟨rfl, trivial⟩ hf_ hs_ ⟨V3, rfl, hs_.pulls [0] rfl⟩

/-- loop.example/g00950/impl.copyEng -/
noncomputable def impl_copyEng (e : Eng) : Option Eng :=
  (slices_Clone_94167 e.Mem).bind fun R3 =>
  (slices_Clone_88240 e.Snaps).bind fun R7 =>
  bindC (loopO (fun (S17 : Int × List (List Ent)) => if (decide (S17.1 < ((e.Tables.length : Nat) : Int))) = true then ((idx e.Tables S17.1).bind fun E22 =>
  (slices_Clone_94167 E22).bind fun R25 =>
  (app 24 S17.2 ([R25])).bind fun E31 =>
  some (.go (IntKind.i64.wrap (S17.1 + (1 : Int)), E31)))
  else (some (.done (.go S17.2))))
  ((0 : Int), ([] : List (List Ent))))
  (fun (T19 : List (List Ent)) => some ({ Mem := R3, Tables := T19, Seq := e.Seq, Snaps := R7 : Eng }))

theorem impl_copyEng_con (e : Eng) (V_e0 : Value) (V_e1 : Value) (V_e3 : Value) (r : Eng) (hm : impl_copyEng e = some r) :
    Con Try.prog 50 [.agg #[V_e0, V_e1, .int .i64 e.Seq, V_e3]] [] [(V_e0, lc e.Mem), (V_e1, lc e.Tables), (V_e3, lc e.Snaps)] (fun X : Value × Value × Value => .agg #[X.1, X.2.1, .int .i64 r.Seq, X.2.2]) (fun X => [.own X.1 (lc r.Mem), .own X.2.1 (lc r.Tables), .own X.2.2 (lc r.Snaps)]) := by
  refine Con.intro (args := [.agg #[V_e0, V_e1, .int .i64 e.Seq, V_e3]]) (n := 31) (val := fun r (X : Value × Value × Value) => .agg #[X.1, X.2.1, .int .i64 r.Seq, X.2.2]) (post := fun r X => [.own X.1 (lc r.Mem), .own X.2.1 (lc r.Tables), .own X.2.2 (lc r.Snaps)]) (m := impl_copyEng e) Try.func50 rfl rfl rfl hm ?_
  intro w S hrd
  have HB_V_e0 := hrd _ (.head _)
  have HB_V_e1 := hrd _ (.tail _ (.head _))
  have HB_V_e3 := hrd _ (.tail _ (.tail _ (.head _)))
  clear hrd
  unfold impl_copyEng
  refine TW.seq ?_
  refine TW.region ?_
  refine TO.ef (Ef.box rfl (Cel.agg ⟨(One.can (Base.can HB_V_e0)), (One.can (Base.can HB_V_e1)), (One.plain rfl), (One.can (Base.can HB_V_e3)), trivial⟩)) rfl rfl rfl (fun B1 => ?_)
  refine TO.ef (Ef.alloc kz39 rfl) rfl rfl rfl (fun B2 => ?_)
  refine TO.nil ?_
  refine TE.next ?_
  refine TW.seq ?_
  refine TW.bind fun R3 H4 => ?_
  refine TW.bind fun R7 H8 => ?_
  refine TW.joinU (X := Nat × Value × Value) (fun _ X => [(1, .pointer (some ⟨B1, 0, none⟩)), (2, .pointer (some ⟨B2, 0, none⟩)), (3, .pointer (some ⟨X.1, 0, none⟩))]) (fun _ X => [.box B1 39 [V_e0, V_e1, .int .i64 e.Seq, V_e3], .box B2 39 [.slice none 0 0, .slice none 0 0, .int .i64 (0 : Int), .slice none 0 0], .box X.1 39 [X.2.1, .slice none 0 0, .int .i64 e.Seq, X.2.2], .own X.2.1 (lc R3), .own X.2.2 (lc R7)]) ?_ (fun _ X14 => ?_)
  · refine TW.draw (isH := [.box B2 39 [.slice none 0 0, .slice none 0 0, .int .i64 (0 : Int), .slice none 0 0], .box B1 39 [V_e0, V_e1, .int .i64 e.Seq, V_e3]]) hMix ?_
    refine TA.y (listed' := #[true, false, false, false, false, false, false, false, false, false, false]) 0 [0, 0] rfl (Y.field_box kf39_0 rfl rfl) rfl rfl rfl (by kernel_rfl) (by kernel_rfl) (by kernel_rfl) rfl rfl ?_
    refine TA.y (listed' := #[true, true, false, false, false, false, false, false, false, false, false]) 1 [0, 0] rfl (Y.load_box (v := V_e0) 1 kk24 rfl rfl rfl) rfl rfl rfl (by kernel_rfl) (by kernel_rfl) (by kernel_rfl) rfl rfl ?_
    refine TA.y (listed' := #[true, true, false, true, false, false, false, false, false, false, false]) 3 [0, 0] rfl (Y.field_box kf39_2 rfl rfl) rfl rfl rfl (by kernel_rfl) (by kernel_rfl) (by kernel_rfl) rfl rfl ?_
    refine TA.y (listed' := #[true, true, false, true, true, false, false, false, false, false, false]) 4 [0, 0] rfl (Y.load_box (v := .int .i64 e.Seq) 1 kk3 rfl rfl rfl) rfl rfl rfl (by kernel_rfl) (by kernel_rfl) (by kernel_rfl) rfl rfl ?_
    refine TA.y (listed' := #[true, true, false, true, true, true, false, false, false, false, false]) 5 [0, 0] rfl (Y.field_box kf39_3 rfl rfl) rfl rfl rfl (by kernel_rfl) (by kernel_rfl) (by kernel_rfl) rfl rfl ?_
    refine TA.y (listed' := #[true, true, false, true, true, true, true, false, false, false, false]) 6 [0, 0] rfl (Y.load_box (v := V_e3) 1 kk34 rfl rfl rfl) rfl rfl rfl (by kernel_rfl) (by kernel_rfl) (by kernel_rfl) rfl rfl ?_
    refine TA.two 2 9 (by kernel_rfl) ?_ ?_
    · refine TX.ef (listed' := #[true, true, true, true, true, true, true, false, false, false, false]) [1, 1] rfl (Ef.call (rest := [.box B2 39 [.slice none 0 0, .slice none 0 0, .int .i64 (0 : Int), .slice none 0 0], .box B1 39 [V_e0, V_e1, .int .i64 e.Seq, V_e3]]) [0, 0] (slices_Clone_94167_con e.Mem V_e0 R3 H4) kc90 rfl rfl ⟨(Base.can HB_V_e0), trivial⟩) rfl rfl rfl rfl (fun _ => rfl) (fun Y15 => ?_)
      refine TA.two 7 9 (by kernel_rfl) ?_ ?_
      · refine TX.ef (listed' := #[true, true, true, true, true, true, true, true, false, false, false]) [2, 2] rfl (Ef.call (rest := [.own Y15 (lc R3), .box B2 39 [.slice none 0 0, .slice none 0 0, .int .i64 (0 : Int), .slice none 0 0], .box B1 39 [V_e0, V_e1, .int .i64 e.Seq, V_e3]]) [0, 0, 0] (slices_Clone_88240_con e.Snaps V_e3 R7 H8) kc91 rfl rfl ⟨(Base.can HB_V_e3), trivial⟩) rfl rfl rfl rfl (fun _ => rfl) (fun Y17 => ?_)
        refine TA.two 8 9 (by kernel_rfl) ?_ ?_
        · refine TX.y (listed' := #[true, true, true, true, true, true, true, true, true, false, false]) [2, 2] rfl (Y.build (cells := [Y15, .slice none 0 0, .int .i64 e.Seq, Y17]) [(0, [Y15]), (2, [.int .i64 e.Seq]), (3, [Y17])] kp39 kz39 ⟨rfl, ⟨_, rfl, (Cel.one (One.can (Can.own 1 rfl)))⟩, ⟨rfl, ⟨_, rfl, (Cel.plain rfl rfl)⟩, ⟨rfl, ⟨_, rfl, (Cel.one (One.can (Can.own 0 rfl)))⟩, trivial⟩⟩⟩ rfl) rfl rfl rfl rfl rfl ?_
          refine TA.one 9 (by kernel_rfl) ?_
          refine TX.ef (listed' := #[true, true, true, true, true, true, true, true, true, true, false]) [3, 3] rfl (Ef.alloc kz39 rfl) rfl rfl rfl rfl (fun _ => rfl) (fun B20 => ?_)
          refine TA.one 10 (by kernel_rfl) ?_
          refine TX.ef0 (listed' := #[true, true, true, true, true, true, true, true, true, true, true]) [3, 3] rfl (Ef.store_box (us := [Y15, .slice none 0 0, .int .i64 e.Seq, Y17]) (vs' := [Y15, .slice none 0 0, .int .i64 e.Seq, Y17]) (is' := [.box B20 39 [Y15, .slice none 0 0, .int .i64 e.Seq, Y17], .own Y17 (lc R7), .own Y15 (lc R3), .box B2 39 [.slice none 0 0, .slice none 0 0, .int .i64 (0 : Int), .slice none 0 0], .box B1 39 [V_e0, V_e1, .int .i64 e.Seq, V_e3]]) 0 kk39 rfl rfl rfl (Cel.agg ⟨(One.can (Can.own 2 rfl)), (One.plain rfl), (One.plain rfl), (One.can (Can.own 1 rfl)), trivial⟩) rfl rfl rfl rfl) rfl rfl rfl (fun _ => rfl) (fun _ => ?_)
          refine TA.nil (by kernel_rfl) ?_
          exact TE.jb_go (B20, Y15, Y17) [4, 3, 0, 1, 0] ⟨rfl, rfl, rfl, trivial⟩ rfl
        · refine TX.ef (listed' := #[true, true, true, true, true, true, true, true, false, true, false]) [3, 3] rfl (Ef.alloc kz39 rfl) rfl rfl rfl rfl (fun _ => rfl) (fun B19 => ?_)
          refine TA.one 8 (by kernel_rfl) ?_
          refine TX.y (listed' := #[true, true, true, true, true, true, true, true, true, true, false]) [3, 3] rfl (Y.build (cells := [Y15, .slice none 0 0, .int .i64 e.Seq, Y17]) [(0, [Y15]), (2, [.int .i64 e.Seq]), (3, [Y17])] kp39 kz39 ⟨rfl, ⟨_, rfl, (Cel.one (One.can (Can.own 2 rfl)))⟩, ⟨rfl, ⟨_, rfl, (Cel.plain rfl rfl)⟩, ⟨rfl, ⟨_, rfl, (Cel.one (One.can (Can.own 1 rfl)))⟩, trivial⟩⟩⟩ rfl) rfl rfl rfl rfl rfl ?_
          refine TA.one 10 (by kernel_rfl) ?_
          refine TX.ef0 (listed' := #[true, true, true, true, true, true, true, true, true, true, true]) [3, 3] rfl (Ef.store_box (us := [Y15, .slice none 0 0, .int .i64 e.Seq, Y17]) (vs' := [Y15, .slice none 0 0, .int .i64 e.Seq, Y17]) (is' := [.box B19 39 [Y15, .slice none 0 0, .int .i64 e.Seq, Y17], .own Y17 (lc R7), .own Y15 (lc R3), .box B2 39 [.slice none 0 0, .slice none 0 0, .int .i64 (0 : Int), .slice none 0 0], .box B1 39 [V_e0, V_e1, .int .i64 e.Seq, V_e3]]) 0 kk39 rfl rfl rfl (Cel.agg ⟨(One.can (Can.own 2 rfl)), (One.plain rfl), (One.plain rfl), (One.can (Can.own 1 rfl)), trivial⟩) rfl rfl rfl rfl) rfl rfl rfl (fun _ => rfl) (fun _ => ?_)
          refine TA.nil (by kernel_rfl) ?_
          exact TE.jb_go (B19, Y15, Y17) [4, 3, 0, 1, 0] ⟨rfl, rfl, rfl, trivial⟩ rfl
      · refine TX.ef (listed' := #[true, true, true, true, true, true, true, false, false, true, false]) [2, 2] rfl (Ef.alloc kz39 rfl) rfl rfl rfl rfl (fun _ => rfl) (fun B18 => ?_)
        refine TA.one 7 (by kernel_rfl) ?_
        refine TX.ef (listed' := #[true, true, true, true, true, true, true, true, false, true, false]) [3, 3] rfl (Ef.call (rest := [.box B18 39 [.slice none 0 0, .slice none 0 0, .int .i64 (0 : Int), .slice none 0 0], .own Y15 (lc R3), .box B2 39 [.slice none 0 0, .slice none 0 0, .int .i64 (0 : Int), .slice none 0 0], .box B1 39 [V_e0, V_e1, .int .i64 e.Seq, V_e3]]) [0, 0, 0, 0] (slices_Clone_88240_con e.Snaps V_e3 R7 H8) kc91 rfl rfl ⟨(Base.can HB_V_e3), trivial⟩) rfl rfl rfl rfl (fun _ => rfl) (fun Y19 => ?_)
        refine TA.one 8 (by kernel_rfl) ?_
        refine TX.y (listed' := #[true, true, true, true, true, true, true, true, true, true, false]) [3, 3] rfl (Y.build (cells := [Y15, .slice none 0 0, .int .i64 e.Seq, Y19]) [(0, [Y15]), (2, [.int .i64 e.Seq]), (3, [Y19])] kp39 kz39 ⟨rfl, ⟨_, rfl, (Cel.one (One.can (Can.own 2 rfl)))⟩, ⟨rfl, ⟨_, rfl, (Cel.plain rfl rfl)⟩, ⟨rfl, ⟨_, rfl, (Cel.one (One.can (Can.own 0 rfl)))⟩, trivial⟩⟩⟩ rfl) rfl rfl rfl rfl rfl ?_
        refine TA.one 10 (by kernel_rfl) ?_
        refine TX.ef0 (listed' := #[true, true, true, true, true, true, true, true, true, true, true]) [3, 3] rfl (Ef.store_box (us := [Y15, .slice none 0 0, .int .i64 e.Seq, Y19]) (vs' := [Y15, .slice none 0 0, .int .i64 e.Seq, Y19]) (is' := [.own Y19 (lc R7), .box B18 39 [Y15, .slice none 0 0, .int .i64 e.Seq, Y19], .own Y15 (lc R3), .box B2 39 [.slice none 0 0, .slice none 0 0, .int .i64 (0 : Int), .slice none 0 0], .box B1 39 [V_e0, V_e1, .int .i64 e.Seq, V_e3]]) 1 kk39 rfl rfl rfl (Cel.agg ⟨(One.can (Can.own 2 rfl)), (One.plain rfl), (One.plain rfl), (One.can (Can.own 0 rfl)), trivial⟩) rfl rfl rfl rfl) rfl rfl rfl (fun _ => rfl) (fun _ => ?_)
        refine TA.nil (by kernel_rfl) ?_
        exact TE.jb_go (B18, Y15, Y19) [4, 3, 1, 1, 0] ⟨rfl, rfl, rfl, trivial⟩ rfl
    · refine TX.ef (listed' := #[true, true, false, true, true, true, true, false, false, true, false]) [1, 1] rfl (Ef.alloc kz39 rfl) rfl rfl rfl rfl (fun _ => rfl) (fun B16 => ?_)
      refine TA.one 2 (by kernel_rfl) ?_
      refine TX.ef (listed' := #[true, true, true, true, true, true, true, false, false, true, false]) [2, 2] rfl (Ef.call (rest := [.box B16 39 [.slice none 0 0, .slice none 0 0, .int .i64 (0 : Int), .slice none 0 0], .box B2 39 [.slice none 0 0, .slice none 0 0, .int .i64 (0 : Int), .slice none 0 0], .box B1 39 [V_e0, V_e1, .int .i64 e.Seq, V_e3]]) [0, 0, 0] (slices_Clone_94167_con e.Mem V_e0 R3 H4) kc90 rfl rfl ⟨(Base.can HB_V_e0), trivial⟩) rfl rfl rfl rfl (fun _ => rfl) (fun Y17 => ?_)
      refine TA.one 7 (by kernel_rfl) ?_
      refine TX.ef (listed' := #[true, true, true, true, true, true, true, true, false, true, false]) [3, 3] rfl (Ef.call (rest := [.own Y17 (lc R3), .box B16 39 [.slice none 0 0, .slice none 0 0, .int .i64 (0 : Int), .slice none 0 0], .box B2 39 [.slice none 0 0, .slice none 0 0, .int .i64 (0 : Int), .slice none 0 0], .box B1 39 [V_e0, V_e1, .int .i64 e.Seq, V_e3]]) [0, 0, 0, 0] (slices_Clone_88240_con e.Snaps V_e3 R7 H8) kc91 rfl rfl ⟨(Base.can HB_V_e3), trivial⟩) rfl rfl rfl rfl (fun _ => rfl) (fun Y18 => ?_)
      refine TA.one 8 (by kernel_rfl) ?_
      refine TX.y (listed' := #[true, true, true, true, true, true, true, true, true, true, false]) [3, 3] rfl (Y.build (cells := [Y17, .slice none 0 0, .int .i64 e.Seq, Y18]) [(0, [Y17]), (2, [.int .i64 e.Seq]), (3, [Y18])] kp39 kz39 ⟨rfl, ⟨_, rfl, (Cel.one (One.can (Can.own 1 rfl)))⟩, ⟨rfl, ⟨_, rfl, (Cel.plain rfl rfl)⟩, ⟨rfl, ⟨_, rfl, (Cel.one (One.can (Can.own 0 rfl)))⟩, trivial⟩⟩⟩ rfl) rfl rfl rfl rfl rfl ?_
      refine TA.one 10 (by kernel_rfl) ?_
      refine TX.ef0 (listed' := #[true, true, true, true, true, true, true, true, true, true, true]) [3, 3] rfl (Ef.store_box (us := [Y17, .slice none 0 0, .int .i64 e.Seq, Y18]) (vs' := [Y17, .slice none 0 0, .int .i64 e.Seq, Y18]) (is' := [.own Y18 (lc R7), .own Y17 (lc R3), .box B16 39 [Y17, .slice none 0 0, .int .i64 e.Seq, Y18], .box B2 39 [.slice none 0 0, .slice none 0 0, .int .i64 (0 : Int), .slice none 0 0], .box B1 39 [V_e0, V_e1, .int .i64 e.Seq, V_e3]]) 2 kk39 rfl rfl rfl (Cel.agg ⟨(One.can (Can.own 1 rfl)), (One.plain rfl), (One.plain rfl), (One.can (Can.own 0 rfl)), trivial⟩) rfl rfl rfl rfl) rfl rfl rfl (fun _ => rfl) (fun _ => ?_)
      refine TA.nil (by kernel_rfl) ?_
      exact TE.jb_go (B16, Y17, Y18) [4, 3, 2, 1, 0] ⟨rfl, rfl, rfl, trivial⟩ rfl
  · refine TE.next ?_
    refine TW.seq ?_
    refine TW.seq ?_
    refine TW.region ?_
    refine TO.y (Y.field_box kf39_1 rfl rfl) rfl rfl rfl ?_
    refine TO.y (Y.load_box (v := V_e1) 0 kk26 rfl rfl rfl) rfl rfl rfl ?_
    refine TO.y (Y.len (l := e.Tables) ke26 (Base.can HB_V_e1) rfl) rfl rfl rfl ?_
    refine TO.y (Y.move rfl) rfl rfl rfl ?_
    refine TO.nil ?_
    refine TE.next ?_
    refine TW.joinX (τ := List (List Ent)) (X := Value) (fun _ _ => [(2, .pointer (some ⟨B2, 0, none⟩)), (3, .pointer (some ⟨X14.1, 0, none⟩))]) (fun T X => [.box B2 39 [.slice none 0 0, .slice none 0 0, .int .i64 (0 : Int), .slice none 0 0], .box X14.1 39 [X14.2.1, X, .int .i64 e.Seq, X14.2.2], .own X14.2.1 (lc R3), .own X (lc T), .own X14.2.2 (lc R7)]) ?_ (fun T19 X20 => ?_)
    · refine TW.block ?_
      refine TW.nilItem 1 ?_
      refine TW.loopX (σ := Int × List (List Ent)) (X := Value) (fun T _ => [(2, .pointer (some ⟨B2, 0, none⟩)), (3, .pointer (some ⟨X14.1, 0, none⟩)), (16, V_e1), (17, .int .i64 ((e.Tables.length : Nat) : Int)), (18, .int .i64 T.1)]) (fun T X => [.box B2 39 [.slice none 0 0, .slice none 0 0, .int .i64 (0 : Int), .slice none 0 0], .box X14.1 39 [X14.2.1, X, .int .i64 e.Seq, X14.2.2], .own X14.2.1 (lc R3), .own X (lc T.2), .own X14.2.2 (lc R7)]) (.slice none 0 0) [2, 2, 2, 0, 1] ⟨rfl, rfl, rfl, rfl, rfl, trivial⟩ rfl (fun S17 X18 => ?_)
      refine TW.seq ?_
      refine TW.region ?_
      refine TO.y (Y.lss rfl rfl) rfl rfl rfl ?_
      refine TO.nil ?_
      refine TE.next ?_
      refine TW.seq ?_
      refine TW.cond rfl (fun H21 => ?_) (fun H21 => ?_)
      · refine TW.skip ?_
        refine TE.next ?_
        refine TW.seq ?_
        refine TW.block ?_
        refine TW.seq ?_
        refine TW.region ?_
        refine TO.bind fun E22 H23 => ?_
        refine TO.y (Y.index ke26 (Base.can HB_V_e1) H23 rfl rfl) rfl rfl rfl ?_
        have Q24 : Base w S (elv w V_e1 (S17.1.toNat * 1 + 0)) (lc E22) := Base.el HB_V_e1 (idx_get H23).2.2 rfl rfl
        refine TO.y (Y.load_base (α := List Ent) (u := (elv w V_e1 (S17.1.toNat * 1 + 0))) kk24 rfl HB_V_e1 (idx_get H23).2.2 rfl rfl rfl rfl rfl) rfl rfl rfl ?_
        refine TO.y (Y.assign rfl) rfl rfl rfl ?_
        refine TO.nil ?_
        refine TE.next ?_
        refine TW.bind fun R25 H26 => ?_
        refine TW.bind fun E31 H32 => ?_
        refine TW.joinU (X := Value) (fun _ _ => [(2, .pointer (some ⟨B2, 0, none⟩)), (3, .pointer (some ⟨X14.1, 0, none⟩)), (16, V_e1), (17, .int .i64 ((e.Tables.length : Nat) : Int)), (18, .int .i64 S17.1)]) (fun _ X => [.box B2 39 [.slice none 0 0, .slice none 0 0, .int .i64 (0 : Int), .slice none 0 0], .box X14.1 39 [X14.2.1, X, .int .i64 e.Seq, X14.2.2], .own X14.2.1 (lc R3), .own X (lc E31), .own X14.2.2 (lc R7)]) ?_ (fun _ X34 => ?_)
        · refine TW.draw (isH := [.box B2 39 [.slice none 0 0, .slice none 0 0, .int .i64 (0 : Int), .slice none 0 0], .own X14.2.1 (lc R3), .own X14.2.2 (lc R7)]) hMix ?_
          refine TA.y (listed' := #[true, false, false, false, false, false, false, false]) 0 [0, 1, 2] rfl (Y.field_box kf39_1 rfl rfl) rfl rfl rfl (by kernel_rfl) (by kernel_rfl) (by kernel_rfl) rfl rfl ?_
          refine TA.y (listed' := #[true, false, true, false, false, false, false, false]) 2 [0, 1, 2] rfl (Y.move rfl) rfl rfl rfl (by kernel_rfl) (by kernel_rfl) (by kernel_rfl) rfl rfl ?_
          refine TA.two 1 3 (by kernel_rfl) ?_ ?_
          · refine TX.y (listed' := #[true, true, true, false, false, false, false, false]) [0, 1, 2] rfl (Y.load_box (v := X18) 1 kk26 rfl rfl rfl) rfl rfl rfl rfl rfl ?_
            refine TA.one 3 (by kernel_rfl) ?_
            refine TX.ef (listed' := #[true, true, true, true, false, false, false, false]) [1, 2, 3] rfl (Ef.call (rest := [.box B2 39 [.slice none 0 0, .slice none 0 0, .int .i64 (0 : Int), .slice none 0 0], .box X14.1 39 [X14.2.1, X18, .int .i64 e.Seq, X14.2.2], .own X14.2.1 (lc R3), .own X18 (lc S17.2), .own X14.2.2 (lc R7)]) [0, 0, 0, 0, 0] (slices_Clone_94167_con E22 (elv w V_e1 (S17.1.toNat * 1 + 0)) R25 H26) kc90 rfl rfl ⟨(Base.can Q24), trivial⟩) rfl rfl rfl rfl (fun _ => rfl) (fun Y36 => ?_)
            refine TA.one 4 (by kernel_rfl) ?_
            refine TX.ef (listed' := #[true, true, true, true, true, false, false, false]) [2, 3, 4] rfl (Ef.buildSliceR (Vs := [Y36]) [[Y36]] [.raw Y36] ke26 kz24 rfl rfl rfl rfl rfl ⟨(Cel.one (One.can (Can.own 0 rfl))), trivial⟩ rfl) rfl rfl rfl rfl (fun _ => rfl) (fun B37 => ?_)
            refine TA.ghost (is' := fun _ => [.own (.slice (some ⟨B37, 0, none⟩) 1 1) (lc ([R25])), .box B2 39 [.slice none 0 0, .slice none 0 0, .int .i64 (0 : Int), .slice none 0 0], .box X14.1 39 [X14.2.1, X18, .int .i64 e.Seq, X14.2.2], .own X14.2.1 (lc R3), .own X18 (lc S17.2), .own X14.2.2 (lc R7)]) (Gh.closeAll (js := [.own Y36 (lc R25)]) (r := [.box B2 39 [.slice none 0 0, .slice none 0 0, .int .i64 (0 : Int), .slice none 0 0], .box X14.1 39 [X14.2.1, X18, .int .i64 e.Seq, X14.2.2], .own X14.2.1 (lc R3), .own X18 (lc S17.2), .own X14.2.2 (lc R7)]) [0, 0, 0, 0, 0, 0, 0] rfl (Cls.fill Cls.nil)) (fun _ => ?_)
            refine TA.one 5 (by kernel_rfl) ?_
            refine TX.ef (listed' := #[true, true, true, true, true, true, false, false]) [1, 2, 2] rfl (Ef.appN (α := List Ent) (is' := [.box B2 39 [.slice none 0 0, .slice none 0 0, .int .i64 (0 : Int), .slice none 0 0], .box X14.1 39 [X14.2.1, X18, .int .i64 e.Seq, X14.2.2], .own X14.2.1 (lc R3), .own X14.2.2 (lc R7)]) [4, 0, 0, 0, 0, 0] H32 ke26 kz24 rfl rfl rfl rfl rfl) rfl rfl rfl rfl (fun _ => rfl) (fun V38 => ?_)
            refine TA.y (listed' := #[true, true, true, true, true, true, true, false]) 6 [1, 2, 2] rfl (Y.field_box kf39_1 rfl rfl) rfl rfl rfl (by kernel_rfl) (by kernel_rfl) (by kernel_rfl) rfl rfl ?_
            refine TA.one 7 (by kernel_rfl) ?_
            refine TX.ef0 (listed' := #[true, true, true, true, true, true, true, true]) [1, 2, 2] rfl (Ef.store_box (us := [V38]) (vs' := [X14.2.1, V38, .int .i64 e.Seq, X14.2.2]) (is' := [.own V38 (lc E31), .box B2 39 [.slice none 0 0, .slice none 0 0, .int .i64 (0 : Int), .slice none 0 0], .box X14.1 39 [X14.2.1, V38, .int .i64 e.Seq, X14.2.2], .own X14.2.1 (lc R3), .own X14.2.2 (lc R7)]) 2 kk26 rfl rfl rfl (Cel.one (One.can (Can.own 0 rfl))) rfl rfl rfl rfl) rfl rfl rfl (fun _ => rfl) (fun _ => ?_)
            refine TA.nil (by kernel_rfl) ?_
            exact TE.jb_go V38 [1, 1, 1, 0, 0] ⟨rfl, rfl, rfl, rfl, rfl, trivial⟩ rfl
          · refine TX.ef (listed' := #[true, false, true, true, false, false, false, false]) [1, 2, 3] rfl (Ef.call (rest := [.box B2 39 [.slice none 0 0, .slice none 0 0, .int .i64 (0 : Int), .slice none 0 0], .box X14.1 39 [X14.2.1, X18, .int .i64 e.Seq, X14.2.2], .own X14.2.1 (lc R3), .own X18 (lc S17.2), .own X14.2.2 (lc R7)]) [0, 0, 0, 0, 0] (slices_Clone_94167_con E22 (elv w V_e1 (S17.1.toNat * 1 + 0)) R25 H26) kc90 rfl rfl ⟨(Base.can Q24), trivial⟩) rfl rfl rfl rfl (fun _ => rfl) (fun Y35 => ?_)
            refine TA.two 1 4 (by kernel_rfl) ?_ ?_
            · refine TX.y (listed' := #[true, true, true, true, false, false, false, false]) [1, 2, 3] rfl (Y.load_box (v := X18) 2 kk26 rfl rfl rfl) rfl rfl rfl rfl rfl ?_
              refine TA.one 4 (by kernel_rfl) ?_
              refine TX.ef (listed' := #[true, true, true, true, true, false, false, false]) [2, 3, 4] rfl (Ef.buildSliceR (Vs := [Y35]) [[Y35]] [.raw Y35] ke26 kz24 rfl rfl rfl rfl rfl ⟨(Cel.one (One.can (Can.own 0 rfl))), trivial⟩ rfl) rfl rfl rfl rfl (fun _ => rfl) (fun B37 => ?_)
              refine TA.ghost (is' := fun _ => [.own (.slice (some ⟨B37, 0, none⟩) 1 1) (lc ([R25])), .box B2 39 [.slice none 0 0, .slice none 0 0, .int .i64 (0 : Int), .slice none 0 0], .box X14.1 39 [X14.2.1, X18, .int .i64 e.Seq, X14.2.2], .own X14.2.1 (lc R3), .own X18 (lc S17.2), .own X14.2.2 (lc R7)]) (Gh.closeAll (js := [.own Y35 (lc R25)]) (r := [.box B2 39 [.slice none 0 0, .slice none 0 0, .int .i64 (0 : Int), .slice none 0 0], .box X14.1 39 [X14.2.1, X18, .int .i64 e.Seq, X14.2.2], .own X14.2.1 (lc R3), .own X18 (lc S17.2), .own X14.2.2 (lc R7)]) [0, 0, 0, 0, 0, 0, 0] rfl (Cls.fill Cls.nil)) (fun _ => ?_)
              refine TA.one 5 (by kernel_rfl) ?_
              refine TX.ef (listed' := #[true, true, true, true, true, true, false, false]) [1, 2, 2] rfl (Ef.appN (α := List Ent) (is' := [.box B2 39 [.slice none 0 0, .slice none 0 0, .int .i64 (0 : Int), .slice none 0 0], .box X14.1 39 [X14.2.1, X18, .int .i64 e.Seq, X14.2.2], .own X14.2.1 (lc R3), .own X14.2.2 (lc R7)]) [4, 0, 0, 0, 0, 0] H32 ke26 kz24 rfl rfl rfl rfl rfl) rfl rfl rfl rfl (fun _ => rfl) (fun V38 => ?_)
              refine TA.y (listed' := #[true, true, true, true, true, true, true, false]) 6 [1, 2, 2] rfl (Y.field_box kf39_1 rfl rfl) rfl rfl rfl (by kernel_rfl) (by kernel_rfl) (by kernel_rfl) rfl rfl ?_
              refine TA.one 7 (by kernel_rfl) ?_
              refine TX.ef0 (listed' := #[true, true, true, true, true, true, true, true]) [1, 2, 2] rfl (Ef.store_box (us := [V38]) (vs' := [X14.2.1, V38, .int .i64 e.Seq, X14.2.2]) (is' := [.own V38 (lc E31), .box B2 39 [.slice none 0 0, .slice none 0 0, .int .i64 (0 : Int), .slice none 0 0], .box X14.1 39 [X14.2.1, V38, .int .i64 e.Seq, X14.2.2], .own X14.2.1 (lc R3), .own X14.2.2 (lc R7)]) 2 kk26 rfl rfl rfl (Cel.one (One.can (Can.own 0 rfl))) rfl rfl rfl rfl) rfl rfl rfl (fun _ => rfl) (fun _ => ?_)
              refine TA.nil (by kernel_rfl) ?_
              exact TE.jb_go V38 [1, 1, 1, 0, 0] ⟨rfl, rfl, rfl, rfl, rfl, trivial⟩ rfl
            · refine TX.ef (listed' := #[true, false, true, true, true, false, false, false]) [2, 3, 4] rfl (Ef.buildSliceR (Vs := [Y35]) [[Y35]] [.raw Y35] ke26 kz24 rfl rfl rfl rfl rfl ⟨(Cel.one (One.can (Can.own 0 rfl))), trivial⟩ rfl) rfl rfl rfl rfl (fun _ => rfl) (fun B36 => ?_)
              refine TA.ghost (is' := fun _ => [.own (.slice (some ⟨B36, 0, none⟩) 1 1) (lc ([R25])), .box B2 39 [.slice none 0 0, .slice none 0 0, .int .i64 (0 : Int), .slice none 0 0], .box X14.1 39 [X14.2.1, X18, .int .i64 e.Seq, X14.2.2], .own X14.2.1 (lc R3), .own X18 (lc S17.2), .own X14.2.2 (lc R7)]) (Gh.closeAll (js := [.own Y35 (lc R25)]) (r := [.box B2 39 [.slice none 0 0, .slice none 0 0, .int .i64 (0 : Int), .slice none 0 0], .box X14.1 39 [X14.2.1, X18, .int .i64 e.Seq, X14.2.2], .own X14.2.1 (lc R3), .own X18 (lc S17.2), .own X14.2.2 (lc R7)]) [0, 0, 0, 0, 0, 0, 0] rfl (Cls.fill Cls.nil)) (fun _ => ?_)
              refine TA.one 1 (by kernel_rfl) ?_
              refine TX.y (listed' := #[true, true, true, true, true, false, false, false]) [1, 2, 3] rfl (Y.load_box (v := X18) 2 kk26 rfl rfl rfl) rfl rfl rfl rfl rfl ?_
              refine TA.one 5 (by kernel_rfl) ?_
              refine TX.ef (listed' := #[true, true, true, true, true, true, false, false]) [1, 2, 2] rfl (Ef.appN (α := List Ent) (is' := [.box B2 39 [.slice none 0 0, .slice none 0 0, .int .i64 (0 : Int), .slice none 0 0], .box X14.1 39 [X14.2.1, X18, .int .i64 e.Seq, X14.2.2], .own X14.2.1 (lc R3), .own X14.2.2 (lc R7)]) [4, 0, 0, 0, 0, 0] H32 ke26 kz24 rfl rfl rfl rfl rfl) rfl rfl rfl rfl (fun _ => rfl) (fun V37 => ?_)
              refine TA.y (listed' := #[true, true, true, true, true, true, true, false]) 6 [1, 2, 2] rfl (Y.field_box kf39_1 rfl rfl) rfl rfl rfl (by kernel_rfl) (by kernel_rfl) (by kernel_rfl) rfl rfl ?_
              refine TA.one 7 (by kernel_rfl) ?_
              refine TX.ef0 (listed' := #[true, true, true, true, true, true, true, true]) [1, 2, 2] rfl (Ef.store_box (us := [V37]) (vs' := [X14.2.1, V37, .int .i64 e.Seq, X14.2.2]) (is' := [.own V37 (lc E31), .box B2 39 [.slice none 0 0, .slice none 0 0, .int .i64 (0 : Int), .slice none 0 0], .box X14.1 39 [X14.2.1, V37, .int .i64 e.Seq, X14.2.2], .own X14.2.1 (lc R3), .own X14.2.2 (lc R7)]) 2 kk26 rfl rfl rfl (Cel.one (One.can (Can.own 0 rfl))) rfl rfl rfl rfl) rfl rfl rfl (fun _ => rfl) (fun _ => ?_)
              refine TA.nil (by kernel_rfl) ?_
              exact TE.jb_go V37 [1, 1, 1, 0, 0] ⟨rfl, rfl, rfl, rfl, rfl, trivial⟩ rfl
        · refine TE.block_normal ?_
          refine TE.next ?_
          refine TW.region ?_
          refine TO.y (Y.add rfl rfl) rfl rfl rfl ?_
          refine TO.y (Y.move rfl) rfl rfl rfl ?_
          refine TO.nil ?_
          exact TE.lp_go X34 [0, 0, 0, 0, 0] ⟨rfl, rfl, rfl, rfl, rfl, trivial⟩ rfl
      · refine TW.exit ?_
        refine TE.then_exit ?_
        refine TE.lp_exit ?_
        refine TE.block_exit ?_
        exact TE.jn_go X18 [0, 0, 0, 0, 0] ⟨rfl, rfl, trivial⟩ rfl
    · refine TE.next ?_
      refine TW.seq ?_
      refine TW.region ?_
      refine TO.y (Y.load_box (v := .agg #[X14.2.1, X20, .int .i64 e.Seq, X14.2.2]) 1 kk39 rfl rfl rfl) rfl rfl rfl ?_
      refine TO.ef0 (Ef.store_box (us := [X14.2.1, X20, .int .i64 e.Seq, X14.2.2]) (vs' := [X14.2.1, X20, .int .i64 e.Seq, X14.2.2]) (is' := [.box B2 39 [X14.2.1, X20, .int .i64 e.Seq, X14.2.2], .box X14.1 39 [X14.2.1, X20, .int .i64 e.Seq, X14.2.2], .own X14.2.1 (lc R3), .own X20 (lc T19), .own X14.2.2 (lc R7)]) 0 kk39 rfl rfl rfl (Cel.agg ⟨(One.can (Can.own 2 rfl)), (One.can (Can.own 3 rfl)), (One.plain rfl), (One.can (Can.own 4 rfl)), trivial⟩) rfl rfl rfl rfl) rfl rfl (fun _ => ?_)
      refine TO.nil ?_
      refine TE.next ?_
      refine TW.ret ?_
      exact TE.leaf fun _ _ hf_ hs_ => ret_any (rs := [.cell 2 39]) (vs := [.agg #[X14.2.1, X20, .int .i64 e.Seq, X14.2.2]]) (.inl rfl) rfl (RV.cell 0 rfl rfl kk39 rfl trivial) hf_ hs_ ⟨(X14.2.1, X20, X14.2.2), rfl, hs_.pulls [2, 2, 2] rfl⟩

/-- slices.Index[[]int,int] -/
noncomputable def slices_Index_88240 (s : List Int) (v : Int) : Option Int :=
  bindC (loopO (fun (S1 : Int) => if (decide (S1 < ((s.length : Nat) : Int))) = true then ((idx s S1).bind fun E6 =>
  if (decide (v = E6)) = true then (some (.done (.done S1)))
  else (some (.go (IntKind.i64.wrap (S1 + (1 : Int))))))
  else (some (.done (.go ()))))
  (0 : Int))
  (fun (T3 : Unit) => some (-1 : Int))

theorem slices_Index_88240_con (s : List Int) (v : Int) (V_s0 : Value) (r : Int) (hm : slices_Index_88240 s v = some r) :
    Con Try.prog 70 [V_s0, .int .i64 v] [] [(V_s0, lc s)] (fun _ : Unit => .int .i64 r) (fun _ => []) := by
  refine Con.intro (args := [V_s0, .int .i64 v]) (n := 19) (val := fun r (_ : Unit) => .int .i64 r) (post := fun _ _ => []) (m := slices_Index_88240 s v) Try.func70 rfl rfl rfl hm ?_
  intro w S hrd
  have HB_V_s0 := hrd _ (.head _)
  clear hrd
  unfold slices_Index_88240
  refine TW.seq ?_
  refine TW.region ?_
  refine TO.y (Y.assign rfl) rfl rfl rfl ?_
  refine TO.nil ?_
  refine TE.next ?_
  refine TW.seq ?_
  refine TW.seq ?_
  refine TW.region ?_
  refine TO.y (Y.move rfl) rfl rfl rfl ?_
  refine TO.y (Y.len (l := s) ke34 (Base.can HB_V_s0) rfl) rfl rfl rfl ?_
  refine TO.y (Y.move rfl) rfl rfl rfl ?_
  refine TO.nil ?_
  refine TE.next ?_
  refine TW.joinX (τ := Unit) (X := Unit) (fun _ _ => []) (fun _ _ => []) ?_ (fun T3 X4 => ?_)
  · refine TW.block ?_
    refine TW.loopX (σ := Int) (X := Unit) (fun T _ => [(0, V_s0), (1, .int .i64 v), (7, .int .i64 ((s.length : Nat) : Int)), (8, .int .i64 T)]) (fun _ _ => []) () [] ⟨rfl, rfl, rfl, rfl, trivial⟩ rfl (fun S1 X2 => ?_)
    refine TW.seq ?_
    refine TW.region ?_
    refine TO.y (Y.lss rfl rfl) rfl rfl rfl ?_
    refine TO.nil ?_
    refine TE.next ?_
    refine TW.seq ?_
    refine TW.cond rfl (fun H5 => ?_) (fun H5 => ?_)
    · refine TW.skip ?_
      refine TE.next ?_
      refine TW.seq ?_
      refine TW.block ?_
      refine TW.seq ?_
      refine TW.region ?_
      refine TO.y (Y.move rfl) rfl rfl rfl ?_
      refine TO.y (Y.assign rfl) rfl rfl rfl ?_
      refine TO.nil ?_
      refine TE.next ?_
      refine TW.seq ?_
      refine TW.region ?_
      refine TO.y (Y.move rfl) rfl rfl rfl ?_
      refine TO.y (Y.move rfl) rfl rfl rfl ?_
      refine TO.y (Y.move rfl) rfl rfl rfl ?_
      refine TO.bind fun E6 H7 => ?_
      refine TO.y (Y.index ke34 (Base.can HB_V_s0) H7 rfl rfl) rfl rfl rfl ?_
      refine TO.y (Y.load_el (us := [.int .i64 E6]) (u := .int .i64 E6) kk3 rfl (Base.can HB_V_s0) (idx_get H7).2.2 rfl rfl rfl rfl rfl) rfl rfl rfl ?_
      refine TO.y (Y.eql rfl rfl) rfl rfl rfl ?_
      refine TO.nil ?_
      refine TE.next ?_
      refine TW.cond rfl (fun H8 => ?_) (fun H8 => ?_)
      · refine TW.seq ?_
        refine TW.region ?_
        refine TO.y (Y.move rfl) rfl rfl rfl ?_
        refine TO.y (Y.assign rfl) rfl rfl rfl ?_
        refine TO.nil ?_
        refine TE.next ?_
        refine TW.ret ?_
        refine TE.block_ret ?_
        refine TE.then_ret ?_
        refine TE.lp_ret ?_
        refine TE.block_ret ?_
        refine TE.jn_done ?_
        refine TE.then_ret ?_
        exact TE.leaf fun _ _ hf_ hs_ => ret_any (rs := [.tmp 4]) (vs := [.int .i64 S1]) (.inl rfl) rfl ⟨rfl, trivial⟩ hf_ hs_ ⟨(), rfl, hs_.pulls [] rfl⟩
      · refine TW.skip ?_
        refine TE.block_normal ?_
        refine TE.next ?_
        refine TW.region ?_
        refine TO.y (Y.add rfl rfl) rfl rfl rfl ?_
        refine TO.y (Y.move rfl) rfl rfl rfl ?_
        refine TO.nil ?_
        exact TE.lp_go () [] ⟨rfl, rfl, rfl, rfl, trivial⟩ rfl
    · refine TW.exit ?_
      refine TE.then_exit ?_
      refine TE.lp_exit ?_
      refine TE.block_exit ?_
      exact TE.jn_go () [] trivial rfl
  · refine TE.next ?_
    refine TW.seq ?_
    refine TW.region ?_
    refine TO.y (Y.assign rfl) rfl rfl rfl ?_
    refine TO.nil ?_
    refine TE.next ?_
    refine TW.ret ?_
    exact TE.leaf fun _ _ hf_ hs_ => ret_any (rs := [.tmp 4]) (vs := [.int .i64 (-1 : Int)]) (.inl rfl) rfl ⟨rfl, trivial⟩ hf_ hs_ ⟨(), rfl, hs_.pulls [] rfl⟩

/-- slices.Contains[[]int,int] -/
noncomputable def slices_Contains_88240 (s : List Int) (v : Int) : Option Bool :=
  (slices_Index_88240 s v).bind fun R1 =>
  some (decide (R1 ≥ (0 : Int)))

theorem slices_Contains_88240_con (s : List Int) (v : Int) (V_s0 : Value) (r : Bool) (hm : slices_Contains_88240 s v = some r) :
    Con Try.prog 51 [V_s0, .int .i64 v] [] [(V_s0, lc s)] (fun _ : Unit => .bool r) (fun _ => []) := by
  refine Con.intro (args := [V_s0, .int .i64 v]) (n := 9) (val := fun r (_ : Unit) => .bool r) (post := fun _ _ => []) (m := slices_Contains_88240 s v) Try.func51 rfl rfl rfl hm ?_
  intro w S hrd
  have HB_V_s0 := hrd _ (.head _)
  clear hrd
  unfold slices_Contains_88240
  refine TW.seq ?_
  refine TW.region ?_
  refine TO.y (Y.assign rfl) rfl rfl rfl ?_
  refine TO.nil ?_
  refine TE.next ?_
  refine TW.seq ?_
  refine TW.region ?_
  refine TO.y (Y.move rfl) rfl rfl rfl ?_
  refine TO.y (Y.move rfl) rfl rfl rfl ?_
  refine TO.bind fun R1 H2 => ?_
  refine TO.ef (Ef.call (rest := []) [] (slices_Index_88240_con s v V_s0 R1 H2) kc70 rfl rfl ⟨(Base.can HB_V_s0), trivial⟩) rfl rfl rfl (fun _ => ?_)
  refine TO.y (Y.geq rfl rfl) rfl rfl rfl ?_
  refine TO.y (Y.assign rfl) rfl rfl rfl ?_
  refine TO.nil ?_
  refine TE.next ?_
  refine TW.ret ?_
  exact TE.leaf fun _ _ hf_ hs_ => ret_any (rs := [.tmp 4]) (vs := [.bool (decide (R1 ≥ (0 : Int)))]) (.inl rfl) rfl ⟨rfl, trivial⟩ hf_ hs_ ⟨(), rfl, hs_.pulls [] rfl⟩

/-- loop.example/g00950/impl.EngSnap -/
noncomputable def impl_EngSnap (e : Eng) : Option (Eng × Int × Bool) :=
  (impl_EngOk e).bind fun R3 =>
  if (!R3) = true then (some ({ Mem := ([] : List Ent), Tables := ([] : List (List Ent)), Seq := (0 : Int), Snaps := ([] : List Int) : Eng }, (0 : Int), false))
  else ((impl_copyEng e).bind fun R10 =>
  (slices_Contains_88240 e.Snaps e.Seq).bind fun R14 =>
  if R14 = true then (some (R10, e.Seq, true))
  else (if (decide (((e.Snaps.length : Nat) : Int) = (4 : Int))) = true then (some (R10, (0 : Int), false))
  else ((app 8 R10.Snaps ([e.Seq])).bind fun E21 =>
  some ({ Mem := R10.Mem, Tables := R10.Tables, Seq := R10.Seq, Snaps := E21 : Eng }, e.Seq, true))))

theorem impl_EngSnap_con (e : Eng) (V_e0 : Value) (V_e1 : Value) (V_e3 : Value) (r : Eng × Int × Bool) (hm : impl_EngSnap e = some r) :
    Con Try.prog 21 [.agg #[V_e0, V_e1, .int .i64 e.Seq, V_e3]] [] [(V_e0, lc e.Mem), (V_e1, lc e.Tables), (V_e3, lc e.Snaps)] (fun X : Value × Value × Value => .tuple #[.agg #[X.1, X.2.1, .int .i64 r.1.Seq, X.2.2], .int .i64 r.2.1, .bool r.2.2]) (fun X => [.own X.1 (lc r.1.Mem), .own X.2.1 (lc r.1.Tables), .own X.2.2 (lc r.1.Snaps)]) := by
  refine Con.intro (args := [.agg #[V_e0, V_e1, .int .i64 e.Seq, V_e3]]) (n := 35) (val := fun r (X : Value × Value × Value) => .tuple #[.agg #[X.1, X.2.1, .int .i64 r.1.Seq, X.2.2], .int .i64 r.2.1, .bool r.2.2]) (post := fun r X => [.own X.1 (lc r.1.Mem), .own X.2.1 (lc r.1.Tables), .own X.2.2 (lc r.1.Snaps)]) (m := impl_EngSnap e) Try.func21 rfl rfl rfl hm ?_
  intro w S hrd
  have HB_V_e0 := hrd _ (.head _)
  have HB_V_e1 := hrd _ (.tail _ (.head _))
  have HB_V_e3 := hrd _ (.tail _ (.tail _ (.head _)))
  clear hrd
  unfold impl_EngSnap
  refine TW.seq ?_
  refine TW.region ?_
  refine TO.ef (Ef.box rfl (Cel.agg ⟨(One.can (Base.can HB_V_e0)), (One.can (Base.can HB_V_e1)), (One.plain rfl), (One.can (Base.can HB_V_e3)), trivial⟩)) rfl rfl rfl (fun B1 => ?_)
  refine TO.ef (Ef.alloc kz39 rfl) rfl rfl rfl (fun B2 => ?_)
  refine TO.y (Y.assign rfl) rfl rfl rfl ?_
  refine TO.y (Y.assign rfl) rfl rfl rfl ?_
  refine TO.nil ?_
  refine TE.next ?_
  refine TW.seq ?_
  refine TW.seq ?_
  refine TW.region ?_
  refine TO.y (Y.load_box (v := .agg #[V_e0, V_e1, .int .i64 e.Seq, V_e3]) 1 kk39 rfl rfl rfl) rfl rfl rfl ?_
  refine TO.bind fun R3 H4 => ?_
  refine TO.ef (Ef.call (rest := [.box B2 39 [.slice none 0 0, .slice none 0 0, .int .i64 (0 : Int), .slice none 0 0], .box B1 39 [V_e0, V_e1, .int .i64 e.Seq, V_e3]]) [0, 0] (impl_EngOk_con e V_e0 V_e1 V_e3 R3 H4) kc49 rfl rfl ⟨(Base.can HB_V_e0), (Base.can HB_V_e1), (Base.can HB_V_e3), trivial⟩) rfl rfl rfl (fun _ => ?_)
  refine TO.y (Y.not rfl) rfl rfl rfl ?_
  refine TO.nil ?_
  refine TE.next ?_
  refine TW.cond rfl (fun H6 => ?_) (fun H6 => ?_)
  · refine TW.seq ?_
    refine TW.region ?_
    refine TO.y (Y.build (cells := [.slice none 0 0, .slice none 0 0, .int .i64 (0 : Int), .slice none 0 0]) [] kp39 kz39 trivial rfl) rfl rfl rfl ?_
    refine TO.ef0 (Ef.store_box (us := [.slice none 0 0, .slice none 0 0, .int .i64 (0 : Int), .slice none 0 0]) (vs' := [.slice none 0 0, .slice none 0 0, .int .i64 (0 : Int), .slice none 0 0]) (is' := [.box B2 39 [.slice none 0 0, .slice none 0 0, .int .i64 (0 : Int), .slice none 0 0], .box B1 39 [V_e0, V_e1, .int .i64 e.Seq, V_e3]]) 0 kk39 rfl rfl rfl (Cel.plain rfl rfl) rfl rfl rfl rfl) rfl rfl (fun _ => ?_)
    refine TO.y (Y.assign rfl) rfl rfl rfl ?_
    refine TO.y (Y.assign rfl) rfl rfl rfl ?_
    refine TO.nil ?_
    refine TE.next ?_
    refine TW.ret ?_
    refine TE.then_ret ?_
    exact TE.leaf fun _ _ hf_ hs_ => ret_any (rs := [.cell 2 39, .tmp 3, .tmp 4]) (vs := [.agg #[.slice none 0 0, .slice none 0 0, .int .i64 (0 : Int), .slice none 0 0], .int .i64 (0 : Int), .bool false]) (.inl rfl) rfl (RV.cell 0 rfl rfl kk39 rfl ⟨rfl, ⟨rfl, trivial⟩⟩) hf_ hs_ ⟨((.slice none 0 0), (.slice none 0 0), (.slice none 0 0)), rfl, (((hs_.nilItem 4).nilItem 1).nilItem 1).pulls [2, 1, 0] rfl⟩
  · refine TW.skip ?_
    refine TE.next ?_
    refine TW.seq ?_
    refine TW.region ?_
    refine TO.y (Y.load_box (v := .agg #[V_e0, V_e1, .int .i64 e.Seq, V_e3]) 1 kk39 rfl rfl rfl) rfl rfl rfl ?_
    refine TO.bind fun R10 H11 => ?_
    refine TO.ef (Ef.call (rest := [.box B2 39 [.slice none 0 0, .slice none 0 0, .int .i64 (0 : Int), .slice none 0 0], .box B1 39 [V_e0, V_e1, .int .i64 e.Seq, V_e3]]) [0, 0] (impl_copyEng_con e V_e0 V_e1 V_e3 R10 H11) kc50 rfl rfl ⟨(Base.can HB_V_e0), (Base.can HB_V_e1), (Base.can HB_V_e3), trivial⟩) rfl rfl rfl (fun Y12 => ?_)
    refine TO.ef (Ef.alloc kz39 rfl) rfl rfl rfl (fun B13 => ?_)
    refine TO.ef0 (Ef.store_box (us := [Y12.1, Y12.2.1, .int .i64 R10.Seq, Y12.2.2]) (vs' := [Y12.1, Y12.2.1, .int .i64 R10.Seq, Y12.2.2]) (is' := [.box B13 39 [Y12.1, Y12.2.1, .int .i64 R10.Seq, Y12.2.2], .own Y12.1 (lc R10.Mem), .own Y12.2.1 (lc R10.Tables), .own Y12.2.2 (lc R10.Snaps), .box B2 39 [.slice none 0 0, .slice none 0 0, .int .i64 (0 : Int), .slice none 0 0], .box B1 39 [V_e0, V_e1, .int .i64 e.Seq, V_e3]]) 0 kk39 rfl rfl rfl (Cel.agg ⟨(One.can (Can.own 1 rfl)), (One.can (Can.own 2 rfl)), (One.plain rfl), (One.can (Can.own 3 rfl)), trivial⟩) rfl rfl rfl rfl) rfl rfl (fun _ => ?_)
    refine TO.nil ?_
    refine TE.next ?_
    refine TW.seq ?_
    refine TW.seq ?_
    refine TW.region ?_
    refine TO.y (Y.field_box kf39_3 rfl rfl) rfl rfl rfl ?_
    refine TO.y (Y.load_box (v := V_e3) 5 kk34 rfl rfl rfl) rfl rfl rfl ?_
    refine TO.y (Y.field_box kf39_2 rfl rfl) rfl rfl rfl ?_
    refine TO.y (Y.load_box (v := .int .i64 e.Seq) 5 kk3 rfl rfl rfl) rfl rfl rfl ?_
    refine TO.bind fun R14 H15 => ?_
    refine TO.ef (Ef.call (rest := [.box B13 39 [Y12.1, Y12.2.1, .int .i64 R10.Seq, Y12.2.2], .own Y12.1 (lc R10.Mem), .own Y12.2.1 (lc R10.Tables), .own Y12.2.2 (lc R10.Snaps), .box B2 39 [.slice none 0 0, .slice none 0 0, .int .i64 (0 : Int), .slice none 0 0], .box B1 39 [V_e0, V_e1, .int .i64 e.Seq, V_e3]]) [0, 0, 0, 0, 0, 0] (slices_Contains_88240_con e.Snaps e.Seq V_e3 R14 H15) kc51 rfl rfl ⟨(Base.can HB_V_e3), trivial⟩) rfl rfl rfl (fun _ => ?_)
    refine TO.nil ?_
    refine TE.next ?_
    refine TW.cond rfl (fun H17 => ?_) (fun H17 => ?_)
    · refine TW.seq ?_
      refine TW.draw (isH := [.box B13 39 [Y12.1, Y12.2.1, .int .i64 R10.Seq, Y12.2.2], .own Y12.1 (lc R10.Mem), .own Y12.2.1 (lc R10.Tables), .own Y12.2.2 (lc R10.Snaps), .box B1 39 [V_e0, V_e1, .int .i64 e.Seq, V_e3]]) hMix ?_
      refine TA.y (listed' := #[true, false, false, false, false, false]) 0 [0, 0, 0, 0, 1] rfl (Y.load_box (v := .agg #[Y12.1, Y12.2.1, .int .i64 R10.Seq, Y12.2.2]) 0 kk39 rfl rfl rfl) rfl rfl rfl (by kernel_rfl) (by kernel_rfl) (by kernel_rfl) rfl rfl ?_
      refine TA.y (listed' := #[true, true, false, false, false, false]) 1 [0, 0, 0, 0, 1] rfl (Y.field_box kf39_2 rfl rfl) rfl rfl rfl (by kernel_rfl) (by kernel_rfl) (by kernel_rfl) rfl rfl ?_
      refine TA.y (listed' := #[true, true, true, false, false, false]) 2 [0, 0, 0, 0, 1] rfl (Y.load_box (v := .int .i64 e.Seq) 4 kk3 rfl rfl rfl) rfl rfl rfl (by kernel_rfl) (by kernel_rfl) (by kernel_rfl) rfl rfl ?_
      refine TA.one 3 (by kernel_rfl) ?_
      refine TX.ef0 (listed' := #[true, true, true, true, false, false]) [0, 0, 0, 0, 1] rfl (Ef.store_box (us := [Y12.1, Y12.2.1, .int .i64 R10.Seq, Y12.2.2]) (vs' := [Y12.1, Y12.2.1, .int .i64 R10.Seq, Y12.2.2]) (is' := [.box B13 39 [Y12.1, Y12.2.1, .int .i64 R10.Seq, Y12.2.2], .own Y12.1 (lc R10.Mem), .own Y12.2.1 (lc R10.Tables), .own Y12.2.2 (lc R10.Snaps), .box B2 39 [Y12.1, Y12.2.1, .int .i64 R10.Seq, Y12.2.2], .box B1 39 [V_e0, V_e1, .int .i64 e.Seq, V_e3]]) 4 kk39 rfl rfl rfl (Cel.agg ⟨(One.can (Can.own 1 rfl)), (One.can (Can.own 2 rfl)), (One.plain rfl), (One.can (Can.own 3 rfl)), trivial⟩) rfl rfl rfl rfl) rfl rfl rfl (fun _ => rfl) (fun _ => ?_)
      refine TA.y (listed' := #[true, true, true, true, true, false]) 4 [0, 0, 0, 0, 1] rfl (Y.assign rfl) rfl rfl rfl (by kernel_rfl) (by kernel_rfl) (by kernel_rfl) rfl rfl ?_
      refine TA.y (listed' := #[true, true, true, true, true, true]) 5 [0, 0, 0, 0, 1] rfl (Y.assign rfl) rfl rfl rfl (by kernel_rfl) (by kernel_rfl) (by kernel_rfl) rfl rfl ?_
      refine TA.nil (by kernel_rfl) ?_
      refine TE.next ?_
      refine TW.ret ?_
      refine TE.then_ret ?_
      exact TE.leaf fun _ _ hf_ hs_ => ret_any (rs := [.cell 2 39, .tmp 3, .tmp 4]) (vs := [.agg #[Y12.1, Y12.2.1, .int .i64 R10.Seq, Y12.2.2], .int .i64 e.Seq, .bool true]) (.inl rfl) rfl (RV.cell 4 rfl rfl kk39 rfl ⟨rfl, ⟨rfl, trivial⟩⟩) hf_ hs_ ⟨(Y12.1, Y12.2.1, Y12.2.2), rfl, hs_.pulls [1, 1, 1] rfl⟩
    · refine TW.skip ?_
      refine TE.next ?_
      refine TW.seq ?_
      refine TW.seq ?_
      refine TW.region ?_
      refine TO.y (Y.field_box kf39_3 rfl rfl) rfl rfl rfl ?_
      refine TO.y (Y.load_box (v := V_e3) 5 kk34 rfl rfl rfl) rfl rfl rfl ?_
      refine TO.y (Y.len (l := e.Snaps) ke34 (Base.can HB_V_e3) rfl) rfl rfl rfl ?_
      refine TO.y (Y.eql rfl rfl) rfl rfl rfl ?_
      refine TO.nil ?_
      refine TE.next ?_
      refine TW.cond rfl (fun H18 => ?_) (fun H18 => ?_)
      · refine TW.seq ?_
        refine TW.region ?_
        refine TO.y (Y.load_box (v := .agg #[Y12.1, Y12.2.1, .int .i64 R10.Seq, Y12.2.2]) 0 kk39 rfl rfl rfl) rfl rfl rfl ?_
        refine TO.ef0 (Ef.store_box (us := [Y12.1, Y12.2.1, .int .i64 R10.Seq, Y12.2.2]) (vs' := [Y12.1, Y12.2.1, .int .i64 R10.Seq, Y12.2.2]) (is' := [.box B13 39 [Y12.1, Y12.2.1, .int .i64 R10.Seq, Y12.2.2], .own Y12.1 (lc R10.Mem), .own Y12.2.1 (lc R10.Tables), .own Y12.2.2 (lc R10.Snaps), .box B2 39 [Y12.1, Y12.2.1, .int .i64 R10.Seq, Y12.2.2], .box B1 39 [V_e0, V_e1, .int .i64 e.Seq, V_e3]]) 4 kk39 rfl rfl rfl (Cel.agg ⟨(One.can (Can.own 1 rfl)), (One.can (Can.own 2 rfl)), (One.plain rfl), (One.can (Can.own 3 rfl)), trivial⟩) rfl rfl rfl rfl) rfl rfl (fun _ => ?_)
        refine TO.y (Y.assign rfl) rfl rfl rfl ?_
        refine TO.y (Y.assign rfl) rfl rfl rfl ?_
        refine TO.nil ?_
        refine TE.next ?_
        refine TW.ret ?_
        refine TE.then_ret ?_
        exact TE.leaf fun _ _ hf_ hs_ => ret_any (rs := [.cell 2 39, .tmp 3, .tmp 4]) (vs := [.agg #[Y12.1, Y12.2.1, .int .i64 R10.Seq, Y12.2.2], .int .i64 (0 : Int), .bool false]) (.inl rfl) rfl (RV.cell 4 rfl rfl kk39 rfl ⟨rfl, ⟨rfl, trivial⟩⟩) hf_ hs_ ⟨(Y12.1, Y12.2.1, Y12.2.2), rfl, hs_.pulls [1, 1, 1] rfl⟩
      · refine TW.skip ?_
        refine TE.next ?_
        refine TW.seq ?_
        refine TW.region ?_
        refine TO.y (Y.field_box kf39_3 rfl rfl) rfl rfl rfl ?_
        refine TO.y (Y.load_box (v := Y12.2.2) 0 kk34 rfl rfl rfl) rfl rfl rfl ?_
        refine TO.y (Y.field_box kf39_2 rfl rfl) rfl rfl rfl ?_
        refine TO.y (Y.load_box (v := .int .i64 e.Seq) 5 kk3 rfl rfl rfl) rfl rfl rfl ?_
        refine TO.ef (Ef.buildSlice (α := Int) (Vs := [.int .i64 e.Seq]) [e.Seq] ke34 kz3 rfl rfl rfl rfl rfl) rfl rfl rfl (fun B19 => ?_)
        refine TO.bind fun E21 H22 => ?_
        refine TO.ef (Ef.append (α := Int) (is' := [.own (.slice (some ⟨B19, 0, none⟩) 1 1) (lc ([e.Seq])), .box B13 39 [Y12.1, Y12.2.1, .int .i64 R10.Seq, Y12.2.2], .own Y12.1 (lc R10.Mem), .own Y12.2.1 (lc R10.Tables), .box B2 39 [.slice none 0 0, .slice none 0 0, .int .i64 (0 : Int), .slice none 0 0], .box B1 39 [V_e0, V_e1, .int .i64 e.Seq, V_e3]]) [4, 0, 0, 0, 0, 0, 0] H22 ke34 kz3 rfl rfl rfl rfl rfl (Can.own 0 rfl)) rfl rfl rfl (fun V20 => ?_)
        refine TO.y (Y.field_box kf39_3 rfl rfl) rfl rfl rfl ?_
        refine TO.ef0 (Ef.store_box (us := [V20]) (vs' := [Y12.1, Y12.2.1, .int .i64 R10.Seq, V20]) (is' := [.own V20 (lc E21), .own (.slice (some ⟨B19, 0, none⟩) 1 1) (lc ([e.Seq])), .box B13 39 [Y12.1, Y12.2.1, .int .i64 R10.Seq, V20], .own Y12.1 (lc R10.Mem), .own Y12.2.1 (lc R10.Tables), .box B2 39 [.slice none 0 0, .slice none 0 0, .int .i64 (0 : Int), .slice none 0 0], .box B1 39 [V_e0, V_e1, .int .i64 e.Seq, V_e3]]) 2 kk34 rfl rfl rfl (Cel.one (One.can (Can.own 0 rfl))) rfl rfl rfl rfl) rfl rfl (fun _ => ?_)
        refine TO.nil ?_
        refine TE.next ?_
        refine TW.seq ?_
        refine TW.draw (isH := [.own V20 (lc E21), .own (.slice (some ⟨B19, 0, none⟩) 1 1) (lc ([e.Seq])), .box B13 39 [Y12.1, Y12.2.1, .int .i64 R10.Seq, V20], .own Y12.1 (lc R10.Mem), .own Y12.2.1 (lc R10.Tables), .box B1 39 [V_e0, V_e1, .int .i64 e.Seq, V_e3]]) hMix ?_
        refine TA.y (listed' := #[true, false, false, false, false, false]) 0 [0, 0, 0, 0, 0, 1] rfl (Y.load_box (v := .agg #[Y12.1, Y12.2.1, .int .i64 R10.Seq, V20]) 2 kk39 rfl rfl rfl) rfl rfl rfl (by kernel_rfl) (by kernel_rfl) (by kernel_rfl) rfl rfl ?_
        refine TA.y (listed' := #[true, true, false, false, false, false]) 1 [0, 0, 0, 0, 0, 1] rfl (Y.field_box kf39_2 rfl rfl) rfl rfl rfl (by kernel_rfl) (by kernel_rfl) (by kernel_rfl) rfl rfl ?_
        refine TA.y (listed' := #[true, true, true, false, false, false]) 2 [0, 0, 0, 0, 0, 1] rfl (Y.load_box (v := .int .i64 e.Seq) 5 kk3 rfl rfl rfl) rfl rfl rfl (by kernel_rfl) (by kernel_rfl) (by kernel_rfl) rfl rfl ?_
        refine TA.one 3 (by kernel_rfl) ?_
        refine TX.ef0 (listed' := #[true, true, true, true, false, false]) [0, 0, 0, 0, 0, 1] rfl (Ef.store_box (us := [Y12.1, Y12.2.1, .int .i64 R10.Seq, V20]) (vs' := [Y12.1, Y12.2.1, .int .i64 R10.Seq, V20]) (is' := [.own V20 (lc E21), .own (.slice (some ⟨B19, 0, none⟩) 1 1) (lc ([e.Seq])), .box B13 39 [Y12.1, Y12.2.1, .int .i64 R10.Seq, V20], .own Y12.1 (lc R10.Mem), .own Y12.2.1 (lc R10.Tables), .box B2 39 [Y12.1, Y12.2.1, .int .i64 R10.Seq, V20], .box B1 39 [V_e0, V_e1, .int .i64 e.Seq, V_e3]]) 5 kk39 rfl rfl rfl (Cel.agg ⟨(One.can (Can.own 3 rfl)), (One.can (Can.own 4 rfl)), (One.plain rfl), (One.can (Can.own 0 rfl)), trivial⟩) rfl rfl rfl rfl) rfl rfl rfl (fun _ => rfl) (fun _ => ?_)
        refine TA.y (listed' := #[true, true, true, true, true, false]) 4 [0, 0, 0, 0, 0, 1] rfl (Y.assign rfl) rfl rfl rfl (by kernel_rfl) (by kernel_rfl) (by kernel_rfl) rfl rfl ?_
        refine TA.y (listed' := #[true, true, true, true, true, true]) 5 [0, 0, 0, 0, 0, 1] rfl (Y.assign rfl) rfl rfl rfl (by kernel_rfl) (by kernel_rfl) (by kernel_rfl) rfl rfl ?_
        refine TA.nil (by kernel_rfl) ?_
        refine TE.next ?_
        refine TW.ret ?_
        exact TE.leaf fun _ _ hf_ hs_ => ret_any (rs := [.cell 2 39, .tmp 3, .tmp 4]) (vs := [.agg #[Y12.1, Y12.2.1, .int .i64 R10.Seq, V20], .int .i64 e.Seq, .bool true]) (.inl rfl) rfl (RV.cell 5 rfl rfl kk39 rfl ⟨rfl, ⟨rfl, trivial⟩⟩) hf_ hs_ ⟨(Y12.1, Y12.2.1, V20), rfl, hs_.pulls [3, 3, 0] rfl⟩

/-- loop.example/g00950/laws.eqEnt -/
noncomputable def laws_eqEnt (a : Ent) (b : Ent) : Option Bool :=
  if (!(decide (a.Key = b.Key))) = true then (some false)
  else (if (!(decide (a.Seq = b.Seq))) = true then (some false)
  else (if (!(decide (a.Del = b.Del))) = true then (some false)
  else (if (!(decide (a.Val = b.Val))) = true then (some false)
  else (some true))))

theorem laws_eqEnt_con (a : Ent) (b : Ent)  (r : Bool) (hm : laws_eqEnt a b = some r) :
    Con Try.prog 43 [.agg #[strV a.Key, .int .i64 a.Seq, .bool a.Del, strV a.Val], .agg #[strV b.Key, .int .i64 b.Seq, .bool b.Del, strV b.Val]] [] [] (fun _ : Unit => .bool r) (fun _ => []) := by
  refine Con.intro (args := [.agg #[strV a.Key, .int .i64 a.Seq, .bool a.Del, strV a.Val], .agg #[strV b.Key, .int .i64 b.Seq, .bool b.Del, strV b.Val]]) (n := 25) (val := fun r (_ : Unit) => .bool r) (post := fun _ _ => []) (m := laws_eqEnt a b) Try.func43 rfl rfl rfl hm ?_
  intro w S _
  unfold laws_eqEnt
  refine TW.seq ?_
  refine TW.region ?_
  refine TO.ef (Ef.box rfl (Cel.plain rfl rfl)) rfl rfl rfl (fun B1 => ?_)
  refine TO.ef (Ef.box rfl (Cel.plain rfl rfl)) rfl rfl rfl (fun B2 => ?_)
  refine TO.y (Y.assign rfl) rfl rfl rfl ?_
  refine TO.nil ?_
  refine TE.next ?_
  refine TW.seq ?_
  refine TW.seq ?_
  refine TW.region ?_
  refine TO.y (Y.field_box kf72_0 rfl rfl) rfl rfl rfl ?_
  refine TO.y (Y.load_box (v := strV a.Key) 1 kk9 rfl rfl rfl) rfl rfl rfl ?_
  refine TO.y (Y.field_box kf72_0 rfl rfl) rfl rfl rfl ?_
  refine TO.y (Y.load_box (v := strV b.Key) 0 kk9 rfl rfl rfl) rfl rfl rfl ?_
  refine TO.y (Y.sneq rfl rfl) rfl rfl rfl ?_
  refine TO.nil ?_
  refine TE.next ?_
  refine TW.cond rfl (fun H3 => ?_) (fun H3 => ?_)
  · refine TW.seq ?_
    refine TW.region ?_
    refine TO.y (Y.assign rfl) rfl rfl rfl ?_
    refine TO.nil ?_
    refine TE.next ?_
    refine TW.ret ?_
    refine TE.then_ret ?_
    exact TE.leaf fun _ _ hf_ hs_ => ret_any (rs := [.tmp 4]) (vs := [.bool false]) (.inl rfl) rfl ⟨rfl, trivial⟩ hf_ hs_ ⟨(), rfl, hs_.pulls [] rfl⟩
  · refine TW.skip ?_
    refine TE.next ?_
    refine TW.seq ?_
    refine TW.seq ?_
    refine TW.region ?_
    refine TO.y (Y.field_box kf72_1 rfl rfl) rfl rfl rfl ?_
    refine TO.y (Y.load_box (v := .int .i64 a.Seq) 1 kk3 rfl rfl rfl) rfl rfl rfl ?_
    refine TO.y (Y.field_box kf72_1 rfl rfl) rfl rfl rfl ?_
    refine TO.y (Y.load_box (v := .int .i64 b.Seq) 0 kk3 rfl rfl rfl) rfl rfl rfl ?_
    refine TO.y (Y.neq rfl rfl) rfl rfl rfl ?_
    refine TO.nil ?_
    refine TE.next ?_
    refine TW.cond rfl (fun H4 => ?_) (fun H4 => ?_)
    · refine TW.seq ?_
      refine TW.region ?_
      refine TO.y (Y.assign rfl) rfl rfl rfl ?_
      refine TO.nil ?_
      refine TE.next ?_
      refine TW.ret ?_
      refine TE.then_ret ?_
      exact TE.leaf fun _ _ hf_ hs_ => ret_any (rs := [.tmp 4]) (vs := [.bool false]) (.inl rfl) rfl ⟨rfl, trivial⟩ hf_ hs_ ⟨(), rfl, hs_.pulls [] rfl⟩
    · refine TW.skip ?_
      refine TE.next ?_
      refine TW.seq ?_
      refine TW.seq ?_
      refine TW.region ?_
      refine TO.y (Y.field_box kf72_2 rfl rfl) rfl rfl rfl ?_
      refine TO.y (Y.load_box (v := .bool a.Del) 1 kk4 rfl rfl rfl) rfl rfl rfl ?_
      refine TO.y (Y.field_box kf72_2 rfl rfl) rfl rfl rfl ?_
      refine TO.y (Y.load_box (v := .bool b.Del) 0 kk4 rfl rfl rfl) rfl rfl rfl ?_
      refine TO.y (Y.neb kb4 rfl rfl) rfl rfl rfl ?_
      refine TO.nil ?_
      refine TE.next ?_
      refine TW.cond rfl (fun H5 => ?_) (fun H5 => ?_)
      · refine TW.seq ?_
        refine TW.region ?_
        refine TO.y (Y.assign rfl) rfl rfl rfl ?_
        refine TO.nil ?_
        refine TE.next ?_
        refine TW.ret ?_
        refine TE.then_ret ?_
        exact TE.leaf fun _ _ hf_ hs_ => ret_any (rs := [.tmp 4]) (vs := [.bool false]) (.inl rfl) rfl ⟨rfl, trivial⟩ hf_ hs_ ⟨(), rfl, hs_.pulls [] rfl⟩
      · refine TW.skip ?_
        refine TE.next ?_
        refine TW.seq ?_
        refine TW.seq ?_
        refine TW.region ?_
        refine TO.y (Y.field_box kf72_3 rfl rfl) rfl rfl rfl ?_
        refine TO.y (Y.load_box (v := strV a.Val) 1 kk9 rfl rfl rfl) rfl rfl rfl ?_
        refine TO.y (Y.field_box kf72_3 rfl rfl) rfl rfl rfl ?_
        refine TO.y (Y.load_box (v := strV b.Val) 0 kk9 rfl rfl rfl) rfl rfl rfl ?_
        refine TO.y (Y.sneq rfl rfl) rfl rfl rfl ?_
        refine TO.nil ?_
        refine TE.next ?_
        refine TW.cond rfl (fun H6 => ?_) (fun H6 => ?_)
        · refine TW.seq ?_
          refine TW.region ?_
          refine TO.y (Y.assign rfl) rfl rfl rfl ?_
          refine TO.nil ?_
          refine TE.next ?_
          refine TW.ret ?_
          refine TE.then_ret ?_
          exact TE.leaf fun _ _ hf_ hs_ => ret_any (rs := [.tmp 4]) (vs := [.bool false]) (.inl rfl) rfl ⟨rfl, trivial⟩ hf_ hs_ ⟨(), rfl, hs_.pulls [] rfl⟩
        · refine TW.skip ?_
          refine TE.next ?_
          refine TW.seq ?_
          refine TW.region ?_
          refine TO.y (Y.assign rfl) rfl rfl rfl ?_
          refine TO.nil ?_
          refine TE.next ?_
          refine TW.ret ?_
          exact TE.leaf fun _ _ hf_ hs_ => ret_any (rs := [.tmp 4]) (vs := [.bool true]) (.inl rfl) rfl ⟨rfl, trivial⟩ hf_ hs_ ⟨(), rfl, hs_.pulls [] rfl⟩

/-- loop.example/g00950/laws.eqEntS -/
noncomputable def laws_eqEntS (a : List Ent) (b : List Ent) : Option Bool :=
  if (!(decide (((a.length : Nat) : Int) = ((b.length : Nat) : Int)))) = true then (some false)
  else (bindC (loopO (fun (S2 : Int) => if (decide (S2 < ((a.length : Nat) : Int))) = true then ((idx a S2).bind fun E7 =>
  (idx b S2).bind fun E9 =>
  (laws_eqEnt E7 E9).bind fun R11 =>
  if (!R11) = true then (some (.done (.done false)))
  else (some (.go (IntKind.i64.wrap (S2 + (1 : Int))))))
  else (some (.done (.go ()))))
  (0 : Int))
  (fun (T4 : Unit) => some true))

theorem laws_eqEntS_con (a : List Ent) (b : List Ent) (V_a0 : Value) (V_b0 : Value) (r : Bool) (hm : laws_eqEntS a b = some r) :
    Con Try.prog 13 [V_a0, V_b0] [] [(V_a0, lc a), (V_b0, lc b)] (fun _ : Unit => .bool r) (fun _ => []) := by
  refine Con.intro (args := [V_a0, V_b0]) (n := 27) (val := fun r (_ : Unit) => .bool r) (post := fun _ _ => []) (m := laws_eqEntS a b) Try.func13 rfl rfl rfl hm ?_
  intro w S hrd
  have HB_V_a0 := hrd _ (.head _)
  have HB_V_b0 := hrd _ (.tail _ (.head _))
  clear hrd
  unfold laws_eqEntS
  refine TW.seq ?_
  refine TW.region ?_
  refine TO.y (Y.assign rfl) rfl rfl rfl ?_
  refine TO.nil ?_
  refine TE.next ?_
  refine TW.seq ?_
  refine TW.seq ?_
  refine TW.region ?_
  refine TO.y (Y.move rfl) rfl rfl rfl ?_
  refine TO.y (Y.len (l := a) ke24 (Base.can HB_V_a0) rfl) rfl rfl rfl ?_
  refine TO.y (Y.move rfl) rfl rfl rfl ?_
  refine TO.y (Y.len (l := b) ke24 (Base.can HB_V_b0) rfl) rfl rfl rfl ?_
  refine TO.y (Y.neq rfl rfl) rfl rfl rfl ?_
  refine TO.nil ?_
  refine TE.next ?_
  refine TW.cond rfl (fun H1 => ?_) (fun H1 => ?_)
  · refine TW.seq ?_
    refine TW.region ?_
    refine TO.y (Y.assign rfl) rfl rfl rfl ?_
    refine TO.nil ?_
    refine TE.next ?_
    refine TW.ret ?_
    refine TE.then_ret ?_
    exact TE.leaf fun _ _ hf_ hs_ => ret_any (rs := [.tmp 4]) (vs := [.bool false]) (.inl rfl) rfl ⟨rfl, trivial⟩ hf_ hs_ ⟨(), rfl, hs_.pulls [] rfl⟩
  · refine TW.skip ?_
    refine TE.next ?_
    refine TW.seq ?_
    refine TW.seq ?_
    refine TW.region ?_
    refine TO.y (Y.assign rfl) rfl rfl rfl ?_
    refine TO.nil ?_
    refine TE.next ?_
    refine TW.joinX (τ := Unit) (X := Unit) (fun _ _ => []) (fun _ _ => []) ?_ (fun T4 X5 => ?_)
    · refine TW.block ?_
      refine TW.loopX (σ := Int) (X := Unit) (fun T _ => [(0, V_a0), (1, V_b0), (5, .int .i64 T)]) (fun _ _ => []) () [] ⟨rfl, rfl, rfl, trivial⟩ rfl (fun S2 X3 => ?_)
      refine TW.seq ?_
      refine TW.seq ?_
      refine TW.region ?_
      refine TO.y (Y.move rfl) rfl rfl rfl ?_
      refine TO.y (Y.move rfl) rfl rfl rfl ?_
      refine TO.y (Y.len (l := a) ke24 (Base.can HB_V_a0) rfl) rfl rfl rfl ?_
      refine TO.y (Y.lss rfl rfl) rfl rfl rfl ?_
      refine TO.nil ?_
      refine TE.next ?_
      refine TW.cond rfl (fun H6 => ?_) (fun H6 => ?_)
      · refine TW.skip ?_
        refine TE.next ?_
        refine TW.seq ?_
        refine TW.block ?_
        refine TW.seq ?_
        refine TW.draw (isH := []) hMix ?_
        refine TA.y (listed' := #[true, false, false, false, false, false, false, false, false, false]) 0 [] rfl (Y.move rfl) rfl rfl rfl (by kernel_rfl) (by kernel_rfl) (by kernel_rfl) rfl rfl ?_
        refine TA.y (listed' := #[true, true, false, false, false, false, false, false, false, false]) 1 [] rfl (Y.move rfl) rfl rfl rfl (by kernel_rfl) (by kernel_rfl) (by kernel_rfl) rfl rfl ?_
        refine TA.bind fun E7 H8 => ?_
        refine TA.y (listed' := #[true, true, true, false, false, false, false, false, false, false]) 2 [] rfl (Y.index ke24 (Base.can HB_V_a0) H8 rfl rfl) rfl rfl rfl (by kernel_rfl) (by kernel_rfl) (by kernel_rfl) rfl rfl ?_
        refine TA.y (listed' := #[true, true, true, true, false, false, false, false, false, false]) 3 [] rfl (Y.load_el (us := [strV E7.Key, .int .i64 E7.Seq, .bool E7.Del, strV E7.Val]) (u := .agg #[strV E7.Key, .int .i64 E7.Seq, .bool E7.Del, strV E7.Val]) kk72 rfl (Base.can HB_V_a0) (idx_get H8).2.2 rfl rfl rfl rfl rfl) rfl rfl rfl (by kernel_rfl) (by kernel_rfl) (by kernel_rfl) rfl rfl ?_
        refine TA.y (listed' := #[true, true, true, true, true, false, false, false, false, false]) 4 [] rfl (Y.move rfl) rfl rfl rfl (by kernel_rfl) (by kernel_rfl) (by kernel_rfl) rfl rfl ?_
        refine TA.y (listed' := #[true, true, true, true, true, true, false, false, false, false]) 5 [] rfl (Y.move rfl) rfl rfl rfl (by kernel_rfl) (by kernel_rfl) (by kernel_rfl) rfl rfl ?_
        refine TA.bind fun E9 H10 => ?_
        refine TA.y (listed' := #[true, true, true, true, true, true, true, false, false, false]) 6 [] rfl (Y.index ke24 (Base.can HB_V_b0) H10 rfl rfl) rfl rfl rfl (by kernel_rfl) (by kernel_rfl) (by kernel_rfl) rfl rfl ?_
        refine TA.y (listed' := #[true, true, true, true, true, true, true, true, false, false]) 7 [] rfl (Y.load_el (us := [strV E9.Key, .int .i64 E9.Seq, .bool E9.Del, strV E9.Val]) (u := .agg #[strV E9.Key, .int .i64 E9.Seq, .bool E9.Del, strV E9.Val]) kk72 rfl (Base.can HB_V_b0) (idx_get H10).2.2 rfl rfl rfl rfl rfl) rfl rfl rfl (by kernel_rfl) (by kernel_rfl) (by kernel_rfl) rfl rfl ?_
        refine TA.bind fun R11 H12 => ?_
        refine TA.one 8 (by kernel_rfl) ?_
        refine TX.ef (listed' := #[true, true, true, true, true, true, true, true, true, false]) [] rfl (Ef.call (rest := []) [] (laws_eqEnt_con E7 E9  R11 H12) kc43 rfl rfl trivial) rfl rfl rfl rfl (fun _ => rfl) (fun _ => ?_)
        refine TA.y (listed' := #[true, true, true, true, true, true, true, true, true, true]) 9 [] rfl (Y.not rfl) rfl rfl rfl (by kernel_rfl) (by kernel_rfl) (by kernel_rfl) rfl rfl ?_
        refine TA.nil (by kernel_rfl) ?_
        refine TE.next ?_
        refine TW.cond rfl (fun H14 => ?_) (fun H14 => ?_)
        · refine TW.seq ?_
          refine TW.region ?_
          refine TO.y (Y.assign rfl) rfl rfl rfl ?_
          refine TO.nil ?_
          refine TE.next ?_
          refine TW.ret ?_
          refine TE.block_ret ?_
          refine TE.then_ret ?_
          refine TE.lp_ret ?_
          refine TE.block_ret ?_
          refine TE.jn_done ?_
          refine TE.then_ret ?_
          exact TE.leaf fun _ _ hf_ hs_ => ret_any (rs := [.tmp 4]) (vs := [.bool false]) (.inl rfl) rfl ⟨rfl, trivial⟩ hf_ hs_ ⟨(), rfl, hs_.pulls [] rfl⟩
        · refine TW.skip ?_
          refine TE.block_normal ?_
          refine TE.next ?_
          refine TW.region ?_
          refine TO.y (Y.move rfl) rfl rfl rfl ?_
          refine TO.y (Y.add rfl rfl) rfl rfl rfl ?_
          refine TO.y (Y.assign rfl) rfl rfl rfl ?_
          refine TO.nil ?_
          exact TE.lp_go () [] ⟨rfl, rfl, rfl, trivial⟩ rfl
      · refine TW.exit ?_
        refine TE.then_exit ?_
        refine TE.lp_exit ?_
        refine TE.block_exit ?_
        exact TE.jn_go () [] trivial rfl
    · refine TE.next ?_
      refine TW.seq ?_
      refine TW.region ?_
      refine TO.y (Y.assign rfl) rfl rfl rfl ?_
      refine TO.nil ?_
      refine TE.next ?_
      refine TW.ret ?_
      exact TE.leaf fun _ _ hf_ hs_ => ret_any (rs := [.tmp 4]) (vs := [.bool true]) (.inl rfl) rfl ⟨rfl, trivial⟩ hf_ hs_ ⟨(), rfl, hs_.pulls [] rfl⟩

/-- loop.example/g00950/laws.eqEntSS -/
noncomputable def laws_eqEntSS (a : List (List Ent)) (b : List (List Ent)) : Option Bool :=
  if (!(decide (((a.length : Nat) : Int) = ((b.length : Nat) : Int)))) = true then (some false)
  else (bindC (loopO (fun (S2 : Int) => if (decide (S2 < ((a.length : Nat) : Int))) = true then ((idx a S2).bind fun E7 =>
  (idx b S2).bind fun E10 =>
  (laws_eqEntS E7 E10).bind fun R13 =>
  if (!R13) = true then (some (.done (.done false)))
  else (some (.go (IntKind.i64.wrap (S2 + (1 : Int))))))
  else (some (.done (.go ()))))
  (0 : Int))
  (fun (T4 : Unit) => some true))

theorem laws_eqEntSS_con (a : List (List Ent)) (b : List (List Ent)) (V_a0 : Value) (V_b0 : Value) (r : Bool) (hm : laws_eqEntSS a b = some r) :
    Con Try.prog 14 [V_a0, V_b0] [] [(V_a0, lc a), (V_b0, lc b)] (fun _ : Unit => .bool r) (fun _ => []) := by
  refine Con.intro (args := [V_a0, V_b0]) (n := 27) (val := fun r (_ : Unit) => .bool r) (post := fun _ _ => []) (m := laws_eqEntSS a b) Try.func14 rfl rfl rfl hm ?_
  intro w S hrd
  have HB_V_a0 := hrd _ (.head _)
  have HB_V_b0 := hrd _ (.tail _ (.head _))
  clear hrd
  unfold laws_eqEntSS
  refine TW.seq ?_
  refine TW.region ?_
  refine TO.y (Y.assign rfl) rfl rfl rfl ?_
  refine TO.nil ?_
  refine TE.next ?_
  refine TW.seq ?_
  refine TW.seq ?_
  refine TW.region ?_
  refine TO.y (Y.move rfl) rfl rfl rfl ?_
  refine TO.y (Y.len (l := a) ke26 (Base.can HB_V_a0) rfl) rfl rfl rfl ?_
  refine TO.y (Y.move rfl) rfl rfl rfl ?_
  refine TO.y (Y.len (l := b) ke26 (Base.can HB_V_b0) rfl) rfl rfl rfl ?_
  refine TO.y (Y.neq rfl rfl) rfl rfl rfl ?_
  refine TO.nil ?_
  refine TE.next ?_
  refine TW.cond rfl (fun H1 => ?_) (fun H1 => ?_)
  · refine TW.seq ?_
    refine TW.region ?_
    refine TO.y (Y.assign rfl) rfl rfl rfl ?_
    refine TO.nil ?_
    refine TE.next ?_
    refine TW.ret ?_
    refine TE.then_ret ?_
    exact TE.leaf fun _ _ hf_ hs_ => ret_any (rs := [.tmp 4]) (vs := [.bool false]) (.inl rfl) rfl ⟨rfl, trivial⟩ hf_ hs_ ⟨(), rfl, hs_.pulls [] rfl⟩
  · refine TW.skip ?_
    refine TE.next ?_
    refine TW.seq ?_
    refine TW.seq ?_
    refine TW.region ?_
    refine TO.y (Y.assign rfl) rfl rfl rfl ?_
    refine TO.nil ?_
    refine TE.next ?_
    refine TW.joinX (τ := Unit) (X := Unit) (fun _ _ => []) (fun _ _ => []) ?_ (fun T4 X5 => ?_)
    · refine TW.block ?_
      refine TW.loopX (σ := Int) (X := Unit) (fun T _ => [(0, V_a0), (1, V_b0), (5, .int .i64 T)]) (fun _ _ => []) () [] ⟨rfl, rfl, rfl, trivial⟩ rfl (fun S2 X3 => ?_)
      refine TW.seq ?_
      refine TW.seq ?_
      refine TW.region ?_
      refine TO.y (Y.move rfl) rfl rfl rfl ?_
      refine TO.y (Y.move rfl) rfl rfl rfl ?_
      refine TO.y (Y.len (l := a) ke26 (Base.can HB_V_a0) rfl) rfl rfl rfl ?_
      refine TO.y (Y.lss rfl rfl) rfl rfl rfl ?_
      refine TO.nil ?_
      refine TE.next ?_
      refine TW.cond rfl (fun H6 => ?_) (fun H6 => ?_)
      · refine TW.skip ?_
        refine TE.next ?_
        refine TW.seq ?_
        refine TW.block ?_
        refine TW.seq ?_
        refine TW.draw (isH := []) hMix ?_
        refine TA.y (listed' := #[true, false, false, false, false, false, false, false, false, false]) 0 [] rfl (Y.move rfl) rfl rfl rfl (by kernel_rfl) (by kernel_rfl) (by kernel_rfl) rfl rfl ?_
        refine TA.y (listed' := #[true, true, false, false, false, false, false, false, false, false]) 1 [] rfl (Y.move rfl) rfl rfl rfl (by kernel_rfl) (by kernel_rfl) (by kernel_rfl) rfl rfl ?_
        refine TA.bind fun E7 H8 => ?_
        refine TA.y (listed' := #[true, true, true, false, false, false, false, false, false, false]) 2 [] rfl (Y.index ke26 (Base.can HB_V_a0) H8 rfl rfl) rfl rfl rfl (by kernel_rfl) (by kernel_rfl) (by kernel_rfl) rfl rfl ?_
        have Q9 : Base w S (elv w V_a0 (S2.toNat * 1 + 0)) (lc E7) := Base.el HB_V_a0 (idx_get H8).2.2 rfl rfl
        refine TA.y (listed' := #[true, true, true, true, false, false, false, false, false, false]) 3 [] rfl (Y.load_base (α := List Ent) (u := (elv w V_a0 (S2.toNat * 1 + 0))) kk24 rfl HB_V_a0 (idx_get H8).2.2 rfl rfl rfl rfl rfl) rfl rfl rfl (by kernel_rfl) (by kernel_rfl) (by kernel_rfl) rfl rfl ?_
        refine TA.y (listed' := #[true, true, true, true, true, false, false, false, false, false]) 4 [] rfl (Y.move rfl) rfl rfl rfl (by kernel_rfl) (by kernel_rfl) (by kernel_rfl) rfl rfl ?_
        refine TA.y (listed' := #[true, true, true, true, true, true, false, false, false, false]) 5 [] rfl (Y.move rfl) rfl rfl rfl (by kernel_rfl) (by kernel_rfl) (by kernel_rfl) rfl rfl ?_
        refine TA.bind fun E10 H11 => ?_
        refine TA.y (listed' := #[true, true, true, true, true, true, true, false, false, false]) 6 [] rfl (Y.index ke26 (Base.can HB_V_b0) H11 rfl rfl) rfl rfl rfl (by kernel_rfl) (by kernel_rfl) (by kernel_rfl) rfl rfl ?_
        have Q12 : Base w S (elv w V_b0 (S2.toNat * 1 + 0)) (lc E10) := Base.el HB_V_b0 (idx_get H11).2.2 rfl rfl
        refine TA.y (listed' := #[true, true, true, true, true, true, true, true, false, false]) 7 [] rfl (Y.load_base (α := List Ent) (u := (elv w V_b0 (S2.toNat * 1 + 0))) kk24 rfl HB_V_b0 (idx_get H11).2.2 rfl rfl rfl rfl rfl) rfl rfl rfl (by kernel_rfl) (by kernel_rfl) (by kernel_rfl) rfl rfl ?_
        refine TA.bind fun R13 H14 => ?_
        refine TA.one 8 (by kernel_rfl) ?_
        refine TX.ef (listed' := #[true, true, true, true, true, true, true, true, true, false]) [] rfl (Ef.call (rest := []) [] (laws_eqEntS_con E7 E10 (elv w V_a0 (S2.toNat * 1 + 0)) (elv w V_b0 (S2.toNat * 1 + 0)) R13 H14) kc13 rfl rfl ⟨(Base.can Q9), (Base.can Q12), trivial⟩) rfl rfl rfl rfl (fun _ => rfl) (fun _ => ?_)
        refine TA.y (listed' := #[true, true, true, true, true, true, true, true, true, true]) 9 [] rfl (Y.not rfl) rfl rfl rfl (by kernel_rfl) (by kernel_rfl) (by kernel_rfl) rfl rfl ?_
        refine TA.nil (by kernel_rfl) ?_
        refine TE.next ?_
        refine TW.cond rfl (fun H16 => ?_) (fun H16 => ?_)
        · refine TW.seq ?_
          refine TW.region ?_
          refine TO.y (Y.assign rfl) rfl rfl rfl ?_
          refine TO.nil ?_
          refine TE.next ?_
          refine TW.ret ?_
          refine TE.block_ret ?_
          refine TE.then_ret ?_
          refine TE.lp_ret ?_
          refine TE.block_ret ?_
          refine TE.jn_done ?_
          refine TE.then_ret ?_
          exact TE.leaf fun _ _ hf_ hs_ => ret_any (rs := [.tmp 4]) (vs := [.bool false]) (.inl rfl) rfl ⟨rfl, trivial⟩ hf_ hs_ ⟨(), rfl, hs_.pulls [] rfl⟩
        · refine TW.skip ?_
          refine TE.block_normal ?_
          refine TE.next ?_
          refine TW.region ?_
          refine TO.y (Y.move rfl) rfl rfl rfl ?_
          refine TO.y (Y.add rfl rfl) rfl rfl rfl ?_
          refine TO.y (Y.assign rfl) rfl rfl rfl ?_
          refine TO.nil ?_
          exact TE.lp_go () [] ⟨rfl, rfl, rfl, trivial⟩ rfl
      · refine TW.exit ?_
        refine TE.then_exit ?_
        refine TE.lp_exit ?_
        refine TE.block_exit ?_
        exact TE.jn_go () [] trivial rfl
    · refine TE.next ?_
      refine TW.seq ?_
      refine TW.region ?_
      refine TO.y (Y.assign rfl) rfl rfl rfl ?_
      refine TO.nil ?_
      refine TE.next ?_
      refine TW.ret ?_
      exact TE.leaf fun _ _ hf_ hs_ => ret_any (rs := [.tmp 4]) (vs := [.bool true]) (.inl rfl) rfl ⟨rfl, trivial⟩ hf_ hs_ ⟨(), rfl, hs_.pulls [] rfl⟩

/-- loop.example/g00950/laws.eqIntS -/
noncomputable def laws_eqIntS (a : List Int) (b : List Int) : Option Bool :=
  if (!(decide (((a.length : Nat) : Int) = ((b.length : Nat) : Int)))) = true then (some false)
  else (bindC (loopO (fun (S2 : Int) => if (decide (S2 < ((a.length : Nat) : Int))) = true then ((idx a S2).bind fun E7 =>
  (idx b S2).bind fun E9 =>
  if (!(decide (E7 = E9))) = true then (some (.done (.done false)))
  else (some (.go (IntKind.i64.wrap (S2 + (1 : Int))))))
  else (some (.done (.go ()))))
  (0 : Int))
  (fun (T4 : Unit) => some true))

theorem laws_eqIntS_con (a : List Int) (b : List Int) (V_a0 : Value) (V_b0 : Value) (r : Bool) (hm : laws_eqIntS a b = some r) :
    Con Try.prog 52 [V_a0, V_b0] [] [(V_a0, lc a), (V_b0, lc b)] (fun _ : Unit => .bool r) (fun _ => []) := by
  refine Con.intro (args := [V_a0, V_b0]) (n := 26) (val := fun r (_ : Unit) => .bool r) (post := fun _ _ => []) (m := laws_eqIntS a b) Try.func52 rfl rfl rfl hm ?_
  intro w S hrd
  have HB_V_a0 := hrd _ (.head _)
  have HB_V_b0 := hrd _ (.tail _ (.head _))
  clear hrd
  unfold laws_eqIntS
  refine TW.seq ?_
  refine TW.region ?_
  refine TO.y (Y.assign rfl) rfl rfl rfl ?_
  refine TO.nil ?_
  refine TE.next ?_
  refine TW.seq ?_
  refine TW.seq ?_
  refine TW.region ?_
  refine TO.y (Y.move rfl) rfl rfl rfl ?_
  refine TO.y (Y.len (l := a) ke34 (Base.can HB_V_a0) rfl) rfl rfl rfl ?_
  refine TO.y (Y.move rfl) rfl rfl rfl ?_
  refine TO.y (Y.len (l := b) ke34 (Base.can HB_V_b0) rfl) rfl rfl rfl ?_
  refine TO.y (Y.neq rfl rfl) rfl rfl rfl ?_
  refine TO.nil ?_
  refine TE.next ?_
  refine TW.cond rfl (fun H1 => ?_) (fun H1 => ?_)
  · refine TW.seq ?_
    refine TW.region ?_
    refine TO.y (Y.assign rfl) rfl rfl rfl ?_
    refine TO.nil ?_
    refine TE.next ?_
    refine TW.ret ?_
    refine TE.then_ret ?_
    exact TE.leaf fun _ _ hf_ hs_ => ret_any (rs := [.tmp 4]) (vs := [.bool false]) (.inl rfl) rfl ⟨rfl, trivial⟩ hf_ hs_ ⟨(), rfl, hs_.pulls [] rfl⟩
  · refine TW.skip ?_
    refine TE.next ?_
    refine TW.seq ?_
    refine TW.seq ?_
    refine TW.region ?_
    refine TO.y (Y.assign rfl) rfl rfl rfl ?_
    refine TO.nil ?_
    refine TE.next ?_
    refine TW.joinX (τ := Unit) (X := Unit) (fun _ _ => []) (fun _ _ => []) ?_ (fun T4 X5 => ?_)
    · refine TW.block ?_
      refine TW.loopX (σ := Int) (X := Unit) (fun T _ => [(0, V_a0), (1, V_b0), (5, .int .i64 T)]) (fun _ _ => []) () [] ⟨rfl, rfl, rfl, trivial⟩ rfl (fun S2 X3 => ?_)
      refine TW.seq ?_
      refine TW.seq ?_
      refine TW.region ?_
      refine TO.y (Y.move rfl) rfl rfl rfl ?_
      refine TO.y (Y.move rfl) rfl rfl rfl ?_
      refine TO.y (Y.len (l := a) ke34 (Base.can HB_V_a0) rfl) rfl rfl rfl ?_
      refine TO.y (Y.lss rfl rfl) rfl rfl rfl ?_
      refine TO.nil ?_
      refine TE.next ?_
      refine TW.cond rfl (fun H6 => ?_) (fun H6 => ?_)
      · refine TW.skip ?_
        refine TE.next ?_
        refine TW.seq ?_
        refine TW.block ?_
        refine TW.seq ?_
        refine TW.draw (isH := []) hMix ?_
        refine TA.y (listed' := #[true, false, false, false, false, false, false, false, false]) 0 [] rfl (Y.move rfl) rfl rfl rfl (by kernel_rfl) (by kernel_rfl) (by kernel_rfl) rfl rfl ?_
        refine TA.y (listed' := #[true, true, false, false, false, false, false, false, false]) 1 [] rfl (Y.move rfl) rfl rfl rfl (by kernel_rfl) (by kernel_rfl) (by kernel_rfl) rfl rfl ?_
        refine TA.bind fun E7 H8 => ?_
        refine TA.y (listed' := #[true, true, true, false, false, false, false, false, false]) 2 [] rfl (Y.index ke34 (Base.can HB_V_a0) H8 rfl rfl) rfl rfl rfl (by kernel_rfl) (by kernel_rfl) (by kernel_rfl) rfl rfl ?_
        refine TA.y (listed' := #[true, true, true, true, false, false, false, false, false]) 3 [] rfl (Y.load_el (us := [.int .i64 E7]) (u := .int .i64 E7) kk3 rfl (Base.can HB_V_a0) (idx_get H8).2.2 rfl rfl rfl rfl rfl) rfl rfl rfl (by kernel_rfl) (by kernel_rfl) (by kernel_rfl) rfl rfl ?_
        refine TA.y (listed' := #[true, true, true, true, true, false, false, false, false]) 4 [] rfl (Y.move rfl) rfl rfl rfl (by kernel_rfl) (by kernel_rfl) (by kernel_rfl) rfl rfl ?_
        refine TA.y (listed' := #[true, true, true, true, true, true, false, false, false]) 5 [] rfl (Y.move rfl) rfl rfl rfl (by kernel_rfl) (by kernel_rfl) (by kernel_rfl) rfl rfl ?_
        refine TA.bind fun E9 H10 => ?_
        refine TA.y (listed' := #[true, true, true, true, true, true, true, false, false]) 6 [] rfl (Y.index ke34 (Base.can HB_V_b0) H10 rfl rfl) rfl rfl rfl (by kernel_rfl) (by kernel_rfl) (by kernel_rfl) rfl rfl ?_
        refine TA.y (listed' := #[true, true, true, true, true, true, true, true, false]) 7 [] rfl (Y.load_el (us := [.int .i64 E9]) (u := .int .i64 E9) kk3 rfl (Base.can HB_V_b0) (idx_get H10).2.2 rfl rfl rfl rfl rfl) rfl rfl rfl (by kernel_rfl) (by kernel_rfl) (by kernel_rfl) rfl rfl ?_
        refine TA.y (listed' := #[true, true, true, true, true, true, true, true, true]) 8 [] rfl (Y.neq rfl rfl) rfl rfl rfl (by kernel_rfl) (by kernel_rfl) (by kernel_rfl) rfl rfl ?_
        refine TA.nil (by kernel_rfl) ?_
        refine TE.next ?_
        refine TW.cond rfl (fun H11 => ?_) (fun H11 => ?_)
        · refine TW.seq ?_
          refine TW.region ?_
          refine TO.y (Y.assign rfl) rfl rfl rfl ?_
          refine TO.nil ?_
          refine TE.next ?_
          refine TW.ret ?_
          refine TE.block_ret ?_
          refine TE.then_ret ?_
          refine TE.lp_ret ?_
          refine TE.block_ret ?_
          refine TE.jn_done ?_
          refine TE.then_ret ?_
          exact TE.leaf fun _ _ hf_ hs_ => ret_any (rs := [.tmp 4]) (vs := [.bool false]) (.inl rfl) rfl ⟨rfl, trivial⟩ hf_ hs_ ⟨(), rfl, hs_.pulls [] rfl⟩
        · refine TW.skip ?_
          refine TE.block_normal ?_
          refine TE.next ?_
          refine TW.region ?_
          refine TO.y (Y.move rfl) rfl rfl rfl ?_
          refine TO.y (Y.add rfl rfl) rfl rfl rfl ?_
          refine TO.y (Y.assign rfl) rfl rfl rfl ?_
          refine TO.nil ?_
          exact TE.lp_go () [] ⟨rfl, rfl, rfl, trivial⟩ rfl
      · refine TW.exit ?_
        refine TE.then_exit ?_
        refine TE.lp_exit ?_
        refine TE.block_exit ?_
        exact TE.jn_go () [] trivial rfl
    · refine TE.next ?_
      refine TW.seq ?_
      refine TW.region ?_
      refine TO.y (Y.assign rfl) rfl rfl rfl ?_
      refine TO.nil ?_
      refine TE.next ?_
      refine TW.ret ?_
      exact TE.leaf fun _ _ hf_ hs_ => ret_any (rs := [.tmp 4]) (vs := [.bool true]) (.inl rfl) rfl ⟨rfl, trivial⟩ hf_ hs_ ⟨(), rfl, hs_.pulls [] rfl⟩

/-- loop.example/g00950/laws.eqEng -/
noncomputable def laws_eqEng (a : Eng) (b : Eng) : Option Bool :=
  (laws_eqEntS a.Mem b.Mem).bind fun R3 =>
  if (!R3) = true then (some false)
  else ((laws_eqEntSS a.Tables b.Tables).bind fun R7 =>
  if (!R7) = true then (some false)
  else (if (!(decide (a.Seq = b.Seq))) = true then (some false)
  else ((laws_eqIntS a.Snaps b.Snaps).bind fun R12 =>
  if (!R12) = true then (some false)
  else (some true))))

theorem laws_eqEng_con (a : Eng) (b : Eng) (V_a0 : Value) (V_a1 : Value) (V_a3 : Value) (V_b0 : Value) (V_b1 : Value) (V_b3 : Value) (r : Bool) (hm : laws_eqEng a b = some r) :
    Con Try.prog 22 [.agg #[V_a0, V_a1, .int .i64 a.Seq, V_a3], .agg #[V_b0, V_b1, .int .i64 b.Seq, V_b3]] [] [(V_a0, lc a.Mem), (V_a1, lc a.Tables), (V_a3, lc a.Snaps), (V_b0, lc b.Mem), (V_b1, lc b.Tables), (V_b3, lc b.Snaps)] (fun _ : Unit => .bool r) (fun _ => []) := by
  refine Con.intro (args := [.agg #[V_a0, V_a1, .int .i64 a.Seq, V_a3], .agg #[V_b0, V_b1, .int .i64 b.Seq, V_b3]]) (n := 28) (val := fun r (_ : Unit) => .bool r) (post := fun _ _ => []) (m := laws_eqEng a b) Try.func22 rfl rfl rfl hm ?_
  intro w S hrd
  have HB_V_a0 := hrd _ (.head _)
  have HB_V_a1 := hrd _ (.tail _ (.head _))
  have HB_V_a3 := hrd _ (.tail _ (.tail _ (.head _)))
  have HB_V_b0 := hrd _ (.tail _ (.tail _ (.tail _ (.head _))))
  have HB_V_b1 := hrd _ (.tail _ (.tail _ (.tail _ (.tail _ (.head _)))))
  have HB_V_b3 := hrd _ (.tail _ (.tail _ (.tail _ (.tail _ (.tail _ (.head _))))))
  clear hrd
  unfold laws_eqEng
  refine TW.seq ?_
  refine TW.region ?_
  refine TO.ef (Ef.box rfl (Cel.agg ⟨(One.can (Base.can HB_V_a0)), (One.can (Base.can HB_V_a1)), (One.plain rfl), (One.can (Base.can HB_V_a3)), trivial⟩)) rfl rfl rfl (fun B1 => ?_)
  refine TO.ef (Ef.box rfl (Cel.agg ⟨(One.can (Base.can HB_V_b0)), (One.can (Base.can HB_V_b1)), (One.plain rfl), (One.can (Base.can HB_V_b3)), trivial⟩)) rfl rfl rfl (fun B2 => ?_)
  refine TO.y (Y.assign rfl) rfl rfl rfl ?_
  refine TO.nil ?_
  refine TE.next ?_
  refine TW.seq ?_
  refine TW.seq ?_
  refine TW.region ?_
  refine TO.y (Y.field_box kf39_0 rfl rfl) rfl rfl rfl ?_
  refine TO.y (Y.load_box (v := V_a0) 1 kk24 rfl rfl rfl) rfl rfl rfl ?_
  refine TO.y (Y.field_box kf39_0 rfl rfl) rfl rfl rfl ?_
  refine TO.y (Y.load_box (v := V_b0) 0 kk24 rfl rfl rfl) rfl rfl rfl ?_
  refine TO.bind fun R3 H4 => ?_
  refine TO.ef (Ef.call (rest := [.box B2 39 [V_b0, V_b1, .int .i64 b.Seq, V_b3], .box B1 39 [V_a0, V_a1, .int .i64 a.Seq, V_a3]]) [0, 0] (laws_eqEntS_con a.Mem b.Mem V_a0 V_b0 R3 H4) kc13 rfl rfl ⟨(Base.can HB_V_a0), (Base.can HB_V_b0), trivial⟩) rfl rfl rfl (fun _ => ?_)
  refine TO.y (Y.not rfl) rfl rfl rfl ?_
  refine TO.nil ?_
  refine TE.next ?_
  refine TW.cond rfl (fun H6 => ?_) (fun H6 => ?_)
  · refine TW.seq ?_
    refine TW.region ?_
    refine TO.y (Y.assign rfl) rfl rfl rfl ?_
    refine TO.nil ?_
    refine TE.next ?_
    refine TW.ret ?_
    refine TE.then_ret ?_
    exact TE.leaf fun _ _ hf_ hs_ => ret_any (rs := [.tmp 4]) (vs := [.bool false]) (.inl rfl) rfl ⟨rfl, trivial⟩ hf_ hs_ ⟨(), rfl, hs_.pulls [] rfl⟩
  · refine TW.skip ?_
    refine TE.next ?_
    refine TW.seq ?_
    refine TW.seq ?_
    refine TW.region ?_
    refine TO.y (Y.field_box kf39_1 rfl rfl) rfl rfl rfl ?_
    refine TO.y (Y.load_box (v := V_a1) 1 kk26 rfl rfl rfl) rfl rfl rfl ?_
    refine TO.y (Y.field_box kf39_1 rfl rfl) rfl rfl rfl ?_
    refine TO.y (Y.load_box (v := V_b1) 0 kk26 rfl rfl rfl) rfl rfl rfl ?_
    refine TO.bind fun R7 H8 => ?_
    refine TO.ef (Ef.call (rest := [.box B2 39 [V_b0, V_b1, .int .i64 b.Seq, V_b3], .box B1 39 [V_a0, V_a1, .int .i64 a.Seq, V_a3]]) [0, 0] (laws_eqEntSS_con a.Tables b.Tables V_a1 V_b1 R7 H8) kc14 rfl rfl ⟨(Base.can HB_V_a1), (Base.can HB_V_b1), trivial⟩) rfl rfl rfl (fun _ => ?_)
    refine TO.y (Y.not rfl) rfl rfl rfl ?_
    refine TO.nil ?_
    refine TE.next ?_
    refine TW.cond rfl (fun H10 => ?_) (fun H10 => ?_)
    · refine TW.seq ?_
      refine TW.region ?_
      refine TO.y (Y.assign rfl) rfl rfl rfl ?_
      refine TO.nil ?_
      refine TE.next ?_
      refine TW.ret ?_
      refine TE.then_ret ?_
      exact TE.leaf fun _ _ hf_ hs_ => ret_any (rs := [.tmp 4]) (vs := [.bool false]) (.inl rfl) rfl ⟨rfl, trivial⟩ hf_ hs_ ⟨(), rfl, hs_.pulls [] rfl⟩
    · refine TW.skip ?_
      refine TE.next ?_
      refine TW.seq ?_
      refine TW.seq ?_
      refine TW.region ?_
      refine TO.y (Y.field_box kf39_2 rfl rfl) rfl rfl rfl ?_
      refine TO.y (Y.load_box (v := .int .i64 a.Seq) 1 kk3 rfl rfl rfl) rfl rfl rfl ?_
      refine TO.y (Y.field_box kf39_2 rfl rfl) rfl rfl rfl ?_
      refine TO.y (Y.load_box (v := .int .i64 b.Seq) 0 kk3 rfl rfl rfl) rfl rfl rfl ?_
      refine TO.y (Y.neq rfl rfl) rfl rfl rfl ?_
      refine TO.nil ?_
      refine TE.next ?_
      refine TW.cond rfl (fun H11 => ?_) (fun H11 => ?_)
      · refine TW.seq ?_
        refine TW.region ?_
        refine TO.y (Y.assign rfl) rfl rfl rfl ?_
        refine TO.nil ?_
        refine TE.next ?_
        refine TW.ret ?_
        refine TE.then_ret ?_
        exact TE.leaf fun _ _ hf_ hs_ => ret_any (rs := [.tmp 4]) (vs := [.bool false]) (.inl rfl) rfl ⟨rfl, trivial⟩ hf_ hs_ ⟨(), rfl, hs_.pulls [] rfl⟩
      · refine TW.skip ?_
        refine TE.next ?_
        refine TW.seq ?_
        refine TW.seq ?_
        refine TW.region ?_
        refine TO.y (Y.field_box kf39_3 rfl rfl) rfl rfl rfl ?_
        refine TO.y (Y.load_box (v := V_a3) 1 kk34 rfl rfl rfl) rfl rfl rfl ?_
        refine TO.y (Y.field_box kf39_3 rfl rfl) rfl rfl rfl ?_
        refine TO.y (Y.load_box (v := V_b3) 0 kk34 rfl rfl rfl) rfl rfl rfl ?_
        refine TO.bind fun R12 H13 => ?_
        refine TO.ef (Ef.call (rest := [.box B2 39 [V_b0, V_b1, .int .i64 b.Seq, V_b3], .box B1 39 [V_a0, V_a1, .int .i64 a.Seq, V_a3]]) [0, 0] (laws_eqIntS_con a.Snaps b.Snaps V_a3 V_b3 R12 H13) kc52 rfl rfl ⟨(Base.can HB_V_a3), (Base.can HB_V_b3), trivial⟩) rfl rfl rfl (fun _ => ?_)
        refine TO.y (Y.not rfl) rfl rfl rfl ?_
        refine TO.nil ?_
        refine TE.next ?_
        refine TW.cond rfl (fun H15 => ?_) (fun H15 => ?_)
        · refine TW.seq ?_
          refine TW.region ?_
          refine TO.y (Y.assign rfl) rfl rfl rfl ?_
          refine TO.nil ?_
          refine TE.next ?_
          refine TW.ret ?_
          refine TE.then_ret ?_
          exact TE.leaf fun _ _ hf_ hs_ => ret_any (rs := [.tmp 4]) (vs := [.bool false]) (.inl rfl) rfl ⟨rfl, trivial⟩ hf_ hs_ ⟨(), rfl, hs_.pulls [] rfl⟩
        · refine TW.skip ?_
          refine TE.next ?_
          refine TW.seq ?_
          refine TW.region ?_
          refine TO.y (Y.assign rfl) rfl rfl rfl ?_
          refine TO.nil ?_
          refine TE.next ?_
          refine TW.ret ?_
          exact TE.leaf fun _ _ hf_ hs_ => ret_any (rs := [.tmp 4]) (vs := [.bool true]) (.inl rfl) rfl ⟨rfl, trivial⟩ hf_ hs_ ⟨(), rfl, hs_.pulls [] rfl⟩

/-- loop.example/g00950/laws.markText -/
noncomputable def laws_markText (k : Int) : Option (List UInt8) :=
  if (decide (k ≤ (0 : Int))) = true then (some ([109, 48]))
  else (bindC (loopO (fun (S2 : Int × List UInt8) => if (decide (S2.1 > (0 : Int))) = true then ((cat ([toU8 (IntKind.i64.wrap ((48 : Int) + (Int.tmod S2.1 (10 : Int))))]) S2.2).bind fun E8 =>
  some (.go (IntKind.i64.wrap (Int.tdiv S2.1 (10 : Int)), E8)))
  else (some (.done (.go S2.2))))
  (k, []))
  (fun (T4 : List UInt8) => (cat ([109]) T4).bind fun E10 =>
  some E10))

theorem laws_markText_con (k : Int)  (r : List UInt8) (hm : laws_markText k = some r) :
    Con Try.prog 44 [.int .i64 k] [] [] (fun _ : Unit => strV r) (fun _ => []) := by
  refine Con.intro (args := [.int .i64 k]) (n := 20) (val := fun r (_ : Unit) => strV r) (post := fun _ _ => []) (m := laws_markText k) Try.func44 rfl rfl rfl hm ?_
  intro w S _
  unfold laws_markText
  refine TW.seq ?_
  refine TW.region ?_
  refine TO.y (Y.assign rfl) rfl rfl rfl ?_
  refine TO.nil ?_
  refine TE.next ?_
  refine TW.seq ?_
  refine TW.seq ?_
  refine TW.region ?_
  refine TO.y (Y.move rfl) rfl rfl rfl ?_
  refine TO.y (Y.leq rfl rfl) rfl rfl rfl ?_
  refine TO.nil ?_
  refine TE.next ?_
  refine TW.cond rfl (fun H1 => ?_) (fun H1 => ?_)
  · refine TW.seq ?_
    refine TW.region ?_
    refine TO.y (Y.assign rfl) rfl rfl rfl ?_
    refine TO.nil ?_
    refine TE.next ?_
    refine TW.ret ?_
    refine TE.then_ret ?_
    exact TE.leaf fun _ _ hf_ hs_ => ret_any (rs := [.tmp 2]) (vs := [strV ([109, 48])]) (.inl rfl) rfl ⟨rfl, trivial⟩ hf_ hs_ ⟨(), rfl, hs_.pulls [] rfl⟩
  · refine TW.skip ?_
    refine TE.next ?_
    refine TW.seq ?_
    refine TW.region ?_
    refine TO.y (Y.assign rfl) rfl rfl rfl ?_
    refine TO.nil ?_
    refine TE.next ?_
    refine TW.seq ?_
    refine TW.joinX (τ := List UInt8) (X := Unit) (fun T _ => [(3, strV T)]) (fun _ _ => []) ?_ (fun T4 X5 => ?_)
    · refine TW.block ?_
      refine TW.loopX (σ := Int × List UInt8) (X := Unit) (fun T _ => [(0, .int .i64 T.1), (3, strV T.2)]) (fun _ _ => []) () [] ⟨rfl, rfl, trivial⟩ rfl (fun S2 X3 => ?_)
      refine TW.seq ?_
      refine TW.seq ?_
      refine TW.region ?_
      refine TO.y (Y.move rfl) rfl rfl rfl ?_
      refine TO.y (Y.gtr rfl rfl) rfl rfl rfl ?_
      refine TO.nil ?_
      refine TE.next ?_
      refine TW.cond rfl (fun H6 => ?_) (fun H6 => ?_)
      · refine TW.skip ?_
        refine TE.next ?_
        refine TW.block ?_
        refine TW.seq ?_
        refine TW.region ?_
        refine TO.y (Y.move rfl) rfl rfl rfl ?_
        refine TO.y (Y.rem (by decide) rfl rfl) rfl rfl rfl ?_
        refine TO.y (Y.add rfl rfl) rfl rfl rfl ?_
        refine TO.y (Y.conv8 ki3 ki5 rfl) rfl rfl rfl ?_
        refine TO.ef (Ef.buildSlice (α := UInt8) (Vs := [.int .u8 (((toU8 (IntKind.i64.wrap ((48 : Int) + (Int.tmod S2.1 (10 : Int))))).toNat : Nat) : Int)]) [toU8 (IntKind.i64.wrap ((48 : Int) + (Int.tmod S2.1 (10 : Int))))] ke107 kz5 rfl rfl rfl rfl rfl) rfl rfl rfl (fun B7 => ?_)
        refine TO.y (Y.toStr ke107 ki5 ks9 (Can.own 0 rfl) rfl) rfl rfl rfl ?_
        refine TO.y (Y.move rfl) rfl rfl rfl ?_
        refine TO.bind fun E8 H9 => ?_
        refine TO.y (Y.cat H9 rfl rfl) rfl rfl rfl ?_
        refine TO.y (Y.assign rfl) rfl rfl rfl ?_
        refine TO.nil ?_
        refine TE.next ?_
        refine TW.region ?_
        refine TO.y (Y.move rfl) rfl rfl rfl ?_
        refine TO.y (Y.quo (by decide) rfl rfl) rfl rfl rfl ?_
        refine TO.y (Y.assign rfl) rfl rfl rfl ?_
        refine TO.nil ?_
        refine TE.block_normal ?_
        exact TE.lp_go () [] ⟨rfl, rfl, trivial⟩ rfl
      · refine TW.exit ?_
        refine TE.then_exit ?_
        refine TE.lp_exit ?_
        refine TE.block_exit ?_
        exact TE.jn_go () [] ⟨rfl, trivial⟩ rfl
    · refine TE.next ?_
      refine TW.seq ?_
      refine TW.region ?_
      refine TO.y (Y.move rfl) rfl rfl rfl ?_
      refine TO.bind fun E10 H11 => ?_
      refine TO.y (Y.cat H11 rfl rfl) rfl rfl rfl ?_
      refine TO.y (Y.assign rfl) rfl rfl rfl ?_
      refine TO.nil ?_
      refine TE.next ?_
      refine TW.ret ?_
      exact TE.leaf fun _ _ hf_ hs_ => ret_any (rs := [.tmp 2]) (vs := [strV E10]) (.inl rfl) rfl ⟨rfl, trivial⟩ hf_ hs_ ⟨(), rfl, hs_.pulls [] rfl⟩

/-- loop.example/g00950/laws.markEntS -/
noncomputable def laws_markEntS (a : List Ent) (k : Int) : Option (Int × List Ent) :=
  bindC (loopO (fun (S1 : Int × Int × List Ent) => if (decide (S1.2.1 < ((S1.2.2.length : Nat) : Int))) = true then ((laws_markText S1.1).bind fun R6 =>
  (idx S1.2.2 S1.2.1).bind fun E9 =>
  (laws_markText (IntKind.i64.wrap (IntKind.i64.wrap (IntKind.i64.wrap (S1.1 + (1 : Int)) + (1 : Int)) + (1 : Int)))).bind fun R11 =>
  some (.go (IntKind.i64.wrap (IntKind.i64.wrap (IntKind.i64.wrap (IntKind.i64.wrap (S1.1 + (1 : Int)) + (1 : Int)) + (1 : Int)) + (1 : Int)), IntKind.i64.wrap (S1.2.1 + (1 : Int)), (S1.2.2.set S1.2.1.toNat ({ Key := R6, Seq := (IntKind.i64.wrap (S1.1 + (1 : Int))), Del := (decide (Int.tmod (IntKind.i64.wrap (IntKind.i64.wrap (S1.1 + (1 : Int)) + (1 : Int))) (3 : Int) = (0 : Int))), Val := R11 : Ent })))))
  else (some (.done (.go (S1.1, S1.2.2)))))
  (k, (0 : Int), a))
  (fun (T3 : Int × List Ent) => some (T3.1, T3.2))

theorem laws_markEntS_con (a : List Ent) (k : Int) (V_a0 : Value) (r : Int × List Ent) (hm : laws_markEntS a k = some r) :
    Con Try.prog 16 [V_a0, .int .i64 k] [.own V_a0 (lc a)] [] (fun _ : Unit => .int .i64 r.1) (fun _ => [.own V_a0 (lc r.2)]) := by
  refine Con.intro (args := [V_a0, .int .i64 k]) (n := 45) (val := fun r (_ : Unit) => .int .i64 r.1) (post := fun r _ => [.own V_a0 (lc r.2)]) (m := laws_markEntS a k) Try.func16 rfl rfl rfl hm ?_
  intro w S _
  unfold laws_markEntS
  refine TW.seq ?_
  refine TW.region ?_
  refine TO.y (Y.assign rfl) rfl rfl rfl ?_
  refine TO.nil ?_
  refine TE.next ?_
  refine TW.seq ?_
  refine TW.seq ?_
  refine TW.region ?_
  refine TO.y (Y.assign rfl) rfl rfl rfl ?_
  refine TO.nil ?_
  refine TE.next ?_
  refine TW.joinX (τ := Int × List Ent) (X := Unit) (fun T _ => [(1, .int .i64 T.1)]) (fun T _ => [.own V_a0 (lc T.2)]) ?_ (fun T3 X4 => ?_)
  · refine TW.block ?_
    refine TW.loopX (σ := Int × Int × List Ent) (X := Unit) (fun T _ => [(0, V_a0), (1, .int .i64 T.1), (5, .int .i64 T.2.1)]) (fun T _ => [.own V_a0 (lc T.2.2)]) () [0] ⟨rfl, rfl, rfl, trivial⟩ rfl (fun S1 X2 => ?_)
    refine TW.seq ?_
    refine TW.seq ?_
    refine TW.region ?_
    refine TO.y (Y.move rfl) rfl rfl rfl ?_
    refine TO.y (Y.move rfl) rfl rfl rfl ?_
    refine TO.y (Y.len (l := S1.2.2) ke24 (Can.own 0 rfl) rfl) rfl rfl rfl ?_
    refine TO.y (Y.lss rfl rfl) rfl rfl rfl ?_
    refine TO.nil ?_
    refine TE.next ?_
    refine TW.cond rfl (fun H5 => ?_) (fun H5 => ?_)
    · refine TW.skip ?_
      refine TE.next ?_
      refine TW.seq ?_
      refine TW.block ?_
      refine TW.seq ?_
      refine TW.region ?_
      refine TO.y (Y.move rfl) rfl rfl rfl ?_
      refine TO.y (Y.move rfl) rfl rfl rfl ?_
      refine TO.y (Y.move rfl) rfl rfl rfl ?_
      refine TO.bind fun R6 H7 => ?_
      refine TO.ef (Ef.call (rest := [.own V_a0 (lc S1.2.2)]) [0] (laws_markText_con S1.1  R6 H7) kc44 rfl rfl trivial) rfl rfl rfl (fun _ => ?_)
      refine TO.bind fun E9 H10 => ?_
      refine TO.y (Y.index ke24 (Can.own 0 rfl) H10 rfl rfl) rfl rfl rfl ?_
      refine TO.y (Y.field_el kf72_0 (Can.own 0 rfl) (idx_get H10).2.2 rfl rfl) rfl rfl rfl ?_
      refine TO.ef0 (Ef.store_el (us := [strV R6]) (is' := [.own V_a0 (lc (S1.2.2.set S1.2.1.toNat ({ Key := R6, Seq := E9.Seq, Del := E9.Del, Val := E9.Val : Ent })))]) ({ Key := R6, Seq := E9.Seq, Del := E9.Del, Val := E9.Val : Ent }) 0 kk9 rfl rfl (idx_get H10).2.2 rfl rfl (Cel.plain rfl rfl) rfl rfl rfl rfl) rfl rfl (fun _ => ?_)
      refine TO.nil ?_
      refine TE.next ?_
      refine TW.seq ?_
      refine TW.region ?_
      refine TO.y (Y.move rfl) rfl rfl rfl ?_
      refine TO.y (Y.add rfl rfl) rfl rfl rfl ?_
      refine TO.y (Y.assign rfl) rfl rfl rfl ?_
      refine TO.nil ?_
      refine TE.next ?_
      refine TW.seq ?_
      refine TW.region ?_
      refine TO.y (Y.move rfl) rfl rfl rfl ?_
      refine TO.y (Y.move rfl) rfl rfl rfl ?_
      refine TO.y (Y.move rfl) rfl rfl rfl ?_
      refine TO.y (Y.index ke24 (Can.own 0 rfl) (idx_set H10) rfl rfl) rfl rfl rfl ?_
      refine TO.y (Y.field_el kf72_1 (Can.own 0 rfl) (idx_get (idx_set H10)).2.2 rfl rfl) rfl rfl rfl ?_
      refine TO.ef0 (Ef.store_el (us := [.int .i64 (IntKind.i64.wrap (S1.1 + (1 : Int)))]) (is' := [.own V_a0 (lc (S1.2.2.set S1.2.1.toNat ({ Key := R6, Seq := IntKind.i64.wrap (S1.1 + (1 : Int)), Del := E9.Del, Val := E9.Val : Ent })))]) ({ Key := R6, Seq := IntKind.i64.wrap (S1.1 + (1 : Int)), Del := E9.Del, Val := E9.Val : Ent }) 0 kk3 rfl rfl (idx_get (idx_set H10)).2.2 rfl rfl (Cel.plain rfl rfl) rfl rfl rfl (by rw [List.set_set]; rfl)) rfl rfl (fun _ => ?_)
      refine TO.nil ?_
      refine TE.next ?_
      refine TW.seq ?_
      refine TW.region ?_
      refine TO.y (Y.move rfl) rfl rfl rfl ?_
      refine TO.y (Y.add rfl rfl) rfl rfl rfl ?_
      refine TO.y (Y.assign rfl) rfl rfl rfl ?_
      refine TO.nil ?_
      refine TE.next ?_
      refine TW.seq ?_
      refine TW.region ?_
      refine TO.y (Y.move rfl) rfl rfl rfl ?_
      refine TO.y (Y.move rfl) rfl rfl rfl ?_
      refine TO.y (Y.move rfl) rfl rfl rfl ?_
      refine TO.y (Y.rem (by decide) rfl rfl) rfl rfl rfl ?_
      refine TO.y (Y.eql rfl rfl) rfl rfl rfl ?_
      refine TO.y (Y.index ke24 (Can.own 0 rfl) (idx_set H10) rfl rfl) rfl rfl rfl ?_
      refine TO.y (Y.field_el kf72_2 (Can.own 0 rfl) (idx_get (idx_set H10)).2.2 rfl rfl) rfl rfl rfl ?_
      refine TO.ef0 (Ef.store_el (us := [.bool (decide (Int.tmod (IntKind.i64.wrap (IntKind.i64.wrap (S1.1 + (1 : Int)) + (1 : Int))) (3 : Int) = (0 : Int)))]) (is' := [.own V_a0 (lc (S1.2.2.set S1.2.1.toNat ({ Key := R6, Seq := (IntKind.i64.wrap (S1.1 + (1 : Int))), Del := decide (Int.tmod (IntKind.i64.wrap (IntKind.i64.wrap (S1.1 + (1 : Int)) + (1 : Int))) (3 : Int) = (0 : Int)), Val := E9.Val : Ent })))]) ({ Key := R6, Seq := (IntKind.i64.wrap (S1.1 + (1 : Int))), Del := decide (Int.tmod (IntKind.i64.wrap (IntKind.i64.wrap (S1.1 + (1 : Int)) + (1 : Int))) (3 : Int) = (0 : Int)), Val := E9.Val : Ent }) 0 kk4 rfl rfl (idx_get (idx_set H10)).2.2 rfl rfl (Cel.plain rfl rfl) rfl rfl rfl (by rw [List.set_set]; rfl)) rfl rfl (fun _ => ?_)
      refine TO.nil ?_
      refine TE.next ?_
      refine TW.seq ?_
      refine TW.region ?_
      refine TO.y (Y.move rfl) rfl rfl rfl ?_
      refine TO.y (Y.add rfl rfl) rfl rfl rfl ?_
      refine TO.y (Y.assign rfl) rfl rfl rfl ?_
      refine TO.nil ?_
      refine TE.next ?_
      refine TW.seq ?_
      refine TW.region ?_
      refine TO.y (Y.move rfl) rfl rfl rfl ?_
      refine TO.y (Y.move rfl) rfl rfl rfl ?_
      refine TO.y (Y.move rfl) rfl rfl rfl ?_
      refine TO.bind fun R11 H12 => ?_
      refine TO.ef (Ef.call (rest := [.own V_a0 (lc (S1.2.2.set S1.2.1.toNat ({ Key := R6, Seq := (IntKind.i64.wrap (S1.1 + (1 : Int))), Del := decide (Int.tmod (IntKind.i64.wrap (IntKind.i64.wrap (S1.1 + (1 : Int)) + (1 : Int))) (3 : Int) = (0 : Int)), Val := E9.Val : Ent })))]) [0] (laws_markText_con (IntKind.i64.wrap (IntKind.i64.wrap (IntKind.i64.wrap (S1.1 + (1 : Int)) + (1 : Int)) + (1 : Int)))  R11 H12) kc44 rfl rfl trivial) rfl rfl rfl (fun _ => ?_)
      refine TO.y (Y.index ke24 (Can.own 0 rfl) (idx_set H10) rfl rfl) rfl rfl rfl ?_
      refine TO.y (Y.field_el kf72_3 (Can.own 0 rfl) (idx_get (idx_set H10)).2.2 rfl rfl) rfl rfl rfl ?_
      refine TO.ef0 (Ef.store_el (us := [strV R11]) (is' := [.own V_a0 (lc (S1.2.2.set S1.2.1.toNat ({ Key := R6, Seq := (IntKind.i64.wrap (S1.1 + (1 : Int))), Del := (decide (Int.tmod (IntKind.i64.wrap (IntKind.i64.wrap (S1.1 + (1 : Int)) + (1 : Int))) (3 : Int) = (0 : Int))), Val := R11 : Ent })))]) ({ Key := R6, Seq := (IntKind.i64.wrap (S1.1 + (1 : Int))), Del := (decide (Int.tmod (IntKind.i64.wrap (IntKind.i64.wrap (S1.1 + (1 : Int)) + (1 : Int))) (3 : Int) = (0 : Int))), Val := R11 : Ent }) 0 kk9 rfl rfl (idx_get (idx_set H10)).2.2 rfl rfl (Cel.plain rfl rfl) rfl rfl rfl (by rw [List.set_set]; rfl)) rfl rfl (fun _ => ?_)
      refine TO.nil ?_
      refine TE.next ?_
      refine TW.region ?_
      refine TO.y (Y.move rfl) rfl rfl rfl ?_
      refine TO.y (Y.add rfl rfl) rfl rfl rfl ?_
      refine TO.y (Y.assign rfl) rfl rfl rfl ?_
      refine TO.nil ?_
      refine TE.block_normal ?_
      refine TE.next ?_
      refine TW.region ?_
      refine TO.y (Y.move rfl) rfl rfl rfl ?_
      refine TO.y (Y.add rfl rfl) rfl rfl rfl ?_
      refine TO.y (Y.assign rfl) rfl rfl rfl ?_
      refine TO.nil ?_
      exact TE.lp_go () [0] ⟨rfl, rfl, rfl, trivial⟩ rfl
    · refine TW.exit ?_
      refine TE.then_exit ?_
      refine TE.lp_exit ?_
      refine TE.block_exit ?_
      exact TE.jn_go () [0] ⟨rfl, trivial⟩ rfl
  · refine TE.next ?_
    refine TW.seq ?_
    refine TW.region ?_
    refine TO.y (Y.move rfl) rfl rfl rfl ?_
    refine TO.y (Y.assign rfl) rfl rfl rfl ?_
    refine TO.nil ?_
    refine TE.next ?_
    refine TW.ret ?_
    exact TE.leaf fun _ _ hf_ hs_ => ret_any (rs := [.tmp 4]) (vs := [.int .i64 T3.1]) (.inl rfl) rfl ⟨rfl, trivial⟩ hf_ hs_ ⟨(), rfl, hs_.pulls [0] rfl⟩

/-- loop.example/g00950/laws.markEntSS -/
noncomputable def laws_markEntSS (a : List (List Ent)) (k : Int) : Option (Int × List (List Ent)) :=
  bindC (loopO (fun (S1 : Int × Int × List (List Ent)) => if (decide (S1.2.1 < ((S1.2.2.length : Nat) : Int))) = true then ((idx S1.2.2 S1.2.1).bind fun E6 =>
  (laws_markEntS E6 S1.1).bind fun R9 =>
  some (.go (R9.1, IntKind.i64.wrap (S1.2.1 + (1 : Int)), (S1.2.2.set S1.2.1.toNat R9.2))))
  else (some (.done (.go (S1.1, S1.2.2)))))
  (k, (0 : Int), a))
  (fun (T3 : Int × List (List Ent)) => some (T3.1, T3.2))

theorem laws_markEntSS_con (a : List (List Ent)) (k : Int) (V_a0 : Value) (r : Int × List (List Ent)) (hm : laws_markEntSS a k = some r) :
    Con Try.prog 15 [V_a0, .int .i64 k] [.own V_a0 (lc a)] [] (fun _ : Unit => .int .i64 r.1) (fun _ => [.own V_a0 (lc r.2)]) := by
  refine Con.intro (args := [V_a0, .int .i64 k]) (n := 19) (val := fun r (_ : Unit) => .int .i64 r.1) (post := fun r _ => [.own V_a0 (lc r.2)]) (m := laws_markEntSS a k) Try.func15 rfl rfl rfl hm ?_
  intro w S _
  unfold laws_markEntSS
  refine TW.seq ?_
  refine TW.region ?_
  refine TO.y (Y.assign rfl) rfl rfl rfl ?_
  refine TO.nil ?_
  refine TE.next ?_
  refine TW.seq ?_
  refine TW.seq ?_
  refine TW.region ?_
  refine TO.y (Y.assign rfl) rfl rfl rfl ?_
  refine TO.nil ?_
  refine TE.next ?_
  refine TW.joinX (τ := Int × List (List Ent)) (X := Unit) (fun T _ => [(1, .int .i64 T.1)]) (fun T _ => [.own V_a0 (lc T.2)]) ?_ (fun T3 X4 => ?_)
  · refine TW.block ?_
    refine TW.loopX (σ := Int × Int × List (List Ent)) (X := Unit) (fun T _ => [(0, V_a0), (1, .int .i64 T.1), (5, .int .i64 T.2.1)]) (fun T _ => [.own V_a0 (lc T.2.2)]) () [0] ⟨rfl, rfl, rfl, trivial⟩ rfl (fun S1 X2 => ?_)
    refine TW.seq ?_
    refine TW.seq ?_
    refine TW.region ?_
    refine TO.y (Y.move rfl) rfl rfl rfl ?_
    refine TO.y (Y.move rfl) rfl rfl rfl ?_
    refine TO.y (Y.len (l := S1.2.2) ke26 (Can.own 0 rfl) rfl) rfl rfl rfl ?_
    refine TO.y (Y.lss rfl rfl) rfl rfl rfl ?_
    refine TO.nil ?_
    refine TE.next ?_
    refine TW.cond rfl (fun H5 => ?_) (fun H5 => ?_)
    · refine TW.skip ?_
      refine TE.next ?_
      refine TW.seq ?_
      refine TW.block ?_
      refine TW.region ?_
      refine TO.y (Y.move rfl) rfl rfl rfl ?_
      refine TO.y (Y.move rfl) rfl rfl rfl ?_
      refine TO.bind fun E6 H7 => ?_
      refine TO.y (Y.index ke26 (Can.own 0 rfl) H7 rfl rfl) rfl rfl rfl ?_
      refine TO.ghost (X := Value) (is' := fun X8 => [.own V_a0 (hl S1.2.2 S1.2.1.toNat [.raw X8]), .own X8 (lc E6)]) (Gh.open 1 S1.2.1.toNat [0] rfl (idx_get H7).2.2 rfl) (fun X8 => ?_)
      refine TO.y (Y.load_hole (α := List Ent) (us := [X8]) (u := X8) kk24 rfl (i := 0) rfl (idx_get H7).2.2 rfl rfl rfl rfl rfl rfl) rfl rfl rfl ?_
      refine TO.y (Y.move rfl) rfl rfl rfl ?_
      refine TO.bind fun R9 H10 => ?_
      refine TO.ef (Ef.call (rest := [.own V_a0 (hl S1.2.2 S1.2.1.toNat [.raw X8])]) [1, 0] (laws_markEntS_con E6 S1.1 X8 R9 H10) kc16 rfl rfl trivial) rfl rfl rfl (fun _ => ?_)
      refine TO.y (Y.assign rfl) rfl rfl rfl ?_
      refine TO.nil ?_
      refine TE.block_normal ?_
      refine TE.next ?_
      refine TW.region ?_
      refine TO.y (Y.move rfl) rfl rfl rfl ?_
      refine TO.y (Y.add rfl rfl) rfl rfl rfl ?_
      refine TO.y (Y.assign rfl) rfl rfl rfl ?_
      refine TO.nil ?_
      refine TE.ghost (is' := fun _ => [.own V_a0 (lc (S1.2.2.set S1.2.1.toNat R9.2))]) (Gh.close (y := R9.2) (js := [.own X8 (lc R9.2)]) (r := []) [1, 0] rfl (idx_get H7).2.2 (Cls.fill Cls.nil) rfl) (fun _ => ?_)
      exact TE.lp_go () [0] ⟨rfl, rfl, rfl, trivial⟩ rfl
    · refine TW.exit ?_
      refine TE.then_exit ?_
      refine TE.lp_exit ?_
      refine TE.block_exit ?_
      exact TE.jn_go () [0] ⟨rfl, trivial⟩ rfl
  · refine TE.next ?_
    refine TW.seq ?_
    refine TW.region ?_
    refine TO.y (Y.move rfl) rfl rfl rfl ?_
    refine TO.y (Y.assign rfl) rfl rfl rfl ?_
    refine TO.nil ?_
    refine TE.next ?_
    refine TW.ret ?_
    exact TE.leaf fun _ _ hf_ hs_ => ret_any (rs := [.tmp 4]) (vs := [.int .i64 T3.1]) (.inl rfl) rfl ⟨rfl, trivial⟩ hf_ hs_ ⟨(), rfl, hs_.pulls [0] rfl⟩

/-- loop.example/g00950/laws.markIntS -/
noncomputable def laws_markIntS (a : List Int) (k : Int) : Option (Int × List Int) :=
  bindC (loopO (fun (S1 : Int × Int × List Int) => if (decide (S1.2.1 < ((S1.2.2.length : Nat) : Int))) = true then ((idx S1.2.2 S1.2.1).bind fun E6 =>
  some (.go (IntKind.i64.wrap (S1.1 + (1 : Int)), IntKind.i64.wrap (S1.2.1 + (1 : Int)), (S1.2.2.set S1.2.1.toNat S1.1))))
  else (some (.done (.go (S1.1, S1.2.2)))))
  (k, (0 : Int), a))
  (fun (T3 : Int × List Int) => some (T3.1, T3.2))

theorem laws_markIntS_con (a : List Int) (k : Int) (V_a0 : Value) (r : Int × List Int) (hm : laws_markIntS a k = some r) :
    Con Try.prog 53 [V_a0, .int .i64 k] [.own V_a0 (lc a)] [] (fun _ : Unit => .int .i64 r.1) (fun _ => [.own V_a0 (lc r.2)]) := by
  refine Con.intro (args := [V_a0, .int .i64 k]) (n := 19) (val := fun r (_ : Unit) => .int .i64 r.1) (post := fun r _ => [.own V_a0 (lc r.2)]) (m := laws_markIntS a k) Try.func53 rfl rfl rfl hm ?_
  intro w S _
  unfold laws_markIntS
  refine TW.seq ?_
  refine TW.region ?_
  refine TO.y (Y.assign rfl) rfl rfl rfl ?_
  refine TO.nil ?_
  refine TE.next ?_
  refine TW.seq ?_
  refine TW.seq ?_
  refine TW.region ?_
  refine TO.y (Y.assign rfl) rfl rfl rfl ?_
  refine TO.nil ?_
  refine TE.next ?_
  refine TW.joinX (τ := Int × List Int) (X := Unit) (fun T _ => [(1, .int .i64 T.1)]) (fun T _ => [.own V_a0 (lc T.2)]) ?_ (fun T3 X4 => ?_)
  · refine TW.block ?_
    refine TW.loopX (σ := Int × Int × List Int) (X := Unit) (fun T _ => [(0, V_a0), (1, .int .i64 T.1), (5, .int .i64 T.2.1)]) (fun T _ => [.own V_a0 (lc T.2.2)]) () [0] ⟨rfl, rfl, rfl, trivial⟩ rfl (fun S1 X2 => ?_)
    refine TW.seq ?_
    refine TW.seq ?_
    refine TW.region ?_
    refine TO.y (Y.move rfl) rfl rfl rfl ?_
    refine TO.y (Y.move rfl) rfl rfl rfl ?_
    refine TO.y (Y.len (l := S1.2.2) ke34 (Can.own 0 rfl) rfl) rfl rfl rfl ?_
    refine TO.y (Y.lss rfl rfl) rfl rfl rfl ?_
    refine TO.nil ?_
    refine TE.next ?_
    refine TW.cond rfl (fun H5 => ?_) (fun H5 => ?_)
    · refine TW.skip ?_
      refine TE.next ?_
      refine TW.seq ?_
      refine TW.block ?_
      refine TW.seq ?_
      refine TW.region ?_
      refine TO.y (Y.move rfl) rfl rfl rfl ?_
      refine TO.y (Y.move rfl) rfl rfl rfl ?_
      refine TO.y (Y.move rfl) rfl rfl rfl ?_
      refine TO.bind fun E6 H7 => ?_
      refine TO.y (Y.index ke34 (Can.own 0 rfl) H7 rfl rfl) rfl rfl rfl ?_
      refine TO.ef0 (Ef.store_el (us := [.int .i64 S1.1]) (is' := [.own V_a0 (lc (S1.2.2.set S1.2.1.toNat S1.1))]) S1.1 0 kk3 rfl rfl (idx_get H7).2.2 rfl rfl (Cel.plain rfl rfl) rfl rfl rfl rfl) rfl rfl (fun _ => ?_)
      refine TO.nil ?_
      refine TE.next ?_
      refine TW.region ?_
      refine TO.y (Y.move rfl) rfl rfl rfl ?_
      refine TO.y (Y.add rfl rfl) rfl rfl rfl ?_
      refine TO.y (Y.assign rfl) rfl rfl rfl ?_
      refine TO.nil ?_
      refine TE.block_normal ?_
      refine TE.next ?_
      refine TW.region ?_
      refine TO.y (Y.move rfl) rfl rfl rfl ?_
      refine TO.y (Y.add rfl rfl) rfl rfl rfl ?_
      refine TO.y (Y.assign rfl) rfl rfl rfl ?_
      refine TO.nil ?_
      exact TE.lp_go () [0] ⟨rfl, rfl, rfl, trivial⟩ rfl
    · refine TW.exit ?_
      refine TE.then_exit ?_
      refine TE.lp_exit ?_
      refine TE.block_exit ?_
      exact TE.jn_go () [0] ⟨rfl, trivial⟩ rfl
  · refine TE.next ?_
    refine TW.seq ?_
    refine TW.region ?_
    refine TO.y (Y.move rfl) rfl rfl rfl ?_
    refine TO.y (Y.assign rfl) rfl rfl rfl ?_
    refine TO.nil ?_
    refine TE.next ?_
    refine TW.ret ?_
    exact TE.leaf fun _ _ hf_ hs_ => ret_any (rs := [.tmp 4]) (vs := [.int .i64 T3.1]) (.inl rfl) rfl ⟨rfl, trivial⟩ hf_ hs_ ⟨(), rfl, hs_.pulls [0] rfl⟩

/-- loop.example/g00950/laws.markEng -/
noncomputable def laws_markEng (a : Eng) (k : Int) : Option (Int × List Ent × List (List Ent) × List Int) :=
  (laws_markEntS a.Mem k).bind fun R2 =>
  (laws_markEntSS a.Tables R2.1).bind fun R5 =>
  (laws_markIntS a.Snaps R5.1).bind fun R8 =>
  some (R8.1, R2.2, R5.2, R8.2)

theorem laws_markEng_con (a : Eng) (k : Int) (V_a0 : Value) (V_a1 : Value) (V_a3 : Value) (r : Int × List Ent × List (List Ent) × List Int) (hm : laws_markEng a k = some r) :
    Con Try.prog 23 [.agg #[V_a0, V_a1, .int .i64 a.Seq, V_a3], .int .i64 k] [.own V_a0 (lc a.Mem), .own V_a1 (lc a.Tables), .own V_a3 (lc a.Snaps)] [] (fun _ : Unit => .int .i64 r.1) (fun _ => [.own V_a0 (lc r.2.1), .own V_a1 (lc r.2.2.1), .own V_a3 (lc r.2.2.2)]) := by
  refine Con.intro (args := [.agg #[V_a0, V_a1, .int .i64 a.Seq, V_a3], .int .i64 k]) (n := 18) (val := fun r (_ : Unit) => .int .i64 r.1) (post := fun r _ => [.own V_a0 (lc r.2.1), .own V_a1 (lc r.2.2.1), .own V_a3 (lc r.2.2.2)]) (m := laws_markEng a k) Try.func23 rfl rfl rfl hm ?_
  intro w S _
  unfold laws_markEng
  refine TW.seq ?_
  refine TW.region ?_
  refine TO.ef (Ef.box rfl (Cel.agg ⟨(One.can (Can.own 0 rfl)), (One.can (Can.own 1 rfl)), (One.plain rfl), (One.can (Can.own 2 rfl)), trivial⟩)) rfl rfl rfl (fun B1 => ?_)
  refine TO.y (Y.assign rfl) rfl rfl rfl ?_
  refine TO.nil ?_
  refine TE.next ?_
  refine TW.seq ?_
  refine TW.region ?_
  refine TO.y (Y.field_box kf39_0 rfl rfl) rfl rfl rfl ?_
  refine TO.y (Y.load_box (v := V_a0) 0 kk24 rfl rfl rfl) rfl rfl rfl ?_
  refine TO.y (Y.move rfl) rfl rfl rfl ?_
  refine TO.bind fun R2 H3 => ?_
  refine TO.ef (Ef.call (rest := [.box B1 39 [V_a0, V_a1, .int .i64 a.Seq, V_a3], .own V_a1 (lc a.Tables), .own V_a3 (lc a.Snaps)]) [1, 0, 0, 0] (laws_markEntS_con a.Mem k V_a0 R2 H3) kc16 rfl rfl trivial) rfl rfl rfl (fun _ => ?_)
  refine TO.y (Y.assign rfl) rfl rfl rfl ?_
  refine TO.nil ?_
  refine TE.next ?_
  refine TW.seq ?_
  refine TW.region ?_
  refine TO.y (Y.field_box kf39_1 rfl rfl) rfl rfl rfl ?_
  refine TO.y (Y.load_box (v := V_a1) 1 kk26 rfl rfl rfl) rfl rfl rfl ?_
  refine TO.y (Y.move rfl) rfl rfl rfl ?_
  refine TO.bind fun R5 H6 => ?_
  refine TO.ef (Ef.call (rest := [.own V_a0 (lc R2.2), .box B1 39 [V_a0, V_a1, .int .i64 a.Seq, V_a3], .own V_a3 (lc a.Snaps)]) [2, 0, 0, 0] (laws_markEntSS_con a.Tables R2.1 V_a1 R5 H6) kc15 rfl rfl trivial) rfl rfl rfl (fun _ => ?_)
  refine TO.y (Y.assign rfl) rfl rfl rfl ?_
  refine TO.nil ?_
  refine TE.next ?_
  refine TW.seq ?_
  refine TW.region ?_
  refine TO.y (Y.field_box kf39_3 rfl rfl) rfl rfl rfl ?_
  refine TO.y (Y.load_box (v := V_a3) 2 kk34 rfl rfl rfl) rfl rfl rfl ?_
  refine TO.y (Y.move rfl) rfl rfl rfl ?_
  refine TO.bind fun R8 H9 => ?_
  refine TO.ef (Ef.call (rest := [.own V_a1 (lc R5.2), .own V_a0 (lc R2.2), .box B1 39 [V_a0, V_a1, .int .i64 a.Seq, V_a3]]) [3, 0, 0, 0] (laws_markIntS_con a.Snaps R5.1 V_a3 R8 H9) kc53 rfl rfl trivial) rfl rfl rfl (fun _ => ?_)
  refine TO.y (Y.assign rfl) rfl rfl rfl ?_
  refine TO.nil ?_
  refine TE.next ?_
  refine TW.seq ?_
  refine TW.region ?_
  refine TO.y (Y.move rfl) rfl rfl rfl ?_
  refine TO.y (Y.assign rfl) rfl rfl rfl ?_
  refine TO.nil ?_
  refine TE.next ?_
  refine TW.ret ?_
  exact TE.leaf fun _ _ hf_ hs_ => ret_any (rs := [.tmp 4]) (vs := [.int .i64 R8.1]) (.inl rfl) rfl ⟨rfl, trivial⟩ hf_ hs_ ⟨(), rfl, hs_.pulls [2, 1, 0] rfl⟩

/-- loop.example/g00950/laws.heldEntS -/
noncomputable def laws_heldEntS (a : List Ent) (k : Int) : Option Int :=
  bindC (loopO (fun (S1 : Int × Int) => if (decide (S1.2 < ((a.length : Nat) : Int))) = true then ((idx a S1.2).bind fun E6 =>
  (laws_markText S1.1).bind fun R8 =>
  if (!(decide (E6.Key = R8))) = true then (some (.done (.done (-1 : Int))))
  else (if (!(decide (E6.Seq = IntKind.i64.wrap (S1.1 + (1 : Int))))) = true then (some (.done (.done (-1 : Int))))
  else (if (!(decide (E6.Del = (decide (Int.tmod (IntKind.i64.wrap (IntKind.i64.wrap (S1.1 + (1 : Int)) + (1 : Int))) (3 : Int) = (0 : Int)))))) = true then (some (.done (.done (-1 : Int))))
  else ((laws_markText (IntKind.i64.wrap (IntKind.i64.wrap (IntKind.i64.wrap (S1.1 + (1 : Int)) + (1 : Int)) + (1 : Int)))).bind fun R14 =>
  if (!(decide (E6.Val = R14))) = true then (some (.done (.done (-1 : Int))))
  else (some (.go (IntKind.i64.wrap (IntKind.i64.wrap (IntKind.i64.wrap (IntKind.i64.wrap (S1.1 + (1 : Int)) + (1 : Int)) + (1 : Int)) + (1 : Int)), IntKind.i64.wrap (S1.2 + (1 : Int)))))))))
  else (some (.done (.go S1.1))))
  (k, (0 : Int)))
  (fun (T3 : Int) => some T3)

theorem laws_heldEntS_con (a : List Ent) (k : Int) (V_a0 : Value) (r : Int) (hm : laws_heldEntS a k = some r) :
    Con Try.prog 17 [V_a0, .int .i64 k] [] [(V_a0, lc a)] (fun _ : Unit => .int .i64 r) (fun _ => []) := by
  refine Con.intro (args := [V_a0, .int .i64 k]) (n := 53) (val := fun r (_ : Unit) => .int .i64 r) (post := fun _ _ => []) (m := laws_heldEntS a k) Try.func17 rfl rfl rfl hm ?_
  intro w S hrd
  have HB_V_a0 := hrd _ (.head _)
  clear hrd
  unfold laws_heldEntS
  refine TW.seq ?_
  refine TW.region ?_
  refine TO.y (Y.assign rfl) rfl rfl rfl ?_
  refine TO.nil ?_
  refine TE.next ?_
  refine TW.seq ?_
  refine TW.seq ?_
  refine TW.region ?_
  refine TO.y (Y.assign rfl) rfl rfl rfl ?_
  refine TO.nil ?_
  refine TE.next ?_
  refine TW.joinX (τ := Int) (X := Unit) (fun T _ => [(1, .int .i64 T)]) (fun _ _ => []) ?_ (fun T3 X4 => ?_)
  · refine TW.block ?_
    refine TW.loopX (σ := Int × Int) (X := Unit) (fun T _ => [(0, V_a0), (1, .int .i64 T.1), (5, .int .i64 T.2)]) (fun _ _ => []) () [] ⟨rfl, rfl, rfl, trivial⟩ rfl (fun S1 X2 => ?_)
    refine TW.seq ?_
    refine TW.seq ?_
    refine TW.region ?_
    refine TO.y (Y.move rfl) rfl rfl rfl ?_
    refine TO.y (Y.move rfl) rfl rfl rfl ?_
    refine TO.y (Y.len (l := a) ke24 (Base.can HB_V_a0) rfl) rfl rfl rfl ?_
    refine TO.y (Y.lss rfl rfl) rfl rfl rfl ?_
    refine TO.nil ?_
    refine TE.next ?_
    refine TW.cond rfl (fun H5 => ?_) (fun H5 => ?_)
    · refine TW.skip ?_
      refine TE.next ?_
      refine TW.seq ?_
      refine TW.block ?_
      refine TW.seq ?_
      refine TW.seq ?_
      refine TW.draw (isH := []) hMix ?_
      refine TA.y (listed' := #[true, false, false, false, false, false, false, false]) 0 [] rfl (Y.move rfl) rfl rfl rfl (by kernel_rfl) (by kernel_rfl) (by kernel_rfl) rfl rfl ?_
      refine TA.y (listed' := #[true, true, false, false, false, false, false, false]) 1 [] rfl (Y.move rfl) rfl rfl rfl (by kernel_rfl) (by kernel_rfl) (by kernel_rfl) rfl rfl ?_
      refine TA.bind fun E6 H7 => ?_
      refine TA.y (listed' := #[true, true, true, false, false, false, false, false]) 2 [] rfl (Y.index ke24 (Base.can HB_V_a0) H7 rfl rfl) rfl rfl rfl (by kernel_rfl) (by kernel_rfl) (by kernel_rfl) rfl rfl ?_
      refine TA.y (listed' := #[true, true, true, true, false, false, false, false]) 3 [] rfl (Y.field_el kf72_0 (Base.can HB_V_a0) (idx_get H7).2.2 rfl rfl) rfl rfl rfl (by kernel_rfl) (by kernel_rfl) (by kernel_rfl) rfl rfl ?_
      refine TA.y (listed' := #[true, true, true, true, true, false, false, false]) 4 [] rfl (Y.load_el (us := [strV E6.Key]) (u := strV E6.Key) kk9 rfl (Base.can HB_V_a0) (idx_get H7).2.2 rfl rfl rfl rfl rfl) rfl rfl rfl (by kernel_rfl) (by kernel_rfl) (by kernel_rfl) rfl rfl ?_
      refine TA.y (listed' := #[true, true, true, true, true, true, false, false]) 5 [] rfl (Y.move rfl) rfl rfl rfl (by kernel_rfl) (by kernel_rfl) (by kernel_rfl) rfl rfl ?_
      refine TA.bind fun R8 H9 => ?_
      refine TA.one 6 (by kernel_rfl) ?_
      refine TX.ef (listed' := #[true, true, true, true, true, true, true, false]) [] rfl (Ef.call (rest := []) [] (laws_markText_con S1.1  R8 H9) kc44 rfl rfl trivial) rfl rfl rfl rfl (fun _ => rfl) (fun _ => ?_)
      refine TA.y (listed' := #[true, true, true, true, true, true, true, true]) 7 [] rfl (Y.sneq rfl rfl) rfl rfl rfl (by kernel_rfl) (by kernel_rfl) (by kernel_rfl) rfl rfl ?_
      refine TA.nil (by kernel_rfl) ?_
      refine TE.next ?_
      refine TW.cond rfl (fun H11 => ?_) (fun H11 => ?_)
      · refine TW.seq ?_
        refine TW.region ?_
        refine TO.y (Y.assign rfl) rfl rfl rfl ?_
        refine TO.nil ?_
        refine TE.next ?_
        refine TW.ret ?_
        refine TE.then_ret ?_
        refine TE.block_ret ?_
        refine TE.then_ret ?_
        refine TE.lp_ret ?_
        refine TE.block_ret ?_
        refine TE.jn_done ?_
        refine TE.then_ret ?_
        exact TE.leaf fun _ _ hf_ hs_ => ret_any (rs := [.tmp 4]) (vs := [.int .i64 (-1 : Int)]) (.inl rfl) rfl ⟨rfl, trivial⟩ hf_ hs_ ⟨(), rfl, hs_.pulls [] rfl⟩
      · refine TW.skip ?_
        refine TE.next ?_
        refine TW.seq ?_
        refine TW.region ?_
        refine TO.y (Y.move rfl) rfl rfl rfl ?_
        refine TO.y (Y.add rfl rfl) rfl rfl rfl ?_
        refine TO.y (Y.assign rfl) rfl rfl rfl ?_
        refine TO.nil ?_
        refine TE.next ?_
        refine TW.seq ?_
        refine TW.seq ?_
        refine TW.region ?_
        refine TO.y (Y.move rfl) rfl rfl rfl ?_
        refine TO.y (Y.move rfl) rfl rfl rfl ?_
        refine TO.y (Y.index ke24 (Base.can HB_V_a0) H7 rfl rfl) rfl rfl rfl ?_
        refine TO.y (Y.field_el kf72_1 (Base.can HB_V_a0) (idx_get H7).2.2 rfl rfl) rfl rfl rfl ?_
        refine TO.y (Y.load_el (us := [.int .i64 E6.Seq]) (u := .int .i64 E6.Seq) kk3 rfl (Base.can HB_V_a0) (idx_get H7).2.2 rfl rfl rfl rfl rfl) rfl rfl rfl ?_
        refine TO.y (Y.move rfl) rfl rfl rfl ?_
        refine TO.y (Y.neq rfl rfl) rfl rfl rfl ?_
        refine TO.nil ?_
        refine TE.next ?_
        refine TW.cond rfl (fun H12 => ?_) (fun H12 => ?_)
        · refine TW.seq ?_
          refine TW.region ?_
          refine TO.y (Y.assign rfl) rfl rfl rfl ?_
          refine TO.nil ?_
          refine TE.next ?_
          refine TW.ret ?_
          refine TE.then_ret ?_
          refine TE.block_ret ?_
          refine TE.then_ret ?_
          refine TE.lp_ret ?_
          refine TE.block_ret ?_
          refine TE.jn_done ?_
          refine TE.then_ret ?_
          exact TE.leaf fun _ _ hf_ hs_ => ret_any (rs := [.tmp 4]) (vs := [.int .i64 (-1 : Int)]) (.inl rfl) rfl ⟨rfl, trivial⟩ hf_ hs_ ⟨(), rfl, hs_.pulls [] rfl⟩
        · refine TW.skip ?_
          refine TE.next ?_
          refine TW.seq ?_
          refine TW.region ?_
          refine TO.y (Y.move rfl) rfl rfl rfl ?_
          refine TO.y (Y.add rfl rfl) rfl rfl rfl ?_
          refine TO.y (Y.assign rfl) rfl rfl rfl ?_
          refine TO.nil ?_
          refine TE.next ?_
          refine TW.seq ?_
          refine TW.seq ?_
          refine TW.region ?_
          refine TO.y (Y.move rfl) rfl rfl rfl ?_
          refine TO.y (Y.move rfl) rfl rfl rfl ?_
          refine TO.y (Y.index ke24 (Base.can HB_V_a0) H7 rfl rfl) rfl rfl rfl ?_
          refine TO.y (Y.field_el kf72_2 (Base.can HB_V_a0) (idx_get H7).2.2 rfl rfl) rfl rfl rfl ?_
          refine TO.y (Y.load_el (us := [.bool E6.Del]) (u := .bool E6.Del) kk4 rfl (Base.can HB_V_a0) (idx_get H7).2.2 rfl rfl rfl rfl rfl) rfl rfl rfl ?_
          refine TO.y (Y.move rfl) rfl rfl rfl ?_
          refine TO.y (Y.rem (by decide) rfl rfl) rfl rfl rfl ?_
          refine TO.y (Y.eql rfl rfl) rfl rfl rfl ?_
          refine TO.y (Y.neb kb4 rfl rfl) rfl rfl rfl ?_
          refine TO.nil ?_
          refine TE.next ?_
          refine TW.cond rfl (fun H13 => ?_) (fun H13 => ?_)
          · refine TW.seq ?_
            refine TW.region ?_
            refine TO.y (Y.assign rfl) rfl rfl rfl ?_
            refine TO.nil ?_
            refine TE.next ?_
            refine TW.ret ?_
            refine TE.then_ret ?_
            refine TE.block_ret ?_
            refine TE.then_ret ?_
            refine TE.lp_ret ?_
            refine TE.block_ret ?_
            refine TE.jn_done ?_
            refine TE.then_ret ?_
            exact TE.leaf fun _ _ hf_ hs_ => ret_any (rs := [.tmp 4]) (vs := [.int .i64 (-1 : Int)]) (.inl rfl) rfl ⟨rfl, trivial⟩ hf_ hs_ ⟨(), rfl, hs_.pulls [] rfl⟩
          · refine TW.skip ?_
            refine TE.next ?_
            refine TW.seq ?_
            refine TW.region ?_
            refine TO.y (Y.move rfl) rfl rfl rfl ?_
            refine TO.y (Y.add rfl rfl) rfl rfl rfl ?_
            refine TO.y (Y.assign rfl) rfl rfl rfl ?_
            refine TO.nil ?_
            refine TE.next ?_
            refine TW.seq ?_
            refine TW.seq ?_
            refine TW.draw (isH := []) hMix ?_
            refine TA.y (listed' := #[true, false, false, false, false, false, false, false]) 0 [] rfl (Y.move rfl) rfl rfl rfl (by kernel_rfl) (by kernel_rfl) (by kernel_rfl) rfl rfl ?_
            refine TA.y (listed' := #[true, true, false, false, false, false, false, false]) 1 [] rfl (Y.move rfl) rfl rfl rfl (by kernel_rfl) (by kernel_rfl) (by kernel_rfl) rfl rfl ?_
            refine TA.y (listed' := #[true, true, true, false, false, false, false, false]) 2 [] rfl (Y.index ke24 (Base.can HB_V_a0) H7 rfl rfl) rfl rfl rfl (by kernel_rfl) (by kernel_rfl) (by kernel_rfl) rfl rfl ?_
            refine TA.y (listed' := #[true, true, true, true, false, false, false, false]) 3 [] rfl (Y.field_el kf72_3 (Base.can HB_V_a0) (idx_get H7).2.2 rfl rfl) rfl rfl rfl (by kernel_rfl) (by kernel_rfl) (by kernel_rfl) rfl rfl ?_
            refine TA.y (listed' := #[true, true, true, true, true, false, false, false]) 4 [] rfl (Y.load_el (us := [strV E6.Val]) (u := strV E6.Val) kk9 rfl (Base.can HB_V_a0) (idx_get H7).2.2 rfl rfl rfl rfl rfl) rfl rfl rfl (by kernel_rfl) (by kernel_rfl) (by kernel_rfl) rfl rfl ?_
            refine TA.y (listed' := #[true, true, true, true, true, true, false, false]) 5 [] rfl (Y.move rfl) rfl rfl rfl (by kernel_rfl) (by kernel_rfl) (by kernel_rfl) rfl rfl ?_
            refine TA.bind fun R14 H15 => ?_
            refine TA.one 6 (by kernel_rfl) ?_
            refine TX.ef (listed' := #[true, true, true, true, true, true, true, false]) [] rfl (Ef.call (rest := []) [] (laws_markText_con (IntKind.i64.wrap (IntKind.i64.wrap (IntKind.i64.wrap (S1.1 + (1 : Int)) + (1 : Int)) + (1 : Int)))  R14 H15) kc44 rfl rfl trivial) rfl rfl rfl rfl (fun _ => rfl) (fun _ => ?_)
            refine TA.y (listed' := #[true, true, true, true, true, true, true, true]) 7 [] rfl (Y.sneq rfl rfl) rfl rfl rfl (by kernel_rfl) (by kernel_rfl) (by kernel_rfl) rfl rfl ?_
            refine TA.nil (by kernel_rfl) ?_
            refine TE.next ?_
            refine TW.cond rfl (fun H17 => ?_) (fun H17 => ?_)
            · refine TW.seq ?_
              refine TW.region ?_
              refine TO.y (Y.assign rfl) rfl rfl rfl ?_
              refine TO.nil ?_
              refine TE.next ?_
              refine TW.ret ?_
              refine TE.then_ret ?_
              refine TE.block_ret ?_
              refine TE.then_ret ?_
              refine TE.lp_ret ?_
              refine TE.block_ret ?_
              refine TE.jn_done ?_
              refine TE.then_ret ?_
              exact TE.leaf fun _ _ hf_ hs_ => ret_any (rs := [.tmp 4]) (vs := [.int .i64 (-1 : Int)]) (.inl rfl) rfl ⟨rfl, trivial⟩ hf_ hs_ ⟨(), rfl, hs_.pulls [] rfl⟩
            · refine TW.skip ?_
              refine TE.next ?_
              refine TW.region ?_
              refine TO.y (Y.move rfl) rfl rfl rfl ?_
              refine TO.y (Y.add rfl rfl) rfl rfl rfl ?_
              refine TO.y (Y.assign rfl) rfl rfl rfl ?_
              refine TO.nil ?_
              refine TE.block_normal ?_
              refine TE.next ?_
              refine TW.region ?_
              refine TO.y (Y.move rfl) rfl rfl rfl ?_
              refine TO.y (Y.add rfl rfl) rfl rfl rfl ?_
              refine TO.y (Y.assign rfl) rfl rfl rfl ?_
              refine TO.nil ?_
              exact TE.lp_go () [] ⟨rfl, rfl, rfl, trivial⟩ rfl
    · refine TW.exit ?_
      refine TE.then_exit ?_
      refine TE.lp_exit ?_
      refine TE.block_exit ?_
      exact TE.jn_go () [] ⟨rfl, trivial⟩ rfl
  · refine TE.next ?_
    refine TW.seq ?_
    refine TW.region ?_
    refine TO.y (Y.move rfl) rfl rfl rfl ?_
    refine TO.y (Y.assign rfl) rfl rfl rfl ?_
    refine TO.nil ?_
    refine TE.next ?_
    refine TW.ret ?_
    exact TE.leaf fun _ _ hf_ hs_ => ret_any (rs := [.tmp 4]) (vs := [.int .i64 T3]) (.inl rfl) rfl ⟨rfl, trivial⟩ hf_ hs_ ⟨(), rfl, hs_.pulls [] rfl⟩

/-- loop.example/g00950/laws.heldEntSS -/
noncomputable def laws_heldEntSS (a : List (List Ent)) (k : Int) : Option Int :=
  bindC (loopO (fun (S1 : Int × Int) => if (decide (S1.2 < ((a.length : Nat) : Int))) = true then ((idx a S1.2).bind fun E6 =>
  (laws_heldEntS E6 S1.1).bind fun R9 =>
  if (decide (R9 < (0 : Int))) = true then (some (.done (.done (-1 : Int))))
  else (some (.go (R9, IntKind.i64.wrap (S1.2 + (1 : Int))))))
  else (some (.done (.go S1.1))))
  (k, (0 : Int)))
  (fun (T3 : Int) => some T3)

theorem laws_heldEntSS_con (a : List (List Ent)) (k : Int) (V_a0 : Value) (r : Int) (hm : laws_heldEntSS a k = some r) :
    Con Try.prog 54 [V_a0, .int .i64 k] [] [(V_a0, lc a)] (fun _ : Unit => .int .i64 r) (fun _ => []) := by
  refine Con.intro (args := [V_a0, .int .i64 k]) (n := 21) (val := fun r (_ : Unit) => .int .i64 r) (post := fun _ _ => []) (m := laws_heldEntSS a k) Try.func54 rfl rfl rfl hm ?_
  intro w S hrd
  have HB_V_a0 := hrd _ (.head _)
  clear hrd
  unfold laws_heldEntSS
  refine TW.seq ?_
  refine TW.region ?_
  refine TO.y (Y.assign rfl) rfl rfl rfl ?_
  refine TO.nil ?_
  refine TE.next ?_
  refine TW.seq ?_
  refine TW.seq ?_
  refine TW.region ?_
  refine TO.y (Y.assign rfl) rfl rfl rfl ?_
  refine TO.nil ?_
  refine TE.next ?_
  refine TW.joinX (τ := Int) (X := Unit) (fun T _ => [(1, .int .i64 T)]) (fun _ _ => []) ?_ (fun T3 X4 => ?_)
  · refine TW.block ?_
    refine TW.loopX (σ := Int × Int) (X := Unit) (fun T _ => [(0, V_a0), (1, .int .i64 T.1), (5, .int .i64 T.2)]) (fun _ _ => []) () [] ⟨rfl, rfl, rfl, trivial⟩ rfl (fun S1 X2 => ?_)
    refine TW.seq ?_
    refine TW.seq ?_
    refine TW.region ?_
    refine TO.y (Y.move rfl) rfl rfl rfl ?_
    refine TO.y (Y.move rfl) rfl rfl rfl ?_
    refine TO.y (Y.len (l := a) ke26 (Base.can HB_V_a0) rfl) rfl rfl rfl ?_
    refine TO.y (Y.lss rfl rfl) rfl rfl rfl ?_
    refine TO.nil ?_
    refine TE.next ?_
    refine TW.cond rfl (fun H5 => ?_) (fun H5 => ?_)
    · refine TW.skip ?_
      refine TE.next ?_
      refine TW.seq ?_
      refine TW.block ?_
      refine TW.seq ?_
      refine TW.region ?_
      refine TO.y (Y.move rfl) rfl rfl rfl ?_
      refine TO.y (Y.move rfl) rfl rfl rfl ?_
      refine TO.bind fun E6 H7 => ?_
      refine TO.y (Y.index ke26 (Base.can HB_V_a0) H7 rfl rfl) rfl rfl rfl ?_
      have Q8 : Base w S (elv w V_a0 (S1.2.toNat * 1 + 0)) (lc E6) := Base.el HB_V_a0 (idx_get H7).2.2 rfl rfl
      refine TO.y (Y.load_base (α := List Ent) (u := (elv w V_a0 (S1.2.toNat * 1 + 0))) kk24 rfl HB_V_a0 (idx_get H7).2.2 rfl rfl rfl rfl rfl) rfl rfl rfl ?_
      refine TO.y (Y.move rfl) rfl rfl rfl ?_
      refine TO.bind fun R9 H10 => ?_
      refine TO.ef (Ef.call (rest := []) [] (laws_heldEntS_con E6 S1.1 (elv w V_a0 (S1.2.toNat * 1 + 0)) R9 H10) kc17 rfl rfl ⟨(Base.can Q8), trivial⟩) rfl rfl rfl (fun _ => ?_)
      refine TO.y (Y.assign rfl) rfl rfl rfl ?_
      refine TO.nil ?_
      refine TE.next ?_
      refine TW.seq ?_
      refine TW.region ?_
      refine TO.y (Y.move rfl) rfl rfl rfl ?_
      refine TO.y (Y.lss rfl rfl) rfl rfl rfl ?_
      refine TO.nil ?_
      refine TE.next ?_
      refine TW.cond rfl (fun H12 => ?_) (fun H12 => ?_)
      · refine TW.seq ?_
        refine TW.region ?_
        refine TO.y (Y.assign rfl) rfl rfl rfl ?_
        refine TO.nil ?_
        refine TE.next ?_
        refine TW.ret ?_
        refine TE.block_ret ?_
        refine TE.then_ret ?_
        refine TE.lp_ret ?_
        refine TE.block_ret ?_
        refine TE.jn_done ?_
        refine TE.then_ret ?_
        exact TE.leaf fun _ _ hf_ hs_ => ret_any (rs := [.tmp 4]) (vs := [.int .i64 (-1 : Int)]) (.inl rfl) rfl ⟨rfl, trivial⟩ hf_ hs_ ⟨(), rfl, hs_.pulls [] rfl⟩
      · refine TW.skip ?_
        refine TE.block_normal ?_
        refine TE.next ?_
        refine TW.region ?_
        refine TO.y (Y.move rfl) rfl rfl rfl ?_
        refine TO.y (Y.add rfl rfl) rfl rfl rfl ?_
        refine TO.y (Y.assign rfl) rfl rfl rfl ?_
        refine TO.nil ?_
        exact TE.lp_go () [] ⟨rfl, rfl, rfl, trivial⟩ rfl
    · refine TW.exit ?_
      refine TE.then_exit ?_
      refine TE.lp_exit ?_
      refine TE.block_exit ?_
      exact TE.jn_go () [] ⟨rfl, trivial⟩ rfl
  · refine TE.next ?_
    refine TW.seq ?_
    refine TW.region ?_
    refine TO.y (Y.move rfl) rfl rfl rfl ?_
    refine TO.y (Y.assign rfl) rfl rfl rfl ?_
    refine TO.nil ?_
    refine TE.next ?_
    refine TW.ret ?_
    exact TE.leaf fun _ _ hf_ hs_ => ret_any (rs := [.tmp 4]) (vs := [.int .i64 T3]) (.inl rfl) rfl ⟨rfl, trivial⟩ hf_ hs_ ⟨(), rfl, hs_.pulls [] rfl⟩

/-- loop.example/g00950/laws.heldIntS -/
noncomputable def laws_heldIntS (a : List Int) (k : Int) : Option Int :=
  bindC (loopO (fun (S1 : Int × Int) => if (decide (S1.2 < ((a.length : Nat) : Int))) = true then ((idx a S1.2).bind fun E6 =>
  if (!(decide (E6 = S1.1))) = true then (some (.done (.done (-1 : Int))))
  else (some (.go (IntKind.i64.wrap (S1.1 + (1 : Int)), IntKind.i64.wrap (S1.2 + (1 : Int))))))
  else (some (.done (.go S1.1))))
  (k, (0 : Int)))
  (fun (T3 : Int) => some T3)

theorem laws_heldIntS_con (a : List Int) (k : Int) (V_a0 : Value) (r : Int) (hm : laws_heldIntS a k = some r) :
    Con Try.prog 55 [V_a0, .int .i64 k] [] [(V_a0, lc a)] (fun _ : Unit => .int .i64 r) (fun _ => []) := by
  refine Con.intro (args := [V_a0, .int .i64 k]) (n := 21) (val := fun r (_ : Unit) => .int .i64 r) (post := fun _ _ => []) (m := laws_heldIntS a k) Try.func55 rfl rfl rfl hm ?_
  intro w S hrd
  have HB_V_a0 := hrd _ (.head _)
  clear hrd
  unfold laws_heldIntS
  refine TW.seq ?_
  refine TW.region ?_
  refine TO.y (Y.assign rfl) rfl rfl rfl ?_
  refine TO.nil ?_
  refine TE.next ?_
  refine TW.seq ?_
  refine TW.seq ?_
  refine TW.region ?_
  refine TO.y (Y.assign rfl) rfl rfl rfl ?_
  refine TO.nil ?_
  refine TE.next ?_
  refine TW.joinX (τ := Int) (X := Unit) (fun T _ => [(1, .int .i64 T)]) (fun _ _ => []) ?_ (fun T3 X4 => ?_)
  · refine TW.block ?_
    refine TW.loopX (σ := Int × Int) (X := Unit) (fun T _ => [(0, V_a0), (1, .int .i64 T.1), (5, .int .i64 T.2)]) (fun _ _ => []) () [] ⟨rfl, rfl, rfl, trivial⟩ rfl (fun S1 X2 => ?_)
    refine TW.seq ?_
    refine TW.seq ?_
    refine TW.region ?_
    refine TO.y (Y.move rfl) rfl rfl rfl ?_
    refine TO.y (Y.move rfl) rfl rfl rfl ?_
    refine TO.y (Y.len (l := a) ke34 (Base.can HB_V_a0) rfl) rfl rfl rfl ?_
    refine TO.y (Y.lss rfl rfl) rfl rfl rfl ?_
    refine TO.nil ?_
    refine TE.next ?_
    refine TW.cond rfl (fun H5 => ?_) (fun H5 => ?_)
    · refine TW.skip ?_
      refine TE.next ?_
      refine TW.seq ?_
      refine TW.block ?_
      refine TW.seq ?_
      refine TW.seq ?_
      refine TW.region ?_
      refine TO.y (Y.move rfl) rfl rfl rfl ?_
      refine TO.y (Y.move rfl) rfl rfl rfl ?_
      refine TO.bind fun E6 H7 => ?_
      refine TO.y (Y.index ke34 (Base.can HB_V_a0) H7 rfl rfl) rfl rfl rfl ?_
      refine TO.y (Y.load_el (us := [.int .i64 E6]) (u := .int .i64 E6) kk3 rfl (Base.can HB_V_a0) (idx_get H7).2.2 rfl rfl rfl rfl rfl) rfl rfl rfl ?_
      refine TO.y (Y.move rfl) rfl rfl rfl ?_
      refine TO.y (Y.neq rfl rfl) rfl rfl rfl ?_
      refine TO.nil ?_
      refine TE.next ?_
      refine TW.cond rfl (fun H8 => ?_) (fun H8 => ?_)
      · refine TW.seq ?_
        refine TW.region ?_
        refine TO.y (Y.assign rfl) rfl rfl rfl ?_
        refine TO.nil ?_
        refine TE.next ?_
        refine TW.ret ?_
        refine TE.then_ret ?_
        refine TE.block_ret ?_
        refine TE.then_ret ?_
        refine TE.lp_ret ?_
        refine TE.block_ret ?_
        refine TE.jn_done ?_
        refine TE.then_ret ?_
        exact TE.leaf fun _ _ hf_ hs_ => ret_any (rs := [.tmp 4]) (vs := [.int .i64 (-1 : Int)]) (.inl rfl) rfl ⟨rfl, trivial⟩ hf_ hs_ ⟨(), rfl, hs_.pulls [] rfl⟩
      · refine TW.skip ?_
        refine TE.next ?_
        refine TW.region ?_
        refine TO.y (Y.move rfl) rfl rfl rfl ?_
        refine TO.y (Y.add rfl rfl) rfl rfl rfl ?_
        refine TO.y (Y.assign rfl) rfl rfl rfl ?_
        refine TO.nil ?_
        refine TE.block_normal ?_
        refine TE.next ?_
        refine TW.region ?_
        refine TO.y (Y.move rfl) rfl rfl rfl ?_
        refine TO.y (Y.add rfl rfl) rfl rfl rfl ?_
        refine TO.y (Y.assign rfl) rfl rfl rfl ?_
        refine TO.nil ?_
        exact TE.lp_go () [] ⟨rfl, rfl, rfl, trivial⟩ rfl
    · refine TW.exit ?_
      refine TE.then_exit ?_
      refine TE.lp_exit ?_
      refine TE.block_exit ?_
      exact TE.jn_go () [] ⟨rfl, trivial⟩ rfl
  · refine TE.next ?_
    refine TW.seq ?_
    refine TW.region ?_
    refine TO.y (Y.move rfl) rfl rfl rfl ?_
    refine TO.y (Y.assign rfl) rfl rfl rfl ?_
    refine TO.nil ?_
    refine TE.next ?_
    refine TW.ret ?_
    exact TE.leaf fun _ _ hf_ hs_ => ret_any (rs := [.tmp 4]) (vs := [.int .i64 T3]) (.inl rfl) rfl ⟨rfl, trivial⟩ hf_ hs_ ⟨(), rfl, hs_.pulls [] rfl⟩

/-- loop.example/g00950/laws.heldEng -/
noncomputable def laws_heldEng (a : Eng) (k : Int) : Option Int :=
  (laws_heldEntS a.Mem k).bind fun R2 =>
  if (decide (R2 < (0 : Int))) = true then (some (-1 : Int))
  else ((laws_heldEntSS a.Tables R2).bind fun R6 =>
  if (decide (R6 < (0 : Int))) = true then (some (-1 : Int))
  else ((laws_heldIntS a.Snaps R6).bind fun R10 =>
  if (decide (R10 < (0 : Int))) = true then (some (-1 : Int))
  else (some R10)))

theorem laws_heldEng_con (a : Eng) (k : Int) (V_a0 : Value) (V_a1 : Value) (V_a3 : Value) (r : Int) (hm : laws_heldEng a k = some r) :
    Con Try.prog 24 [.agg #[V_a0, V_a1, .int .i64 a.Seq, V_a3], .int .i64 k] [] [(V_a0, lc a.Mem), (V_a1, lc a.Tables), (V_a3, lc a.Snaps)] (fun _ : Unit => .int .i64 r) (fun _ => []) := by
  refine Con.intro (args := [.agg #[V_a0, V_a1, .int .i64 a.Seq, V_a3], .int .i64 k]) (n := 24) (val := fun r (_ : Unit) => .int .i64 r) (post := fun _ _ => []) (m := laws_heldEng a k) Try.func24 rfl rfl rfl hm ?_
  intro w S hrd
  have HB_V_a0 := hrd _ (.head _)
  have HB_V_a1 := hrd _ (.tail _ (.head _))
  have HB_V_a3 := hrd _ (.tail _ (.tail _ (.head _)))
  clear hrd
  unfold laws_heldEng
  refine TW.seq ?_
  refine TW.region ?_
  refine TO.ef (Ef.box rfl (Cel.agg ⟨(One.can (Base.can HB_V_a0)), (One.can (Base.can HB_V_a1)), (One.plain rfl), (One.can (Base.can HB_V_a3)), trivial⟩)) rfl rfl rfl (fun B1 => ?_)
  refine TO.y (Y.assign rfl) rfl rfl rfl ?_
  refine TO.nil ?_
  refine TE.next ?_
  refine TW.seq ?_
  refine TW.region ?_
  refine TO.y (Y.field_box kf39_0 rfl rfl) rfl rfl rfl ?_
  refine TO.y (Y.load_box (v := V_a0) 0 kk24 rfl rfl rfl) rfl rfl rfl ?_
  refine TO.y (Y.move rfl) rfl rfl rfl ?_
  refine TO.bind fun R2 H3 => ?_
  refine TO.ef (Ef.call (rest := [.box B1 39 [V_a0, V_a1, .int .i64 a.Seq, V_a3]]) [0] (laws_heldEntS_con a.Mem k V_a0 R2 H3) kc17 rfl rfl ⟨(Base.can HB_V_a0), trivial⟩) rfl rfl rfl (fun _ => ?_)
  refine TO.y (Y.assign rfl) rfl rfl rfl ?_
  refine TO.nil ?_
  refine TE.next ?_
  refine TW.seq ?_
  refine TW.seq ?_
  refine TW.region ?_
  refine TO.y (Y.move rfl) rfl rfl rfl ?_
  refine TO.y (Y.lss rfl rfl) rfl rfl rfl ?_
  refine TO.nil ?_
  refine TE.next ?_
  refine TW.cond rfl (fun H5 => ?_) (fun H5 => ?_)
  · refine TW.seq ?_
    refine TW.region ?_
    refine TO.y (Y.assign rfl) rfl rfl rfl ?_
    refine TO.nil ?_
    refine TE.next ?_
    refine TW.ret ?_
    refine TE.then_ret ?_
    exact TE.leaf fun _ _ hf_ hs_ => ret_any (rs := [.tmp 4]) (vs := [.int .i64 (-1 : Int)]) (.inl rfl) rfl ⟨rfl, trivial⟩ hf_ hs_ ⟨(), rfl, hs_.pulls [] rfl⟩
  · refine TW.skip ?_
    refine TE.next ?_
    refine TW.seq ?_
    refine TW.region ?_
    refine TO.y (Y.field_box kf39_1 rfl rfl) rfl rfl rfl ?_
    refine TO.y (Y.load_box (v := V_a1) 0 kk26 rfl rfl rfl) rfl rfl rfl ?_
    refine TO.y (Y.move rfl) rfl rfl rfl ?_
    refine TO.bind fun R6 H7 => ?_
    refine TO.ef (Ef.call (rest := [.box B1 39 [V_a0, V_a1, .int .i64 a.Seq, V_a3]]) [0] (laws_heldEntSS_con a.Tables R2 V_a1 R6 H7) kc54 rfl rfl ⟨(Base.can HB_V_a1), trivial⟩) rfl rfl rfl (fun _ => ?_)
    refine TO.y (Y.assign rfl) rfl rfl rfl ?_
    refine TO.nil ?_
    refine TE.next ?_
    refine TW.seq ?_
    refine TW.seq ?_
    refine TW.region ?_
    refine TO.y (Y.move rfl) rfl rfl rfl ?_
    refine TO.y (Y.lss rfl rfl) rfl rfl rfl ?_
    refine TO.nil ?_
    refine TE.next ?_
    refine TW.cond rfl (fun H9 => ?_) (fun H9 => ?_)
    · refine TW.seq ?_
      refine TW.region ?_
      refine TO.y (Y.assign rfl) rfl rfl rfl ?_
      refine TO.nil ?_
      refine TE.next ?_
      refine TW.ret ?_
      refine TE.then_ret ?_
      exact TE.leaf fun _ _ hf_ hs_ => ret_any (rs := [.tmp 4]) (vs := [.int .i64 (-1 : Int)]) (.inl rfl) rfl ⟨rfl, trivial⟩ hf_ hs_ ⟨(), rfl, hs_.pulls [] rfl⟩
    · refine TW.skip ?_
      refine TE.next ?_
      refine TW.seq ?_
      refine TW.region ?_
      refine TO.y (Y.field_box kf39_3 rfl rfl) rfl rfl rfl ?_
      refine TO.y (Y.load_box (v := V_a3) 0 kk34 rfl rfl rfl) rfl rfl rfl ?_
      refine TO.y (Y.move rfl) rfl rfl rfl ?_
      refine TO.bind fun R10 H11 => ?_
      refine TO.ef (Ef.call (rest := [.box B1 39 [V_a0, V_a1, .int .i64 a.Seq, V_a3]]) [0] (laws_heldIntS_con a.Snaps R6 V_a3 R10 H11) kc55 rfl rfl ⟨(Base.can HB_V_a3), trivial⟩) rfl rfl rfl (fun _ => ?_)
      refine TO.y (Y.assign rfl) rfl rfl rfl ?_
      refine TO.nil ?_
      refine TE.next ?_
      refine TW.seq ?_
      refine TW.seq ?_
      refine TW.region ?_
      refine TO.y (Y.move rfl) rfl rfl rfl ?_
      refine TO.y (Y.lss rfl rfl) rfl rfl rfl ?_
      refine TO.nil ?_
      refine TE.next ?_
      refine TW.cond rfl (fun H13 => ?_) (fun H13 => ?_)
      · refine TW.seq ?_
        refine TW.region ?_
        refine TO.y (Y.assign rfl) rfl rfl rfl ?_
        refine TO.nil ?_
        refine TE.next ?_
        refine TW.ret ?_
        refine TE.then_ret ?_
        exact TE.leaf fun _ _ hf_ hs_ => ret_any (rs := [.tmp 4]) (vs := [.int .i64 (-1 : Int)]) (.inl rfl) rfl ⟨rfl, trivial⟩ hf_ hs_ ⟨(), rfl, hs_.pulls [] rfl⟩
      · refine TW.skip ?_
        refine TE.next ?_
        refine TW.seq ?_
        refine TW.region ?_
        refine TO.y (Y.move rfl) rfl rfl rfl ?_
        refine TO.y (Y.assign rfl) rfl rfl rfl ?_
        refine TO.nil ?_
        refine TE.next ?_
        refine TW.ret ?_
        exact TE.leaf fun _ _ hf_ hs_ => ret_any (rs := [.tmp 4]) (vs := [.int .i64 R10]) (.inl rfl) rfl ⟨rfl, trivial⟩ hf_ hs_ ⟨(), rfl, hs_.pulls [] rfl⟩

/-- loop.example/g00950/laws.FnExactEngSnap -/
noncomputable def laws_FnExactEngSnap (aE : Eng) : Option Bool :=
  (laws_szEng aE (1048576 : Int)).bind fun R2 =>
  if (decide (R2 < (0 : Int))) = true then (some true)
  else ((laws_toEng aE).bind fun R6 =>
  (spec_EngSnap R6).bind fun R9 =>
  (impl_EngSnap R6).bind fun R15 =>
  ((laws_eqEng R15.1 R9.1).bind fun R21 =>
  if (!R21) = true then (some true)
  else (if (!(decide (R15.2.1 = R9.2.1))) = true then (some true)
  else (some (!(decide (R15.2.2 = R9.2.2)))))).bind (fun (T19 : Bool) =>
  if T19 = true then (some false)
  else ((laws_eqEng R6 R6).bind fun R28 =>
  if (!R28) = true then (some false)
  else ((laws_markEng R6 (1 : Int)).bind fun R32 =>
  (if (decide (R32.1 < (0 : Int))) = true then (some true)
  else ((laws_eqEng R15.1 R9.1).bind fun R38 =>
  if (!R38) = true then (some true)
  else (if (!(decide (R15.2.1 = R9.2.1))) = true then (some true)
  else (some (!(decide (R15.2.2 = R9.2.2))))))).bind (fun (T35 : Bool) =>
  if T35 = true then (some false)
  else ((laws_markEng R15.1 (1 : Int)).bind fun R44 =>
  (laws_heldEng ({ Mem := R44.2.1, Tables := R44.2.2.1, Seq := R15.1.Seq, Snaps := R44.2.2.2 : Eng }) (1 : Int)).bind fun R47 =>
  if (decide (R47 < (0 : Int))) = true then (some false)
  else (if (!(decide (R47 = R44.1))) = true then (some false)
  else (((laws_eqEng R15.1 R9.1).bind fun R57 =>
  if (!R57) = true then (some true)
  else (if (!(decide (R15.2.1 = R9.2.1))) = true then (some true)
  else (some (!(decide (R15.2.2 = R9.2.2)))))).bind (fun (T55 : Bool) =>
  if T55 = true then (some false)
  else (if (decide (R47 < (0 : Int))) = true then (some false)
  else (if (!(decide (R47 = R44.1))) = true then (some false)
  else (some true))))))))))))

theorem laws_FnExactEngSnap_con (aE : Eng) (V_aE0 : Value) (V_aE1 : Value) (V_aE3 : Value) (r : Bool) (hm : laws_FnExactEngSnap aE = some r) :
    Con Try.prog 4 [.agg #[V_aE0, V_aE1, .int .i64 aE.Seq, V_aE3]] [] [(V_aE0, lc aE.Mem), (V_aE1, lc aE.Tables), (V_aE3, lc aE.Snaps)] (fun _ : Unit => .bool r) (fun _ => []) := by
  refine Con.intro (args := [.agg #[V_aE0, V_aE1, .int .i64 aE.Seq, V_aE3]]) (n := 117) (val := fun r (_ : Unit) => .bool r) (post := fun _ _ => []) (m := laws_FnExactEngSnap aE) Try.func4 rfl rfl rfl hm ?_
  intro w S hrd
  have HB_V_aE0 := hrd _ (.head _)
  have HB_V_aE1 := hrd _ (.tail _ (.head _))
  have HB_V_aE3 := hrd _ (.tail _ (.tail _ (.head _)))
  clear hrd
  unfold laws_FnExactEngSnap
  refine TW.seq ?_
  refine TW.region ?_
  refine TO.ef (Ef.box rfl (Cel.agg ⟨(One.can (Base.can HB_V_aE0)), (One.can (Base.can HB_V_aE1)), (One.plain rfl), (One.can (Base.can HB_V_aE3)), trivial⟩)) rfl rfl rfl (fun B1 => ?_)
  refine TO.y (Y.assign rfl) rfl rfl rfl ?_
  refine TO.nil ?_
  refine TE.next ?_
  refine TW.seq ?_
  refine TW.region ?_
  refine TO.y (Y.assign rfl) rfl rfl rfl ?_
  refine TO.nil ?_
  refine TE.next ?_
  refine TW.seq ?_
  refine TW.region ?_
  refine TO.y (Y.load_box (v := .agg #[V_aE0, V_aE1, .int .i64 aE.Seq, V_aE3]) 0 kk36 rfl rfl rfl) rfl rfl rfl ?_
  refine TO.y (Y.move rfl) rfl rfl rfl ?_
  refine TO.bind fun R2 H3 => ?_
  refine TO.ef (Ef.call (rest := [.box B1 36 [V_aE0, V_aE1, .int .i64 aE.Seq, V_aE3]]) [0] (laws_szEng_con aE (1048576 : Int) V_aE0 V_aE1 V_aE3 R2 H3) kc18 rfl rfl ⟨(Base.can HB_V_aE0), (Base.can HB_V_aE1), (Base.can HB_V_aE3), trivial⟩) rfl rfl rfl (fun _ => ?_)
  refine TO.y (Y.assign rfl) rfl rfl rfl ?_
  refine TO.nil ?_
  refine TE.next ?_
  refine TW.seq ?_
  refine TW.seq ?_
  refine TW.region ?_
  refine TO.y (Y.move rfl) rfl rfl rfl ?_
  refine TO.y (Y.lss rfl rfl) rfl rfl rfl ?_
  refine TO.nil ?_
  refine TE.next ?_
  refine TW.cond rfl (fun H5 => ?_) (fun H5 => ?_)
  · refine TW.seq ?_
    refine TW.region ?_
    refine TO.y (Y.assign rfl) rfl rfl rfl ?_
    refine TO.nil ?_
    refine TE.next ?_
    refine TW.ret ?_
    refine TE.then_ret ?_
    exact TE.leaf fun _ _ hf_ hs_ => ret_any (rs := [.tmp 2]) (vs := [.bool true]) (.inl rfl) rfl ⟨rfl, trivial⟩ hf_ hs_ ⟨(), rfl, hs_.pulls [] rfl⟩
  · refine TW.skip ?_
    refine TE.next ?_
    refine TW.seq ?_
    refine TW.region ?_
    refine TO.y (Y.load_box (v := .agg #[V_aE0, V_aE1, .int .i64 aE.Seq, V_aE3]) 0 kk36 rfl rfl rfl) rfl rfl rfl ?_
    refine TO.bind fun R6 H7 => ?_
    refine TO.ef (Ef.call (rest := [.box B1 36 [V_aE0, V_aE1, .int .i64 aE.Seq, V_aE3]]) [0] (laws_toEng_con aE V_aE0 V_aE1 V_aE3 R6 H7) kc20 rfl rfl ⟨(Base.can HB_V_aE0), (Base.can HB_V_aE1), (Base.can HB_V_aE3), trivial⟩) rfl rfl rfl (fun Y8 => ?_)
    refine TO.bind fun R9 H10 => ?_
    refine TO.ef (Ef.call (rest := [.own Y8.1 (lc R6.Mem), .own Y8.2.1 (lc R6.Tables), .own Y8.2.2 (lc R6.Snaps), .box B1 36 [V_aE0, V_aE1, .int .i64 aE.Seq, V_aE3]]) [0, 0, 0, 0] (spec_EngSnap_con R6 Y8.1 Y8.2.1 Y8.2.2 R9 H10) kc19 rfl rfl ⟨(Can.own 0 rfl), (Can.own 1 rfl), (Can.own 2 rfl), trivial⟩) rfl rfl rfl (fun Y11 => ?_)
    refine TO.y (Y.move rfl) rfl rfl rfl ?_
    refine TO.y (Y.extract rfl rfl) rfl rfl rfl ?_
    refine TO.y (Y.extract rfl rfl) rfl rfl rfl ?_
    refine TO.y (Y.extract rfl rfl) rfl rfl rfl ?_
    refine TO.ef (Ef.alloc kz39 rfl) rfl rfl rfl (fun B12 => ?_)
    refine TO.ef0 (Ef.store_box (us := [Y11.1, Y11.2.1, .int .i64 R9.1.Seq, Y11.2.2]) (vs' := [Y11.1, Y11.2.1, .int .i64 R9.1.Seq, Y11.2.2]) (is' := [.box B12 39 [Y11.1, Y11.2.1, .int .i64 R9.1.Seq, Y11.2.2], .own Y11.1 (lc R9.1.Mem), .own Y11.2.1 (lc R9.1.Tables), .own Y11.2.2 (lc R9.1.Snaps), .own Y8.1 (lc R6.Mem), .own Y8.2.1 (lc R6.Tables), .own Y8.2.2 (lc R6.Snaps), .box B1 36 [V_aE0, V_aE1, .int .i64 aE.Seq, V_aE3]]) 0 kk39 rfl rfl rfl (Cel.agg ⟨(One.can (Can.own 1 rfl)), (One.can (Can.own 2 rfl)), (One.plain rfl), (One.can (Can.own 3 rfl)), trivial⟩) rfl rfl rfl rfl) rfl rfl (fun _ => ?_)
    refine TO.y (Y.assign rfl) rfl rfl rfl ?_
    refine TO.y (Y.assign rfl) rfl rfl rfl ?_
    refine TO.nil ?_
    refine TE.next ?_
    refine TW.seq ?_
    refine TW.region ?_
    refine TO.y (Y.load_box (v := .agg #[V_aE0, V_aE1, .int .i64 aE.Seq, V_aE3]) 7 kk36 rfl rfl rfl) rfl rfl rfl ?_
    refine TO.ef (Ef.call (rest := [.box B12 39 [Y11.1, Y11.2.1, .int .i64 R9.1.Seq, Y11.2.2], .own Y11.1 (lc R9.1.Mem), .own Y11.2.1 (lc R9.1.Tables), .own Y11.2.2 (lc R9.1.Snaps), .own Y8.1 (lc R6.Mem), .own Y8.2.1 (lc R6.Tables), .own Y8.2.2 (lc R6.Snaps), .box B1 36 [V_aE0, V_aE1, .int .i64 aE.Seq, V_aE3]]) [0, 0, 0, 0, 0, 0, 0, 0] (laws_toEng_con aE V_aE0 V_aE1 V_aE3 R6 H7) kc20 rfl rfl ⟨(Base.can HB_V_aE0), (Base.can HB_V_aE1), (Base.can HB_V_aE3), trivial⟩) rfl rfl rfl (fun Y13 => ?_)
    refine TO.ef (Ef.alloc kz39 rfl) rfl rfl rfl (fun B14 => ?_)
    refine TO.ef0 (Ef.store_box (us := [Y13.1, Y13.2.1, .int .i64 R6.Seq, Y13.2.2]) (vs' := [Y13.1, Y13.2.1, .int .i64 R6.Seq, Y13.2.2]) (is' := [.box B14 39 [Y13.1, Y13.2.1, .int .i64 R6.Seq, Y13.2.2], .own Y13.1 (lc R6.Mem), .own Y13.2.1 (lc R6.Tables), .own Y13.2.2 (lc R6.Snaps), .box B12 39 [Y11.1, Y11.2.1, .int .i64 R9.1.Seq, Y11.2.2], .own Y11.1 (lc R9.1.Mem), .own Y11.2.1 (lc R9.1.Tables), .own Y11.2.2 (lc R9.1.Snaps), .own Y8.1 (lc R6.Mem), .own Y8.2.1 (lc R6.Tables), .own Y8.2.2 (lc R6.Snaps), .box B1 36 [V_aE0, V_aE1, .int .i64 aE.Seq, V_aE3]]) 0 kk39 rfl rfl rfl (Cel.agg ⟨(One.can (Can.own 1 rfl)), (One.can (Can.own 2 rfl)), (One.plain rfl), (One.can (Can.own 3 rfl)), trivial⟩) rfl rfl rfl rfl) rfl rfl (fun _ => ?_)
    refine TO.nil ?_
    refine TE.next ?_
    refine TW.seq ?_
    refine TW.region ?_
    refine TO.y (Y.load_box (v := .agg #[Y13.1, Y13.2.1, .int .i64 R6.Seq, Y13.2.2]) 0 kk39 rfl rfl rfl) rfl rfl rfl ?_
    refine TO.bind fun R15 H16 => ?_
    refine TO.ef (Ef.call (rest := [.box B14 39 [Y13.1, Y13.2.1, .int .i64 R6.Seq, Y13.2.2], .own Y13.1 (lc R6.Mem), .own Y13.2.1 (lc R6.Tables), .own Y13.2.2 (lc R6.Snaps), .box B12 39 [Y11.1, Y11.2.1, .int .i64 R9.1.Seq, Y11.2.2], .own Y11.1 (lc R9.1.Mem), .own Y11.2.1 (lc R9.1.Tables), .own Y11.2.2 (lc R9.1.Snaps), .own Y8.1 (lc R6.Mem), .own Y8.2.1 (lc R6.Tables), .own Y8.2.2 (lc R6.Snaps), .box B1 36 [V_aE0, V_aE1, .int .i64 aE.Seq, V_aE3]]) [0, 0, 0, 0, 0, 0, 0, 0, 0, 0, 0, 0] (impl_EngSnap_con R6 Y13.1 Y13.2.1 Y13.2.2 R15 H16) kc21 rfl rfl ⟨(Can.own 1 rfl), (Can.own 2 rfl), (Can.own 3 rfl), trivial⟩) rfl rfl rfl (fun Y17 => ?_)
    refine TO.y (Y.move rfl) rfl rfl rfl ?_
    refine TO.y (Y.extract rfl rfl) rfl rfl rfl ?_
    refine TO.y (Y.extract rfl rfl) rfl rfl rfl ?_
    refine TO.y (Y.extract rfl rfl) rfl rfl rfl ?_
    refine TO.ef (Ef.alloc kz39 rfl) rfl rfl rfl (fun B18 => ?_)
    refine TO.ef0 (Ef.store_box (us := [Y17.1, Y17.2.1, .int .i64 R15.1.Seq, Y17.2.2]) (vs' := [Y17.1, Y17.2.1, .int .i64 R15.1.Seq, Y17.2.2]) (is' := [.box B18 39 [Y17.1, Y17.2.1, .int .i64 R15.1.Seq, Y17.2.2], .own Y17.1 (lc R15.1.Mem), .own Y17.2.1 (lc R15.1.Tables), .own Y17.2.2 (lc R15.1.Snaps), .box B14 39 [Y13.1, Y13.2.1, .int .i64 R6.Seq, Y13.2.2], .own Y13.1 (lc R6.Mem), .own Y13.2.1 (lc R6.Tables), .own Y13.2.2 (lc R6.Snaps), .box B12 39 [Y11.1, Y11.2.1, .int .i64 R9.1.Seq, Y11.2.2], .own Y11.1 (lc R9.1.Mem), .own Y11.2.1 (lc R9.1.Tables), .own Y11.2.2 (lc R9.1.Snaps), .own Y8.1 (lc R6.Mem), .own Y8.2.1 (lc R6.Tables), .own Y8.2.2 (lc R6.Snaps), .box B1 36 [V_aE0, V_aE1, .int .i64 aE.Seq, V_aE3]]) 0 kk39 rfl rfl rfl (Cel.agg ⟨(One.can (Can.own 1 rfl)), (One.can (Can.own 2 rfl)), (One.plain rfl), (One.can (Can.own 3 rfl)), trivial⟩) rfl rfl rfl rfl) rfl rfl (fun _ => ?_)
    refine TO.y (Y.assign rfl) rfl rfl rfl ?_
    refine TO.y (Y.assign rfl) rfl rfl rfl ?_
    refine TO.nil ?_
    refine TE.next ?_
    refine TW.seq ?_
    refine TW.seq ?_
    refine TW.joinBX (τ := Bool) (X := Unit) (fun T _ => [(1, .pointer (some ⟨B1, 0, none⟩)), (4, .pointer (some ⟨B12, 0, none⟩)), (5, .int .i64 R9.2.1), (6, .bool R9.2.2), (7, .pointer (some ⟨B14, 0, none⟩)), (8, .pointer (some ⟨B18, 0, none⟩)), (9, .int .i64 R15.2.1), (10, .bool R15.2.2), (50, .bool T)]) (fun _ _ => [.box B1 36 [V_aE0, V_aE1, .int .i64 aE.Seq, V_aE3], .box B12 39 [Y11.1, Y11.2.1, .int .i64 R9.1.Seq, Y11.2.2], .box B14 39 [Y13.1, Y13.2.1, .int .i64 R6.Seq, Y13.2.2], .box B18 39 [Y17.1, Y17.2.1, .int .i64 R15.1.Seq, Y17.2.2], .own Y11.1 (lc R9.1.Mem), .own Y11.2.1 (lc R9.1.Tables), .own Y11.2.2 (lc R9.1.Snaps), .own Y13.1 (lc R6.Mem), .own Y13.2.1 (lc R6.Tables), .own Y13.2.2 (lc R6.Snaps), .own Y17.1 (lc R15.1.Mem), .own Y17.2.1 (lc R15.1.Tables), .own Y17.2.2 (lc R15.1.Snaps)]) ?_ (fun T19 X20 => ?_)
    · refine TW.region ?_
      refine TO.y (Y.load_box (v := .agg #[Y17.1, Y17.2.1, .int .i64 R15.1.Seq, Y17.2.2]) 0 kk39 rfl rfl rfl) rfl rfl rfl ?_
      refine TO.y (Y.load_box (v := .agg #[Y11.1, Y11.2.1, .int .i64 R9.1.Seq, Y11.2.2]) 8 kk39 rfl rfl rfl) rfl rfl rfl ?_
      refine TO.bind fun R21 H22 => ?_
      refine TO.ef (Ef.call (rest := [.box B18 39 [Y17.1, Y17.2.1, .int .i64 R15.1.Seq, Y17.2.2], .own Y17.1 (lc R15.1.Mem), .own Y17.2.1 (lc R15.1.Tables), .own Y17.2.2 (lc R15.1.Snaps), .box B14 39 [Y13.1, Y13.2.1, .int .i64 R6.Seq, Y13.2.2], .own Y13.1 (lc R6.Mem), .own Y13.2.1 (lc R6.Tables), .own Y13.2.2 (lc R6.Snaps), .box B12 39 [Y11.1, Y11.2.1, .int .i64 R9.1.Seq, Y11.2.2], .own Y11.1 (lc R9.1.Mem), .own Y11.2.1 (lc R9.1.Tables), .own Y11.2.2 (lc R9.1.Snaps), .own Y8.1 (lc R6.Mem), .own Y8.2.1 (lc R6.Tables), .own Y8.2.2 (lc R6.Snaps), .box B1 36 [V_aE0, V_aE1, .int .i64 aE.Seq, V_aE3]]) [0, 0, 0, 0, 0, 0, 0, 0, 0, 0, 0, 0, 0, 0, 0, 0] (laws_eqEng_con R15.1 R9.1 Y17.1 Y17.2.1 Y17.2.2 Y11.1 Y11.2.1 Y11.2.2 R21 H22) kc22 rfl rfl ⟨(Can.own 1 rfl), (Can.own 2 rfl), (Can.own 3 rfl), (Can.own 9 rfl), (Can.own 10 rfl), (Can.own 11 rfl), trivial⟩) rfl rfl rfl (fun _ => ?_)
      refine TO.y (Y.not rfl) rfl rfl rfl ?_
      refine TO.y (Y.move rfl) rfl rfl rfl ?_
      refine TO.ite (b := !R21) (fun H24 => ?_) (fun H24 => ?_)
      · refine TO.off (Gd.at 4 false 41 (!R21) rfl rfl rfl (beq_tf H24)) rfl rfl ?_
        refine TO.off (Gd.at 4 false 41 (!R21) rfl rfl rfl (beq_tf H24)) rfl rfl ?_
        refine TO.off (Gd.at 4 false 41 (!R21) rfl rfl rfl (beq_tf H24)) rfl rfl ?_
        refine TO.y (Y.pick_t H24 rfl rfl) rfl rfl rfl ?_
        refine TO.y (Y.move rfl) rfl rfl rfl ?_
        refine TO.off (Gd.at 9 false 46 true rfl rfl rfl rfl) rfl rfl ?_
        refine TO.off (Gd.at 9 false 46 true rfl rfl rfl rfl) rfl rfl ?_
        refine TO.off (Gd.at 9 false 46 true rfl rfl rfl rfl) rfl rfl ?_
        refine TO.y (Y.pick_t rfl rfl rfl) rfl rfl rfl ?_
        refine TO.nil ?_
        exact TE.jb_go () [15, 8, 4, 0, 6, 6, 6, 3, 3, 3, 0, 0, 0] ⟨rfl, rfl, rfl, rfl, rfl, rfl, rfl, rfl, rfl, trivial⟩ rfl
      · refine TO.y (Y.move rfl) (Gd.at 4 false 41 (!R21) rfl rfl rfl (beq_ff H24)) rfl rfl ?_
        refine TO.y (Y.move rfl) (Gd.at 4 false 41 (!R21) rfl rfl rfl (beq_ff H24)) rfl rfl ?_
        refine TO.y (Y.neq rfl rfl) (Gd.at 4 false 41 (!R21) rfl rfl rfl (beq_ff H24)) rfl rfl ?_
        refine TO.y (Y.pick_f H24 rfl rfl) rfl rfl rfl ?_
        refine TO.y (Y.move rfl) rfl rfl rfl ?_
        refine TO.ite (b := !(decide (R15.2.1 = R9.2.1))) (fun H25 => ?_) (fun H25 => ?_)
        · refine TO.off (Gd.at 9 false 46 (!(decide (R15.2.1 = R9.2.1))) rfl rfl rfl (beq_tf H25)) rfl rfl ?_
          refine TO.off (Gd.at 9 false 46 (!(decide (R15.2.1 = R9.2.1))) rfl rfl rfl (beq_tf H25)) rfl rfl ?_
          refine TO.off (Gd.at 9 false 46 (!(decide (R15.2.1 = R9.2.1))) rfl rfl rfl (beq_tf H25)) rfl rfl ?_
          refine TO.y (Y.pick_t H25 rfl rfl) rfl rfl rfl ?_
          refine TO.nil ?_
          exact TE.jb_go () [15, 8, 4, 0, 6, 6, 6, 3, 3, 3, 0, 0, 0] ⟨rfl, rfl, rfl, rfl, rfl, rfl, rfl, rfl, rfl, trivial⟩ rfl
        · refine TO.y (Y.move rfl) (Gd.at 9 false 46 (!(decide (R15.2.1 = R9.2.1))) rfl rfl rfl (beq_ff H25)) rfl rfl ?_
          refine TO.y (Y.move rfl) (Gd.at 9 false 46 (!(decide (R15.2.1 = R9.2.1))) rfl rfl rfl (beq_ff H25)) rfl rfl ?_
          refine TO.y (Y.neb kb4 rfl rfl) (Gd.at 9 false 46 (!(decide (R15.2.1 = R9.2.1))) rfl rfl rfl (beq_ff H25)) rfl rfl ?_
          refine TO.y (Y.pick_f H25 rfl rfl) rfl rfl rfl ?_
          refine TO.nil ?_
          exact TE.jb_go () [15, 8, 4, 0, 6, 6, 6, 3, 3, 3, 0, 0, 0] ⟨rfl, rfl, rfl, rfl, rfl, rfl, rfl, rfl, rfl, trivial⟩ rfl
    · refine TE.next ?_
      refine TW.cond rfl (fun H26 => ?_) (fun H26 => ?_)
      · refine TW.seq ?_
        refine TW.region ?_
        refine TO.y (Y.assign rfl) rfl rfl rfl ?_
        refine TO.nil ?_
        refine TE.next ?_
        refine TW.ret ?_
        refine TE.then_ret ?_
        exact TE.leaf fun _ _ hf_ hs_ => ret_any (rs := [.tmp 2]) (vs := [.bool false]) (.inl rfl) rfl ⟨rfl, trivial⟩ hf_ hs_ ⟨(), rfl, hs_.pulls [] rfl⟩
      · refine TW.skip ?_
        refine TE.next ?_
        refine TW.seq ?_
        refine TW.seq ?_
        refine TW.draw (isH := [.box B1 36 [V_aE0, V_aE1, .int .i64 aE.Seq, V_aE3], .box B12 39 [Y11.1, Y11.2.1, .int .i64 R9.1.Seq, Y11.2.2], .box B14 39 [Y13.1, Y13.2.1, .int .i64 R6.Seq, Y13.2.2], .box B18 39 [Y17.1, Y17.2.1, .int .i64 R15.1.Seq, Y17.2.2], .own Y11.1 (lc R9.1.Mem), .own Y11.2.1 (lc R9.1.Tables), .own Y11.2.2 (lc R9.1.Snaps), .own Y13.1 (lc R6.Mem), .own Y13.2.1 (lc R6.Tables), .own Y13.2.2 (lc R6.Snaps), .own Y17.1 (lc R15.1.Mem), .own Y17.2.1 (lc R15.1.Tables), .own Y17.2.2 (lc R15.1.Snaps)]) hMix ?_
        refine TA.y (listed' := #[true, false, false, false, false]) 0 [0, 0, 0, 0, 0, 0, 0, 0, 0, 0, 0, 0, 0] rfl (Y.load_box (v := .agg #[Y13.1, Y13.2.1, .int .i64 R6.Seq, Y13.2.2]) 2 kk39 rfl rfl rfl) rfl rfl rfl (by kernel_rfl) (by kernel_rfl) (by kernel_rfl) rfl rfl ?_
        refine TA.y (listed' := #[true, true, false, false, false]) 1 [0, 0, 0, 0, 0, 0, 0, 0, 0, 0, 0, 0, 0] rfl (Y.load_box (v := .agg #[V_aE0, V_aE1, .int .i64 aE.Seq, V_aE3]) 0 kk36 rfl rfl rfl) rfl rfl rfl (by kernel_rfl) (by kernel_rfl) (by kernel_rfl) rfl rfl ?_
        refine TA.one 2 (by kernel_rfl) ?_
        refine TX.ef (listed' := #[true, true, true, false, false]) [3, 3, 3, 3, 3, 3, 3, 3, 3, 3, 3, 3, 3] rfl (Ef.call (rest := [.box B1 36 [V_aE0, V_aE1, .int .i64 aE.Seq, V_aE3], .box B12 39 [Y11.1, Y11.2.1, .int .i64 R9.1.Seq, Y11.2.2], .box B14 39 [Y13.1, Y13.2.1, .int .i64 R6.Seq, Y13.2.2], .box B18 39 [Y17.1, Y17.2.1, .int .i64 R15.1.Seq, Y17.2.2], .own Y11.1 (lc R9.1.Mem), .own Y11.2.1 (lc R9.1.Tables), .own Y11.2.2 (lc R9.1.Snaps), .own Y13.1 (lc R6.Mem), .own Y13.2.1 (lc R6.Tables), .own Y13.2.2 (lc R6.Snaps), .own Y17.1 (lc R15.1.Mem), .own Y17.2.1 (lc R15.1.Tables), .own Y17.2.2 (lc R15.1.Snaps)]) [0, 0, 0, 0, 0, 0, 0, 0, 0, 0, 0, 0, 0] (laws_toEng_con aE V_aE0 V_aE1 V_aE3 R6 H7) kc20 rfl rfl ⟨(Base.can HB_V_aE0), (Base.can HB_V_aE1), (Base.can HB_V_aE3), trivial⟩) rfl rfl rfl rfl (fun _ => rfl) (fun Y27 => ?_)
        refine TA.bind fun R28 H29 => ?_
        refine TA.one 3 (by kernel_rfl) ?_
        refine TX.ef (listed' := #[true, true, true, true, false]) [3, 3, 3, 3, 3, 3, 3, 3, 3, 3, 3, 3, 3] rfl (Ef.call (rest := [.own Y27.1 (lc R6.Mem), .own Y27.2.1 (lc R6.Tables), .own Y27.2.2 (lc R6.Snaps), .box B1 36 [V_aE0, V_aE1, .int .i64 aE.Seq, V_aE3], .box B12 39 [Y11.1, Y11.2.1, .int .i64 R9.1.Seq, Y11.2.2], .box B14 39 [Y13.1, Y13.2.1, .int .i64 R6.Seq, Y13.2.2], .box B18 39 [Y17.1, Y17.2.1, .int .i64 R15.1.Seq, Y17.2.2], .own Y11.1 (lc R9.1.Mem), .own Y11.2.1 (lc R9.1.Tables), .own Y11.2.2 (lc R9.1.Snaps), .own Y13.1 (lc R6.Mem), .own Y13.2.1 (lc R6.Tables), .own Y13.2.2 (lc R6.Snaps), .own Y17.1 (lc R15.1.Mem), .own Y17.2.1 (lc R15.1.Tables), .own Y17.2.2 (lc R15.1.Snaps)]) [0, 0, 0, 0, 0, 0, 0, 0, 0, 0, 0, 0, 0, 0, 0, 0] (laws_eqEng_con R6 R6 Y13.1 Y13.2.1 Y13.2.2 Y27.1 Y27.2.1 Y27.2.2 R28 H29) kc22 rfl rfl ⟨(Can.own 10 rfl), (Can.own 11 rfl), (Can.own 12 rfl), (Can.own 0 rfl), (Can.own 1 rfl), (Can.own 2 rfl), trivial⟩) rfl rfl rfl rfl (fun _ => rfl) (fun _ => ?_)
        refine TA.y (listed' := #[true, true, true, true, true]) 4 [3, 3, 3, 3, 3, 3, 3, 3, 3, 3, 3, 3, 3] rfl (Y.not rfl) rfl rfl rfl (by kernel_rfl) (by kernel_rfl) (by kernel_rfl) rfl rfl ?_
        refine TA.nil (by kernel_rfl) ?_
        refine TE.next ?_
        refine TW.cond rfl (fun H31 => ?_) (fun H31 => ?_)
        · refine TW.seq ?_
          refine TW.region ?_
          refine TO.y (Y.assign rfl) rfl rfl rfl ?_
          refine TO.nil ?_
          refine TE.next ?_
          refine TW.ret ?_
          refine TE.then_ret ?_
          exact TE.leaf fun _ _ hf_ hs_ => ret_any (rs := [.tmp 2]) (vs := [.bool false]) (.inl rfl) rfl ⟨rfl, trivial⟩ hf_ hs_ ⟨(), rfl, hs_.pulls [] rfl⟩
        · refine TW.skip ?_
          refine TE.next ?_
          refine TW.seq ?_
          refine TW.region ?_
          refine TO.y (Y.assign rfl) rfl rfl rfl ?_
          refine TO.nil ?_
          refine TE.next ?_
          refine TW.seq ?_
          refine TW.region ?_
          refine TO.y (Y.load_box (v := .agg #[Y13.1, Y13.2.1, .int .i64 R6.Seq, Y13.2.2]) 5 kk39 rfl rfl rfl) rfl rfl rfl ?_
          refine TO.y (Y.move rfl) rfl rfl rfl ?_
          refine TO.bind fun R32 H33 => ?_
          refine TO.ef (Ef.call (rest := [.own Y27.1 (lc R6.Mem), .own Y27.2.1 (lc R6.Tables), .own Y27.2.2 (lc R6.Snaps), .box B1 36 [V_aE0, V_aE1, .int .i64 aE.Seq, V_aE3], .box B12 39 [Y11.1, Y11.2.1, .int .i64 R9.1.Seq, Y11.2.2], .box B14 39 [Y13.1, Y13.2.1, .int .i64 R6.Seq, Y13.2.2], .box B18 39 [Y17.1, Y17.2.1, .int .i64 R15.1.Seq, Y17.2.2], .own Y11.1 (lc R9.1.Mem), .own Y11.2.1 (lc R9.1.Tables), .own Y11.2.2 (lc R9.1.Snaps), .own Y17.1 (lc R15.1.Mem), .own Y17.2.1 (lc R15.1.Tables), .own Y17.2.2 (lc R15.1.Snaps)]) [10, 10, 10, 0, 0, 0, 0, 0, 0, 0, 0, 0, 0, 0, 0, 0] (laws_markEng_con R6 (1 : Int) Y13.1 Y13.2.1 Y13.2.2 R32 H33) kc23 rfl rfl trivial) rfl rfl rfl (fun _ => ?_)
          refine TO.y (Y.assign rfl) rfl rfl rfl ?_
          refine TO.nil ?_
          refine TE.next ?_
          refine TW.seq ?_
          refine TW.seq ?_
          refine TW.joinBX (τ := Bool) (X := Unit) (fun T _ => [(1, .pointer (some ⟨B1, 0, none⟩)), (4, .pointer (some ⟨B12, 0, none⟩)), (5, .int .i64 R9.2.1), (6, .bool R9.2.2), (8, .pointer (some ⟨B18, 0, none⟩)), (76, .bool T)]) (fun _ _ => [.box B1 36 [V_aE0, V_aE1, .int .i64 aE.Seq, V_aE3], .box B12 39 [Y11.1, Y11.2.1, .int .i64 R9.1.Seq, Y11.2.2], .box B18 39 [Y17.1, Y17.2.1, .int .i64 R15.1.Seq, Y17.2.2], .own Y11.1 (lc R9.1.Mem), .own Y11.2.1 (lc R9.1.Tables), .own Y11.2.2 (lc R9.1.Snaps), .own Y17.1 (lc R15.1.Mem), .own Y17.2.1 (lc R15.1.Tables), .own Y17.2.2 (lc R15.1.Snaps)]) ?_ (fun T35 X36 => ?_)
          · refine TW.region ?_
            refine TO.y (Y.move rfl) rfl rfl rfl ?_
            refine TO.y (Y.lss rfl rfl) rfl rfl rfl ?_
            refine TO.y (Y.move rfl) rfl rfl rfl ?_
            refine TO.ite (b := decide (R32.1 < (0 : Int))) (fun H37 => ?_) (fun H37 => ?_)
            · refine TO.off (Gd.at 2 false 61 (decide (R32.1 < (0 : Int))) rfl rfl rfl (beq_tf H37)) rfl rfl ?_
              refine TO.off (Gd.at 2 false 61 (decide (R32.1 < (0 : Int))) rfl rfl rfl (beq_tf H37)) rfl rfl ?_
              refine TO.off (Gd.at 2 false 61 (decide (R32.1 < (0 : Int))) rfl rfl rfl (beq_tf H37)) rfl rfl ?_
              refine TO.off (Gd.at 2 false 61 (decide (R32.1 < (0 : Int))) rfl rfl rfl (beq_tf H37)) rfl rfl ?_
              refine TO.y (Y.pick_t H37 rfl rfl) rfl rfl rfl ?_
              refine TO.y (Y.move rfl) rfl rfl rfl ?_
              refine TO.off (Gd.at 8 false 67 true rfl rfl rfl rfl) rfl rfl ?_
              refine TO.off (Gd.at 8 false 67 true rfl rfl rfl rfl) rfl rfl ?_
              refine TO.off (Gd.at 8 false 67 true rfl rfl rfl rfl) rfl rfl ?_
              refine TO.y (Y.pick_t rfl rfl rfl) rfl rfl rfl ?_
              refine TO.y (Y.move rfl) rfl rfl rfl ?_
              refine TO.off (Gd.at 13 false 72 true rfl rfl rfl rfl) rfl rfl ?_
              refine TO.off (Gd.at 13 false 72 true rfl rfl rfl rfl) rfl rfl ?_
              refine TO.off (Gd.at 13 false 72 true rfl rfl rfl rfl) rfl rfl ?_
              refine TO.y (Y.pick_t rfl rfl rfl) rfl rfl rfl ?_
              refine TO.nil ?_
              exact TE.jb_go () [6, 6, 7, 7, 7, 7, 7, 7, 7] ⟨rfl, rfl, rfl, rfl, rfl, rfl, trivial⟩ rfl
            · refine TO.y (Y.load_box (v := .agg #[Y17.1, Y17.2.1, .int .i64 R15.1.Seq, Y17.2.2]) 9 kk39 rfl rfl rfl) (Gd.at 2 false 61 (decide (R32.1 < (0 : Int))) rfl rfl rfl (beq_ff H37)) rfl rfl ?_
              refine TO.y (Y.load_box (v := .agg #[Y11.1, Y11.2.1, .int .i64 R9.1.Seq, Y11.2.2]) 7 kk39 rfl rfl rfl) (Gd.at 2 false 61 (decide (R32.1 < (0 : Int))) rfl rfl rfl (beq_ff H37)) rfl rfl ?_
              refine TO.bind fun R38 H39 => ?_
              refine TO.ef (Ef.call (rest := [.own Y13.1 (lc R32.2.1), .own Y13.2.1 (lc R32.2.2.1), .own Y13.2.2 (lc R32.2.2.2), .own Y27.1 (lc R6.Mem), .own Y27.2.1 (lc R6.Tables), .own Y27.2.2 (lc R6.Snaps), .box B1 36 [V_aE0, V_aE1, .int .i64 aE.Seq, V_aE3], .box B12 39 [Y11.1, Y11.2.1, .int .i64 R9.1.Seq, Y11.2.2], .box B14 39 [Y13.1, Y13.2.1, .int .i64 R6.Seq, Y13.2.2], .box B18 39 [Y17.1, Y17.2.1, .int .i64 R15.1.Seq, Y17.2.2], .own Y11.1 (lc R9.1.Mem), .own Y11.2.1 (lc R9.1.Tables), .own Y11.2.2 (lc R9.1.Snaps), .own Y17.1 (lc R15.1.Mem), .own Y17.2.1 (lc R15.1.Tables), .own Y17.2.2 (lc R15.1.Snaps)]) [0, 0, 0, 0, 0, 0, 0, 0, 0, 0, 0, 0, 0, 0, 0, 0] (laws_eqEng_con R15.1 R9.1 Y17.1 Y17.2.1 Y17.2.2 Y11.1 Y11.2.1 Y11.2.2 R38 H39) kc22 rfl rfl ⟨(Can.own 13 rfl), (Can.own 14 rfl), (Can.own 15 rfl), (Can.own 10 rfl), (Can.own 11 rfl), (Can.own 12 rfl), trivial⟩) (Gd.at 2 false 61 (decide (R32.1 < (0 : Int))) rfl rfl rfl (beq_ff H37)) rfl rfl (fun _ => ?_)
              refine TO.y (Y.not rfl) (Gd.at 2 false 61 (decide (R32.1 < (0 : Int))) rfl rfl rfl (beq_ff H37)) rfl rfl ?_
              refine TO.y (Y.pick_f H37 rfl rfl) rfl rfl rfl ?_
              refine TO.y (Y.move rfl) rfl rfl rfl ?_
              refine TO.ite (b := !R38) (fun H41 => ?_) (fun H41 => ?_)
              · refine TO.off (Gd.at 8 false 67 (!R38) rfl rfl rfl (beq_tf H41)) rfl rfl ?_
                refine TO.off (Gd.at 8 false 67 (!R38) rfl rfl rfl (beq_tf H41)) rfl rfl ?_
                refine TO.off (Gd.at 8 false 67 (!R38) rfl rfl rfl (beq_tf H41)) rfl rfl ?_
                refine TO.y (Y.pick_t H41 rfl rfl) rfl rfl rfl ?_
                refine TO.y (Y.move rfl) rfl rfl rfl ?_
                refine TO.off (Gd.at 13 false 72 true rfl rfl rfl rfl) rfl rfl ?_
                refine TO.off (Gd.at 13 false 72 true rfl rfl rfl rfl) rfl rfl ?_
                refine TO.off (Gd.at 13 false 72 true rfl rfl rfl rfl) rfl rfl ?_
                refine TO.y (Y.pick_t rfl rfl rfl) rfl rfl rfl ?_
                refine TO.nil ?_
                exact TE.jb_go () [6, 6, 7, 7, 7, 7, 7, 7, 7] ⟨rfl, rfl, rfl, rfl, rfl, rfl, trivial⟩ rfl
              · refine TO.y (Y.move rfl) (Gd.at 8 false 67 (!R38) rfl rfl rfl (beq_ff H41)) rfl rfl ?_
                refine TO.y (Y.move rfl) (Gd.at 8 false 67 (!R38) rfl rfl rfl (beq_ff H41)) rfl rfl ?_
                refine TO.y (Y.neq rfl rfl) (Gd.at 8 false 67 (!R38) rfl rfl rfl (beq_ff H41)) rfl rfl ?_
                refine TO.y (Y.pick_f H41 rfl rfl) rfl rfl rfl ?_
                refine TO.y (Y.move rfl) rfl rfl rfl ?_
                refine TO.ite (b := !(decide (R15.2.1 = R9.2.1))) (fun H42 => ?_) (fun H42 => ?_)
                · refine TO.off (Gd.at 13 false 72 (!(decide (R15.2.1 = R9.2.1))) rfl rfl rfl (beq_tf H42)) rfl rfl ?_
                  refine TO.off (Gd.at 13 false 72 (!(decide (R15.2.1 = R9.2.1))) rfl rfl rfl (beq_tf H42)) rfl rfl ?_
                  refine TO.off (Gd.at 13 false 72 (!(decide (R15.2.1 = R9.2.1))) rfl rfl rfl (beq_tf H42)) rfl rfl ?_
                  refine TO.y (Y.pick_t H42 rfl rfl) rfl rfl rfl ?_
                  refine TO.nil ?_
                  exact TE.jb_go () [6, 6, 7, 7, 7, 7, 7, 7, 7] ⟨rfl, rfl, rfl, rfl, rfl, rfl, trivial⟩ rfl
                · refine TO.y (Y.move rfl) (Gd.at 13 false 72 (!(decide (R15.2.1 = R9.2.1))) rfl rfl rfl (beq_ff H42)) rfl rfl ?_
                  refine TO.y (Y.move rfl) (Gd.at 13 false 72 (!(decide (R15.2.1 = R9.2.1))) rfl rfl rfl (beq_ff H42)) rfl rfl ?_
                  refine TO.y (Y.neb kb4 rfl rfl) (Gd.at 13 false 72 (!(decide (R15.2.1 = R9.2.1))) rfl rfl rfl (beq_ff H42)) rfl rfl ?_
                  refine TO.y (Y.pick_f H42 rfl rfl) rfl rfl rfl ?_
                  refine TO.nil ?_
                  exact TE.jb_go () [6, 6, 7, 7, 7, 7, 7, 7, 7] ⟨rfl, rfl, rfl, rfl, rfl, rfl, trivial⟩ rfl
          · refine TE.next ?_
            refine TW.cond rfl (fun H43 => ?_) (fun H43 => ?_)
            · refine TW.seq ?_
              refine TW.region ?_
              refine TO.y (Y.assign rfl) rfl rfl rfl ?_
              refine TO.nil ?_
              refine TE.next ?_
              refine TW.ret ?_
              refine TE.then_ret ?_
              exact TE.leaf fun _ _ hf_ hs_ => ret_any (rs := [.tmp 2]) (vs := [.bool false]) (.inl rfl) rfl ⟨rfl, trivial⟩ hf_ hs_ ⟨(), rfl, hs_.pulls [] rfl⟩
            · refine TW.skip ?_
              refine TE.next ?_
              refine TW.seq ?_
              refine TW.region ?_
              refine TO.y (Y.assign rfl) rfl rfl rfl ?_
              refine TO.nil ?_
              refine TE.next ?_
              refine TW.seq ?_
              refine TW.region ?_
              refine TO.y (Y.load_box (v := .agg #[Y17.1, Y17.2.1, .int .i64 R15.1.Seq, Y17.2.2]) 2 kk39 rfl rfl rfl) rfl rfl rfl ?_
              refine TO.y (Y.move rfl) rfl rfl rfl ?_
              refine TO.bind fun R44 H45 => ?_
              refine TO.ef (Ef.call (rest := [.box B1 36 [V_aE0, V_aE1, .int .i64 aE.Seq, V_aE3], .box B12 39 [Y11.1, Y11.2.1, .int .i64 R9.1.Seq, Y11.2.2], .box B18 39 [Y17.1, Y17.2.1, .int .i64 R15.1.Seq, Y17.2.2], .own Y11.1 (lc R9.1.Mem), .own Y11.2.1 (lc R9.1.Tables), .own Y11.2.2 (lc R9.1.Snaps)]) [6, 6, 6, 0, 0, 0, 0, 0, 0] (laws_markEng_con R15.1 (1 : Int) Y17.1 Y17.2.1 Y17.2.2 R44 H45) kc23 rfl rfl trivial) rfl rfl rfl (fun _ => ?_)
              refine TO.y (Y.assign rfl) rfl rfl rfl ?_
              refine TO.nil ?_
              refine TE.next ?_
              refine TW.seq ?_
              refine TW.region ?_
              refine TO.y (Y.assign rfl) rfl rfl rfl ?_
              refine TO.nil ?_
              refine TE.next ?_
              refine TW.seq ?_
              refine TW.region ?_
              refine TO.y (Y.load_box (v := .agg #[Y17.1, Y17.2.1, .int .i64 R15.1.Seq, Y17.2.2]) 5 kk39 rfl rfl rfl) rfl rfl rfl ?_
              refine TO.y (Y.move rfl) rfl rfl rfl ?_
              refine TO.bind fun R47 H48 => ?_
              refine TO.ef (Ef.call (rest := [.own Y17.1 (lc R44.2.1), .own Y17.2.1 (lc R44.2.2.1), .own Y17.2.2 (lc R44.2.2.2), .box B1 36 [V_aE0, V_aE1, .int .i64 aE.Seq, V_aE3], .box B12 39 [Y11.1, Y11.2.1, .int .i64 R9.1.Seq, Y11.2.2], .box B18 39 [Y17.1, Y17.2.1, .int .i64 R15.1.Seq, Y17.2.2], .own Y11.1 (lc R9.1.Mem), .own Y11.2.1 (lc R9.1.Tables), .own Y11.2.2 (lc R9.1.Snaps)]) [0, 0, 0, 0, 0, 0, 0, 0, 0] (laws_heldEng_con ({ Mem := R44.2.1, Tables := R44.2.2.1, Seq := R15.1.Seq, Snaps := R44.2.2.2 : Eng }) (1 : Int) Y17.1 Y17.2.1 Y17.2.2 R47 H48) kc24 rfl rfl ⟨(Can.own 0 rfl), (Can.own 1 rfl), (Can.own 2 rfl), trivial⟩) rfl rfl rfl (fun _ => ?_)
              refine TO.y (Y.assign rfl) rfl rfl rfl ?_
              refine TO.nil ?_
              refine TE.next ?_
              refine TW.seq ?_
              refine TW.seq ?_
              refine TW.region ?_
              refine TO.y (Y.move rfl) rfl rfl rfl ?_
              refine TO.y (Y.lss rfl rfl) rfl rfl rfl ?_
              refine TO.nil ?_
              refine TE.next ?_
              refine TW.cond rfl (fun H50 => ?_) (fun H50 => ?_)
              · refine TW.seq ?_
                refine TW.region ?_
                refine TO.y (Y.assign rfl) rfl rfl rfl ?_
                refine TO.nil ?_
                refine TE.next ?_
                refine TW.ret ?_
                refine TE.then_ret ?_
                exact TE.leaf fun _ _ hf_ hs_ => ret_any (rs := [.tmp 2]) (vs := [.bool false]) (.inl rfl) rfl ⟨rfl, trivial⟩ hf_ hs_ ⟨(), rfl, hs_.pulls [] rfl⟩
              · refine TW.skip ?_
                refine TE.next ?_
                refine TW.seq ?_
                refine TW.seq ?_
                refine TW.region ?_
                refine TO.y (Y.move rfl) rfl rfl rfl ?_
                refine TO.y (Y.move rfl) rfl rfl rfl ?_
                refine TO.y (Y.neq rfl rfl) rfl rfl rfl ?_
                refine TO.nil ?_
                refine TE.next ?_
                refine TW.cond rfl (fun H51 => ?_) (fun H51 => ?_)
                · refine TW.seq ?_
                  refine TW.region ?_
                  refine TO.y (Y.assign rfl) rfl rfl rfl ?_
                  refine TO.nil ?_
                  refine TE.next ?_
                  refine TW.ret ?_
                  refine TE.then_ret ?_
                  exact TE.leaf fun _ _ hf_ hs_ => ret_any (rs := [.tmp 2]) (vs := [.bool false]) (.inl rfl) rfl ⟨rfl, trivial⟩ hf_ hs_ ⟨(), rfl, hs_.pulls [] rfl⟩
                · refine TW.skip ?_
                  refine TE.next ?_
                  refine TW.seq ?_
                  refine TW.region ?_
                  refine TO.y (Y.load_box (v := .agg #[V_aE0, V_aE1, .int .i64 aE.Seq, V_aE3]) 3 kk36 rfl rfl rfl) rfl rfl rfl ?_
                  refine TO.ef (Ef.call (rest := [.own Y17.1 (lc R44.2.1), .own Y17.2.1 (lc R44.2.2.1), .own Y17.2.2 (lc R44.2.2.2), .box B1 36 [V_aE0, V_aE1, .int .i64 aE.Seq, V_aE3], .box B12 39 [Y11.1, Y11.2.1, .int .i64 R9.1.Seq, Y11.2.2], .box B18 39 [Y17.1, Y17.2.1, .int .i64 R15.1.Seq, Y17.2.2], .own Y11.1 (lc R9.1.Mem), .own Y11.2.1 (lc R9.1.Tables), .own Y11.2.2 (lc R9.1.Snaps)]) [0, 0, 0, 0, 0, 0, 0, 0, 0] (laws_toEng_con aE V_aE0 V_aE1 V_aE3 R6 H7) kc20 rfl rfl ⟨(Base.can HB_V_aE0), (Base.can HB_V_aE1), (Base.can HB_V_aE3), trivial⟩) rfl rfl rfl (fun Y52 => ?_)
                  refine TO.ef (Ef.call (rest := [.own Y52.1 (lc R6.Mem), .own Y52.2.1 (lc R6.Tables), .own Y52.2.2 (lc R6.Snaps), .own Y17.1 (lc R44.2.1), .own Y17.2.1 (lc R44.2.2.1), .own Y17.2.2 (lc R44.2.2.2), .box B1 36 [V_aE0, V_aE1, .int .i64 aE.Seq, V_aE3], .box B12 39 [Y11.1, Y11.2.1, .int .i64 R9.1.Seq, Y11.2.2], .box B18 39 [Y17.1, Y17.2.1, .int .i64 R15.1.Seq, Y17.2.2], .own Y11.1 (lc R9.1.Mem), .own Y11.2.1 (lc R9.1.Tables), .own Y11.2.2 (lc R9.1.Snaps)]) [0, 0, 0, 0, 0, 0, 0, 0, 0, 0, 0, 0] (impl_EngSnap_con R6 Y52.1 Y52.2.1 Y52.2.2 R15 H16) kc21 rfl rfl ⟨(Can.own 0 rfl), (Can.own 1 rfl), (Can.own 2 rfl), trivial⟩) rfl rfl rfl (fun Y53 => ?_)
                  refine TO.y (Y.move rfl) rfl rfl rfl ?_
                  refine TO.y (Y.extract rfl rfl) rfl rfl rfl ?_
                  refine TO.y (Y.extract rfl rfl) rfl rfl rfl ?_
                  refine TO.y (Y.extract rfl rfl) rfl rfl rfl ?_
                  refine TO.ef (Ef.alloc kz39 rfl) rfl rfl rfl (fun B54 => ?_)
                  refine TO.ef0 (Ef.store_box (us := [Y53.1, Y53.2.1, .int .i64 R15.1.Seq, Y53.2.2]) (vs' := [Y53.1, Y53.2.1, .int .i64 R15.1.Seq, Y53.2.2]) (is' := [.box B54 39 [Y53.1, Y53.2.1, .int .i64 R15.1.Seq, Y53.2.2], .own Y53.1 (lc R15.1.Mem), .own Y53.2.1 (lc R15.1.Tables), .own Y53.2.2 (lc R15.1.Snaps), .own Y52.1 (lc R6.Mem), .own Y52.2.1 (lc R6.Tables), .own Y52.2.2 (lc R6.Snaps), .own Y17.1 (lc R44.2.1), .own Y17.2.1 (lc R44.2.2.1), .own Y17.2.2 (lc R44.2.2.2), .box B1 36 [V_aE0, V_aE1, .int .i64 aE.Seq, V_aE3], .box B12 39 [Y11.1, Y11.2.1, .int .i64 R9.1.Seq, Y11.2.2], .box B18 39 [Y17.1, Y17.2.1, .int .i64 R15.1.Seq, Y17.2.2], .own Y11.1 (lc R9.1.Mem), .own Y11.2.1 (lc R9.1.Tables), .own Y11.2.2 (lc R9.1.Snaps)]) 0 kk39 rfl rfl rfl (Cel.agg ⟨(One.can (Can.own 1 rfl)), (One.can (Can.own 2 rfl)), (One.plain rfl), (One.can (Can.own 3 rfl)), trivial⟩) rfl rfl rfl rfl) rfl rfl (fun _ => ?_)
                  refine TO.y (Y.assign rfl) rfl rfl rfl ?_
                  refine TO.y (Y.assign rfl) rfl rfl rfl ?_
                  refine TO.nil ?_
                  refine TE.next ?_
                  refine TW.seq ?_
                  refine TW.seq ?_
                  refine TW.joinBX (τ := Bool) (X := Unit) (fun T _ => [(8, .pointer (some ⟨B18, 0, none⟩)), (12, .int .i64 R44.1), (108, .bool T)]) (fun _ _ => [.box B18 39 [Y17.1, Y17.2.1, .int .i64 R15.1.Seq, Y17.2.2], .own Y17.1 (lc R44.2.1), .own Y17.2.1 (lc R44.2.2.1), .own Y17.2.2 (lc R44.2.2.2)]) ?_ (fun T55 X56 => ?_)
                  · refine TW.region ?_
                    refine TO.y (Y.load_box (v := .agg #[Y53.1, Y53.2.1, .int .i64 R15.1.Seq, Y53.2.2]) 0 kk39 rfl rfl rfl) rfl rfl rfl ?_
                    refine TO.y (Y.load_box (v := .agg #[Y11.1, Y11.2.1, .int .i64 R9.1.Seq, Y11.2.2]) 11 kk39 rfl rfl rfl) rfl rfl rfl ?_
                    refine TO.bind fun R57 H58 => ?_
                    refine TO.ef (Ef.call (rest := [.box B54 39 [Y53.1, Y53.2.1, .int .i64 R15.1.Seq, Y53.2.2], .own Y53.1 (lc R15.1.Mem), .own Y53.2.1 (lc R15.1.Tables), .own Y53.2.2 (lc R15.1.Snaps), .own Y52.1 (lc R6.Mem), .own Y52.2.1 (lc R6.Tables), .own Y52.2.2 (lc R6.Snaps), .own Y17.1 (lc R44.2.1), .own Y17.2.1 (lc R44.2.2.1), .own Y17.2.2 (lc R44.2.2.2), .box B1 36 [V_aE0, V_aE1, .int .i64 aE.Seq, V_aE3], .box B12 39 [Y11.1, Y11.2.1, .int .i64 R9.1.Seq, Y11.2.2], .box B18 39 [Y17.1, Y17.2.1, .int .i64 R15.1.Seq, Y17.2.2], .own Y11.1 (lc R9.1.Mem), .own Y11.2.1 (lc R9.1.Tables), .own Y11.2.2 (lc R9.1.Snaps)]) [0, 0, 0, 0, 0, 0, 0, 0, 0, 0, 0, 0, 0, 0, 0, 0] (laws_eqEng_con R15.1 R9.1 Y53.1 Y53.2.1 Y53.2.2 Y11.1 Y11.2.1 Y11.2.2 R57 H58) kc22 rfl rfl ⟨(Can.own 1 rfl), (Can.own 2 rfl), (Can.own 3 rfl), (Can.own 13 rfl), (Can.own 14 rfl), (Can.own 15 rfl), trivial⟩) rfl rfl rfl (fun _ => ?_)
                    refine TO.y (Y.not rfl) rfl rfl rfl ?_
                    refine TO.y (Y.move rfl) rfl rfl rfl ?_
                    refine TO.ite (b := !R57) (fun H60 => ?_) (fun H60 => ?_)
                    · refine TO.off (Gd.at 4 false 99 (!R57) rfl rfl rfl (beq_tf H60)) rfl rfl ?_
                      refine TO.off (Gd.at 4 false 99 (!R57) rfl rfl rfl (beq_tf H60)) rfl rfl ?_
                      refine TO.off (Gd.at 4 false 99 (!R57) rfl rfl rfl (beq_tf H60)) rfl rfl ?_
                      refine TO.y (Y.pick_t H60 rfl rfl) rfl rfl rfl ?_
                      refine TO.y (Y.move rfl) rfl rfl rfl ?_
                      refine TO.off (Gd.at 9 false 104 true rfl rfl rfl rfl) rfl rfl ?_
                      refine TO.off (Gd.at 9 false 104 true rfl rfl rfl rfl) rfl rfl ?_
                      refine TO.off (Gd.at 9 false 104 true rfl rfl rfl rfl) rfl rfl ?_
                      refine TO.y (Y.pick_t rfl rfl rfl) rfl rfl rfl ?_
                      refine TO.nil ?_
                      exact TE.jb_go () [12, 7, 7, 7] ⟨rfl, rfl, rfl, trivial⟩ rfl
                    · refine TO.y (Y.move rfl) (Gd.at 4 false 99 (!R57) rfl rfl rfl (beq_ff H60)) rfl rfl ?_
                      refine TO.y (Y.move rfl) (Gd.at 4 false 99 (!R57) rfl rfl rfl (beq_ff H60)) rfl rfl ?_
                      refine TO.y (Y.neq rfl rfl) (Gd.at 4 false 99 (!R57) rfl rfl rfl (beq_ff H60)) rfl rfl ?_
                      refine TO.y (Y.pick_f H60 rfl rfl) rfl rfl rfl ?_
                      refine TO.y (Y.move rfl) rfl rfl rfl ?_
                      refine TO.ite (b := !(decide (R15.2.1 = R9.2.1))) (fun H61 => ?_) (fun H61 => ?_)
                      · refine TO.off (Gd.at 9 false 104 (!(decide (R15.2.1 = R9.2.1))) rfl rfl rfl (beq_tf H61)) rfl rfl ?_
                        refine TO.off (Gd.at 9 false 104 (!(decide (R15.2.1 = R9.2.1))) rfl rfl rfl (beq_tf H61)) rfl rfl ?_
                        refine TO.off (Gd.at 9 false 104 (!(decide (R15.2.1 = R9.2.1))) rfl rfl rfl (beq_tf H61)) rfl rfl ?_
                        refine TO.y (Y.pick_t H61 rfl rfl) rfl rfl rfl ?_
                        refine TO.nil ?_
                        exact TE.jb_go () [12, 7, 7, 7] ⟨rfl, rfl, rfl, trivial⟩ rfl
                      · refine TO.y (Y.move rfl) (Gd.at 9 false 104 (!(decide (R15.2.1 = R9.2.1))) rfl rfl rfl (beq_ff H61)) rfl rfl ?_
                        refine TO.y (Y.move rfl) (Gd.at 9 false 104 (!(decide (R15.2.1 = R9.2.1))) rfl rfl rfl (beq_ff H61)) rfl rfl ?_
                        refine TO.y (Y.neb kb4 rfl rfl) (Gd.at 9 false 104 (!(decide (R15.2.1 = R9.2.1))) rfl rfl rfl (beq_ff H61)) rfl rfl ?_
                        refine TO.y (Y.pick_f H61 rfl rfl) rfl rfl rfl ?_
                        refine TO.nil ?_
                        exact TE.jb_go () [12, 7, 7, 7] ⟨rfl, rfl, rfl, trivial⟩ rfl
                  · refine TE.next ?_
                    refine TW.cond rfl (fun H62 => ?_) (fun H62 => ?_)
                    · refine TW.seq ?_
                      refine TW.region ?_
                      refine TO.y (Y.assign rfl) rfl rfl rfl ?_
                      refine TO.nil ?_
                      refine TE.next ?_
                      refine TW.ret ?_
                      refine TE.then_ret ?_
                      exact TE.leaf fun _ _ hf_ hs_ => ret_any (rs := [.tmp 2]) (vs := [.bool false]) (.inl rfl) rfl ⟨rfl, trivial⟩ hf_ hs_ ⟨(), rfl, hs_.pulls [] rfl⟩
                    · refine TW.skip ?_
                      refine TE.next ?_
                      refine TW.seq ?_
                      refine TW.region ?_
                      refine TO.y (Y.assign rfl) rfl rfl rfl ?_
                      refine TO.nil ?_
                      refine TE.next ?_
                      refine TW.seq ?_
                      refine TW.region ?_
                      refine TO.y (Y.load_box (v := .agg #[Y17.1, Y17.2.1, .int .i64 R15.1.Seq, Y17.2.2]) 0 kk39 rfl rfl rfl) rfl rfl rfl ?_
                      refine TO.y (Y.move rfl) rfl rfl rfl ?_
                      refine TO.ef (Ef.call (rest := [.box B18 39 [Y17.1, Y17.2.1, .int .i64 R15.1.Seq, Y17.2.2], .own Y17.1 (lc R44.2.1), .own Y17.2.1 (lc R44.2.2.1), .own Y17.2.2 (lc R44.2.2.2)]) [0, 0, 0, 0] (laws_heldEng_con ({ Mem := R44.2.1, Tables := R44.2.2.1, Seq := R15.1.Seq, Snaps := R44.2.2.2 : Eng }) (1 : Int) Y17.1 Y17.2.1 Y17.2.2 R47 H48) kc24 rfl rfl ⟨(Can.own 1 rfl), (Can.own 2 rfl), (Can.own 3 rfl), trivial⟩) rfl rfl rfl (fun _ => ?_)
                      refine TO.y (Y.assign rfl) rfl rfl rfl ?_
                      refine TO.nil ?_
                      refine TE.next ?_
                      refine TW.seq ?_
                      refine TW.seq ?_
                      refine TW.region ?_
                      refine TO.y (Y.move rfl) rfl rfl rfl ?_
                      refine TO.y (Y.lss rfl rfl) rfl rfl rfl ?_
                      refine TO.nil ?_
                      refine TE.next ?_
                      refine TW.cond rfl (fun H64 => ?_) (fun H64 => ?_)
                      · refine TW.seq ?_
                        refine TW.region ?_
                        refine TO.y (Y.assign rfl) rfl rfl rfl ?_
                        refine TO.nil ?_
                        refine TE.next ?_
                        refine TW.ret ?_
                        refine TE.then_ret ?_
                        exact TE.leaf fun _ _ hf_ hs_ => ret_any (rs := [.tmp 2]) (vs := [.bool false]) (.inl rfl) rfl ⟨rfl, trivial⟩ hf_ hs_ ⟨(), rfl, hs_.pulls [] rfl⟩
                      · refine TW.skip ?_
                        refine TE.next ?_
                        refine TW.seq ?_
                        refine TW.seq ?_
                        refine TW.region ?_
                        refine TO.y (Y.move rfl) rfl rfl rfl ?_
                        refine TO.y (Y.move rfl) rfl rfl rfl ?_
                        refine TO.y (Y.neq rfl rfl) rfl rfl rfl ?_
                        refine TO.nil ?_
                        refine TE.next ?_
                        refine TW.cond rfl (fun H65 => ?_) (fun H65 => ?_)
                        · refine TW.seq ?_
                          refine TW.region ?_
                          refine TO.y (Y.assign rfl) rfl rfl rfl ?_
                          refine TO.nil ?_
                          refine TE.next ?_
                          refine TW.ret ?_
                          refine TE.then_ret ?_
                          exact TE.leaf fun _ _ hf_ hs_ => ret_any (rs := [.tmp 2]) (vs := [.bool false]) (.inl rfl) rfl ⟨rfl, trivial⟩ hf_ hs_ ⟨(), rfl, hs_.pulls [] rfl⟩
                        · refine TW.skip ?_
                          refine TE.next ?_
                          refine TW.seq ?_
                          refine TW.region ?_
                          refine TO.y (Y.assign rfl) rfl rfl rfl ?_
                          refine TO.nil ?_
                          refine TE.next ?_
                          refine TW.ret ?_
                          exact TE.leaf fun _ _ hf_ hs_ => ret_any (rs := [.tmp 2]) (vs := [.bool true]) (.inl rfl) rfl ⟨rfl, trivial⟩ hf_ hs_ ⟨(), rfl, hs_.pulls [] rfl⟩

end Go.Proofs.Ytamgnhkgcggbhab
