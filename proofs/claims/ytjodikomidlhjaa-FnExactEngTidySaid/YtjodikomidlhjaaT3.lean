/-
  The functions that a law reaches, each as a pure function, with the proof that the program computes it, and the step from a pure law to the given statement. Conditions: none.
-/
import Derived.Test.YtjodikomidlhjaaT2
set_option linter.unusedVariables false
set_option maxRecDepth 100000
set_option maxHeartbeats 4000000
namespace Go.Proofs.Ytjodikomidlhjaa
open Go Sl

/-- loop.example/g00950/impl.EngOk -/
noncomputable def impl_EngOk (e : Eng) : Option Bool :=
  ((impl_isNumber e.Seq).bind fun R4 =>
  if (!R4) = true then (some true)
  else (if (decide (((e.Snaps.length : Nat) : Int) > (4 : Int))) = true then (some true)
  else ((impl_tablesOk e).bind fun R9 =>
  some (!R9)))).bind (fun (T2 : Bool) =>
  if T2 = true then (some false)
  else (bindC (loopO (fun (S13 : Int) => if (decide (S13 < ((e.Snaps.length : Nat) : Int))) = true then ((idx e.Snaps S13).bind fun E18 =>
  ((impl_inRange E18 (0 : Int) e.Seq).bind fun R22 =>
  if (!R22) = true then (some true)
  else (if (decide (S13 > (0 : Int))) = true then ((idx e.Snaps (IntKind.i64.wrap (S13 - (1 : Int)))).bind fun E27 =>
  some (decide (E18 ≤ E27)))
  else (some false))).bind (fun (T20 : Bool) =>
  if T20 = true then (some (.done (.done false)))
  else (some (.go (IntKind.i64.wrap (S13 + (1 : Int)))))))
  else (some (.done (.go ()))))
  (0 : Int))
  (fun (T15 : Unit) => some true)))

theorem impl_EngOk_con (e : Eng) (V_e0 : Value) (V_e1 : Value) (V_e3 : Value) (r : Bool) (hm : impl_EngOk e = some r) :
    Con Try.prog 36 [.agg #[V_e0, V_e1, .int .i64 e.Seq, V_e3]] [] [(V_e0, lc e.Mem), (V_e1, lc e.Tables), (V_e3, lc e.Snaps)] (fun _ : Unit => .bool r) (fun _ => []) := by
  refine Con.intro (args := [.agg #[V_e0, V_e1, .int .i64 e.Seq, V_e3]]) (n := 48) (val := fun r (_ : Unit) => .bool r) (post := fun _ _ => []) (m := impl_EngOk e) Try.func36 rfl rfl rfl hm ?_
  intro w S hrd
  have HB_V_e0 := hrd _ (.head _)
  have HB_V_e1 := hrd _ (.tail _ (.head _))
  have HB_V_e3 := hrd _ (.tail _ (.tail _ (.head _)))
  clear hrd
  unfold impl_EngOk
  refine TW.seq ?_
  refine TW.region ?_
  refine TO.ef (Ef.box rfl (Cel.agg ⟨(One.can (Base.can HB_V_e0)), (One.can (Base.can HB_V_e1)), (One.plain rfl), (One.can (Base.can HB_V_e3)), trivial⟩)) rfl rfl rfl (fun B1 => ?_)
  refine TO.y (Y.assign rfl) rfl rfl rfl ?_
  refine TO.nil ?_
  refine TE.next ?_
  refine TW.seq ?_
  refine TW.seq ?_
  refine TW.joinBX (τ := Bool) (X := Unit) (fun T _ => [(1, .pointer (some ⟨B1, 0, none⟩)), (19, .bool T)]) (fun _ _ => [.box B1 31 [V_e0, V_e1, .int .i64 e.Seq, V_e3]]) ?_ (fun T2 X3 => ?_)
  ·refine TW.region ?_
   refine TO.y (Y.field_box kf31_2 rfl rfl) rfl rfl rfl ?_
   refine TO.y (Y.load_box (v := .int .i64 e.Seq) 0 kk3 rfl rfl rfl) rfl rfl rfl ?_
   refine TO.bind fun R4 H5 => ?_
   refine TO.ef (Ef.call (rest := [.box B1 31 [V_e0, V_e1, .int .i64 e.Seq, V_e3]]) [0] (impl_isNumber_con e.Seq  R4 H5) kc61 rfl rfl trivial) rfl rfl rfl (fun _ => ?_)
   refine TO.y (Y.not rfl) rfl rfl rfl ?_
   refine TO.y (Y.move rfl) rfl rfl rfl ?_
   refine TO.ite (b := !R4) (fun H7 => ?_) (fun H7 => ?_)
   ·refine TO.off (Gd.at 4 false 9 (!R4) rfl rfl rfl (beq_tf H7)) rfl rfl ?_
    refine TO.off (Gd.at 4 false 9 (!R4) rfl rfl rfl (beq_tf H7)) rfl rfl ?_
    refine TO.off (Gd.at 4 false 9 (!R4) rfl rfl rfl (beq_tf H7)) rfl rfl ?_
    refine TO.off (Gd.at 4 false 9 (!R4) rfl rfl rfl (beq_tf H7)) rfl rfl ?_
    refine TO.y (Y.pick_t H7 rfl rfl) rfl rfl rfl ?_
    refine TO.y (Y.move rfl) rfl rfl rfl ?_
    refine TO.off (Gd.at 10 false 15 true rfl rfl rfl rfl) rfl rfl ?_
    refine TO.off (Gd.at 10 false 15 true rfl rfl rfl rfl) rfl rfl ?_
    refine TO.off (Gd.at 10 false 15 true rfl rfl rfl rfl) rfl rfl ?_
    refine TO.y (Y.pick_t rfl rfl rfl) rfl rfl rfl ?_
    refine TO.nil ?_
    exact TE.jb_go () [0] ⟨rfl, rfl, trivial⟩ rfl
   refine TO.y (Y.field_box kf31_3 rfl rfl) (Gd.at 4 false 9 (!R4) rfl rfl rfl (beq_ff H7)) rfl rfl ?_
   refine TO.y (Y.load_box (v := V_e3) 0 kk24 rfl rfl rfl) (Gd.at 4 false 9 (!R4) rfl rfl rfl (beq_ff H7)) rfl rfl ?_
   refine TO.y (Y.len (l := e.Snaps) ke24 (Base.can HB_V_e3) rfl) (Gd.at 4 false 9 (!R4) rfl rfl rfl (beq_ff H7)) rfl rfl ?_
   refine TO.y (Y.gtr rfl rfl) (Gd.at 4 false 9 (!R4) rfl rfl rfl (beq_ff H7)) rfl rfl ?_
   refine TO.y (Y.pick_f H7 rfl rfl) rfl rfl rfl ?_
   refine TO.y (Y.move rfl) rfl rfl rfl ?_
   refine TO.ite (b := decide (((e.Snaps.length : Nat) : Int) > (4 : Int))) (fun H8 => ?_) (fun H8 => ?_)
   ·refine TO.off (Gd.at 10 false 15 (decide (((e.Snaps.length : Nat) : Int) > (4 : Int))) rfl rfl rfl (beq_tf H8)) rfl rfl ?_
    refine TO.off (Gd.at 10 false 15 (decide (((e.Snaps.length : Nat) : Int) > (4 : Int))) rfl rfl rfl (beq_tf H8)) rfl rfl ?_
    refine TO.off (Gd.at 10 false 15 (decide (((e.Snaps.length : Nat) : Int) > (4 : Int))) rfl rfl rfl (beq_tf H8)) rfl rfl ?_
    refine TO.y (Y.pick_t H8 rfl rfl) rfl rfl rfl ?_
    refine TO.nil ?_
    exact TE.jb_go () [0] ⟨rfl, rfl, trivial⟩ rfl
   refine TO.y (Y.load_box (v := .agg #[V_e0, V_e1, .int .i64 e.Seq, V_e3]) 0 kk31 rfl rfl rfl) (Gd.at 10 false 15 (decide (((e.Snaps.length : Nat) : Int) > (4 : Int))) rfl rfl rfl (beq_ff H8)) rfl rfl ?_
   refine TO.bind fun R9 H10 => ?_
   refine TO.ef (Ef.call (rest := [.box B1 31 [V_e0, V_e1, .int .i64 e.Seq, V_e3]]) [0] (impl_tablesOk_con e V_e0 V_e1 V_e3 R9 H10) kc62 rfl rfl ⟨(Base.can HB_V_e0), (Base.can HB_V_e1), (Base.can HB_V_e3), trivial⟩) (Gd.at 10 false 15 (decide (((e.Snaps.length : Nat) : Int) > (4 : Int))) rfl rfl rfl (beq_ff H8)) rfl rfl (fun _ => ?_)
   refine TO.y (Y.not rfl) (Gd.at 10 false 15 (decide (((e.Snaps.length : Nat) : Int) > (4 : Int))) rfl rfl rfl (beq_ff H8)) rfl rfl ?_
   refine TO.y (Y.pick_f H8 rfl rfl) rfl rfl rfl ?_
   refine TO.nil ?_
   exact TE.jb_go () [0] ⟨rfl, rfl, trivial⟩ rfl
  refine TE.next ?_
  refine TW.cond rfl (fun H12 => ?_) (fun H12 => ?_)
  ·refine TW.seq ?_
   refine TW.region ?_
   refine TO.y (Y.assign rfl) rfl rfl rfl ?_
   refine TO.nil ?_
   refine TE.next ?_
   refine TW.ret ?_
   refine TE.then_ret ?_
   exact TE.leaf fun _ _ hf_ hs_ => ret_any (rs := [.tmp 2]) (vs := [.bool false]) (.inl rfl) rfl ⟨rfl, trivial⟩ hf_ hs_ ⟨(), rfl, hs_.pulls [] rfl⟩
  refine TW.skip ?_
  refine TE.next ?_
  refine TW.seq ?_
  refine TW.seq ?_
  refine TW.region ?_
  refine TO.y (Y.field_box kf31_3 rfl rfl) rfl rfl rfl ?_
  refine TO.y (Y.load_box (v := V_e3) 0 kk24 rfl rfl rfl) rfl rfl rfl ?_
  refine TO.y (Y.len (l := e.Snaps) ke24 (Base.can HB_V_e3) rfl) rfl rfl rfl ?_
  refine TO.y (Y.move rfl) rfl rfl rfl ?_
  refine TO.nil ?_
  refine TE.next ?_
  refine TW.joinX (τ := Unit) (X := Unit) (fun _ _ => []) (fun _ _ => []) ?_ (fun T15 X16 => ?_)
  ·refine TW.block ?_
   refine TW.loopX (σ := Int) (X := Unit) (fun T _ => [(1, .pointer (some ⟨B1, 0, none⟩)), (21, V_e3), (22, .int .i64 ((e.Snaps.length : Nat) : Int)), (23, .int .i64 T)]) (fun _ _ => [.box B1 31 [V_e0, V_e1, .int .i64 e.Seq, V_e3]]) () [0] ⟨rfl, rfl, rfl, rfl, trivial⟩ rfl (fun S13 X14 => ?_)
   refine TW.seq ?_
   refine TW.region ?_
   refine TO.y (Y.lss rfl rfl) rfl rfl rfl ?_
   refine TO.nil ?_
   refine TE.next ?_
   refine TW.seq ?_
   refine TW.cond rfl (fun H17 => ?_) (fun H17 => ?_)
   ·refine TW.skip ?_
    refine TE.next ?_
    refine TW.seq ?_
    refine TW.block ?_
    refine TW.seq ?_
    refine TW.region ?_
    refine TO.y (Y.move rfl) rfl rfl rfl ?_
    refine TO.bind fun E18 H19 => ?_
    refine TO.y (Y.index ke24 (Base.can HB_V_e3) H19 rfl rfl) rfl rfl rfl ?_
    refine TO.y (Y.load_el (us := [.int .i64 E18]) (u := .int .i64 E18) kk3 rfl (Base.can HB_V_e3) (idx_get H19).2.2 rfl rfl rfl rfl rfl) rfl rfl rfl ?_
    refine TO.y (Y.assign rfl) rfl rfl rfl ?_
    refine TO.y (Y.assign rfl) rfl rfl rfl ?_
    refine TO.nil ?_
    refine TE.next ?_
    refine TW.seq ?_
    refine TW.joinBX (τ := Bool) (X := Unit) (fun T _ => [(1, .pointer (some ⟨B1, 0, none⟩)), (21, V_e3), (22, .int .i64 ((e.Snaps.length : Nat) : Int)), (23, .int .i64 S13), (46, .bool T)]) (fun _ _ => [.box B1 31 [V_e0, V_e1, .int .i64 e.Seq, V_e3]]) ?_ (fun T20 X21 => ?_)
    ·refine TW.region ?_
     refine TO.y (Y.move rfl) rfl rfl rfl ?_
     refine TO.y (Y.field_box kf31_2 rfl rfl) rfl rfl rfl ?_
     refine TO.y (Y.load_box (v := .int .i64 e.Seq) 0 kk3 rfl rfl rfl) rfl rfl rfl ?_
     refine TO.bind fun R22 H23 => ?_
     refine TO.ef (Ef.call (rest := [.box B1 31 [V_e0, V_e1, .int .i64 e.Seq, V_e3]]) [0] (impl_inRange_con E18 (0 : Int) e.Seq  R22 H23) kc63 rfl rfl trivial) rfl rfl rfl (fun _ => ?_)
     refine TO.y (Y.not rfl) rfl rfl rfl ?_
     refine TO.y (Y.move rfl) rfl rfl rfl ?_
     refine TO.ite (b := !R22) (fun H25 => ?_) (fun H25 => ?_)
     ·refine TO.off (Gd.at 5 false 33 (!R22) rfl rfl rfl (beq_tf H25)) rfl rfl ?_
      refine TO.off (Gd.at 5 false 33 (!R22) rfl rfl rfl (beq_tf H25)) rfl rfl ?_
      refine TO.off (Gd.at 5 false 33 (!R22) rfl rfl rfl (beq_tf H25)) rfl rfl ?_
      refine TO.off (Gd.un 8 true 36 rfl rfl rfl) rfl rfl ?_
      refine TO.off (Gd.un 8 true 36 rfl rfl rfl) rfl rfl ?_
      refine TO.off (Gd.un 8 true 36 rfl rfl rfl) rfl rfl ?_
      refine TO.off (Gd.un 8 true 36 rfl rfl rfl) rfl rfl ?_
      refine TO.off (Gd.un 8 true 36 rfl rfl rfl) rfl rfl ?_
      refine TO.off (Gd.un 8 true 36 rfl rfl rfl) rfl rfl ?_
      refine TO.off (Gd.un 8 true 36 rfl rfl rfl) rfl rfl ?_
      refine TO.off (Gd.un 8 true 36 rfl rfl rfl) rfl rfl ?_
      refine TO.off (Gd.at 5 false 33 (!R22) rfl rfl rfl (beq_tf H25)) rfl rfl ?_
      refine TO.y (Y.pick_t H25 rfl rfl) rfl rfl rfl ?_
      refine TO.nil ?_
      exact TE.jb_go () [0] ⟨rfl, rfl, rfl, rfl, rfl, trivial⟩ rfl
     refine TO.y (Y.move rfl) (Gd.at 5 false 33 (!R22) rfl rfl rfl (beq_ff H25)) rfl rfl ?_
     refine TO.y (Y.gtr rfl rfl) (Gd.at 5 false 33 (!R22) rfl rfl rfl (beq_ff H25)) rfl rfl ?_
     refine TO.y (Y.move rfl) (Gd.at 5 false 33 (!R22) rfl rfl rfl (beq_ff H25)) rfl rfl ?_
     refine TO.ite (b := decide (S13 > (0 : Int))) (fun H26 => ?_) (fun H26 => ?_)
     ·refine TO.y (Y.move rfl) (Gd.at 8 true 36 (decide (S13 > (0 : Int))) rfl rfl rfl (beq_tt H26)) rfl rfl ?_
      refine TO.y (Y.field_box kf31_3 rfl rfl) (Gd.at 8 true 36 (decide (S13 > (0 : Int))) rfl rfl rfl (beq_tt H26)) rfl rfl ?_
      refine TO.y (Y.load_box (v := V_e3) 0 kk24 rfl rfl rfl) (Gd.at 8 true 36 (decide (S13 > (0 : Int))) rfl rfl rfl (beq_tt H26)) rfl rfl ?_
      refine TO.y (Y.move rfl) (Gd.at 8 true 36 (decide (S13 > (0 : Int))) rfl rfl rfl (beq_tt H26)) rfl rfl ?_
      refine TO.y (Y.sub rfl rfl) (Gd.at 8 true 36 (decide (S13 > (0 : Int))) rfl rfl rfl (beq_tt H26)) rfl rfl ?_
      refine TO.bind fun E27 H28 => ?_
      refine TO.y (Y.index ke24 (Base.can HB_V_e3) H28 rfl rfl) (Gd.at 8 true 36 (decide (S13 > (0 : Int))) rfl rfl rfl (beq_tt H26)) rfl rfl ?_
      refine TO.y (Y.load_el (us := [.int .i64 E27]) (u := .int .i64 E27) kk3 rfl (Base.can HB_V_e3) (idx_get H28).2.2 rfl rfl rfl rfl rfl) (Gd.at 8 true 36 (decide (S13 > (0 : Int))) rfl rfl rfl (beq_tt H26)) rfl rfl ?_
      refine TO.y (Y.leq rfl rfl) (Gd.at 8 true 36 (decide (S13 > (0 : Int))) rfl rfl rfl (beq_tt H26)) rfl rfl ?_
      refine TO.y (Y.pick_t H26 rfl rfl) (Gd.at 5 false 33 (!R22) rfl rfl rfl (beq_ff H25)) rfl rfl ?_
      refine TO.y (Y.pick_f H25 rfl rfl) rfl rfl rfl ?_
      refine TO.nil ?_
      exact TE.jb_go () [0] ⟨rfl, rfl, rfl, rfl, rfl, trivial⟩ rfl
     refine TO.off (Gd.at 8 true 36 (decide (S13 > (0 : Int))) rfl rfl rfl (beq_ft H26)) rfl rfl ?_
     refine TO.off (Gd.at 8 true 36 (decide (S13 > (0 : Int))) rfl rfl rfl (beq_ft H26)) rfl rfl ?_
     refine TO.off (Gd.at 8 true 36 (decide (S13 > (0 : Int))) rfl rfl rfl (beq_ft H26)) rfl rfl ?_
     refine TO.off (Gd.at 8 true 36 (decide (S13 > (0 : Int))) rfl rfl rfl (beq_ft H26)) rfl rfl ?_
     refine TO.off (Gd.at 8 true 36 (decide (S13 > (0 : Int))) rfl rfl rfl (beq_ft H26)) rfl rfl ?_
     refine TO.off (Gd.at 8 true 36 (decide (S13 > (0 : Int))) rfl rfl rfl (beq_ft H26)) rfl rfl ?_
     refine TO.off (Gd.at 8 true 36 (decide (S13 > (0 : Int))) rfl rfl rfl (beq_ft H26)) rfl rfl ?_
     refine TO.off (Gd.at 8 true 36 (decide (S13 > (0 : Int))) rfl rfl rfl (beq_ft H26)) rfl rfl ?_
     refine TO.y (Y.pick_f H26 rfl rfl) (Gd.at 5 false 33 (!R22) rfl rfl rfl (beq_ff H25)) rfl rfl ?_
     refine TO.y (Y.pick_f H25 rfl rfl) rfl rfl rfl ?_
     refine TO.nil ?_
     exact TE.jb_go () [0] ⟨rfl, rfl, rfl, rfl, rfl, trivial⟩ rfl
    refine TE.next ?_
    refine TW.cond rfl (fun H29 => ?_) (fun H29 => ?_)
    ·refine TW.seq ?_
     refine TW.region ?_
     refine TO.y (Y.assign rfl) rfl rfl rfl ?_
     refine TO.nil ?_
     refine TE.next ?_
     refine TW.ret ?_
     refine TE.block_ret ?_
     refine TE.then_ret ?_
     refine TE.lp_ret ?_
     refine TE.block_ret ?_
     refine TE.jn_done ?_
     refine TE.then_ret ?_
     exact TE.leaf fun _ _ hf_ hs_ => ret_any (rs := [.tmp 2]) (vs := [.bool false]) (.inl rfl) rfl ⟨rfl, trivial⟩ hf_ hs_ ⟨(), rfl, hs_.pulls [] rfl⟩
    refine TW.skip ?_
    refine TE.block_normal ?_
    refine TE.next ?_
    refine TW.region ?_
    refine TO.y (Y.add rfl rfl) rfl rfl rfl ?_
    refine TO.y (Y.move rfl) rfl rfl rfl ?_
    refine TO.nil ?_
    exact TE.lp_go () [0] ⟨rfl, rfl, rfl, rfl, trivial⟩ rfl
   refine TW.exit ?_
   refine TE.then_exit ?_
   refine TE.lp_exit ?_
   refine TE.block_exit ?_
   exact TE.jn_go () [] trivial rfl
  refine TE.next ?_
  refine TW.seq ?_
  refine TW.region ?_
  refine TO.y (Y.assign rfl) rfl rfl rfl ?_
  refine TO.nil ?_
  refine TE.next ?_
  refine TW.ret ?_
  exact TE.leaf fun _ _ hf_ hs_ => ret_any (rs := [.tmp 2]) (vs := [.bool true]) (.inl rfl) rfl ⟨rfl, trivial⟩ hf_ hs_ ⟨(), rfl, hs_.pulls [] rfl⟩

/-- slices.Clone[[]loop.example/g00950/impl.Ent,loop.example/g00950/impl.Ent] -/
noncomputable def slices_Clone_94167 (s : List Ent) : Option (List Ent) :=
  (app 48 ([] : List Ent) s).bind fun E4 =>
  some E4

theorem slices_Clone_94167_con (s : List Ent) (V_s0 : Value) (r : List Ent) (hm : slices_Clone_94167 s = some r) :
    Con Try.prog 64 [V_s0] [] [(V_s0, lc s)] (fun X : Value => X) (fun X => [.own X (lc r)]) := by
  refine Con.intro (args := [V_s0]) (n := 8) (val := fun _ (X : Value) => X) (post := fun r X => [.own X (lc r)]) (m := slices_Clone_94167 s) Try.func64 rfl rfl rfl hm ?_
  intro w S hrd
  have HB_V_s0 := hrd _ (.head _)
  clear hrd
  unfold slices_Clone_94167
  refine TW.seq ?_
  refine TW.region ?_
  refine TO.y (Y.assign rfl) rfl rfl rfl ?_
  refine TO.nil ?_
  refine TE.next ?_
  refine TW.seq ?_
  refine TW.seq ?_
  refine TW.region ?_
  refine TO.y (Y.move rfl) rfl rfl rfl ?_
  refine TO.y (Y.nileq ke28 (Base.can HB_V_s0) rfl rfl) rfl rfl rfl ?_
  refine TO.nil ?_
  refine TE.next ?_
  refine TW.cond_nil (Base.can HB_V_s0) rfl (fun hnil_ => ?_) ?_
  ·subst hnil_
   show TW _ _ _ (some ([])) _ _ _ _ _
   refine TW.seq ?_
   refine TW.region ?_
   refine TO.y (Y.assign rfl) rfl rfl rfl ?_
   refine TO.nil ?_
   refine TE.next ?_
   refine TW.ret ?_
   refine TE.then_ret ?_
   exact TE.leaf fun _ _ hf_ hs_ => ret_any (rs := [.tmp 2]) (vs := [.slice none 0 0]) (.inl rfl) rfl ⟨rfl, trivial⟩ hf_ hs_ ⟨(.slice none 0 0), rfl, (hs_.nilItem 4).pulls [0] rfl⟩
  refine TW.skip ?_
  refine TE.next ?_
  refine TW.seq ?_
  refine TW.region ?_
  refine TO.ef (Ef.buildSlice (α := Ent) (Vs := []) ([] : List Ent) ke28 kz51 rfl rfl rfl rfl rfl) rfl rfl rfl (fun B2 => ?_)
  refine TO.y (Y.move rfl) rfl rfl rfl ?_
  refine TO.bind fun E4 H5 => ?_
  refine TO.ef (Ef.append (α := Ent) (is' := []) [0] H5 ke28 kz51 rfl rfl rfl rfl rfl (Base.can HB_V_s0)) rfl rfl rfl (fun V3 => ?_)
  refine TO.y (Y.assign rfl) rfl rfl rfl ?_
  refine TO.nil ?_
  refine TE.next ?_
  refine TW.ret ?_
  exact TE.leaf fun _ _ hf_ hs_ => ret_any (rs := [.tmp 2]) (vs := [V3]) (.inl rfl) rfl ⟨rfl, trivial⟩ hf_ hs_ ⟨V3, rfl, hs_.pulls [0] rfl⟩

/-- slices.Clone[[]int,int] -/
noncomputable def slices_Clone_88240 (s : List Int) : Option (List Int) :=
  (app 8 ([] : List Int) s).bind fun E4 =>
  some E4

theorem slices_Clone_88240_con (s : List Int) (V_s0 : Value) (r : List Int) (hm : slices_Clone_88240 s = some r) :
    Con Try.prog 65 [V_s0] [] [(V_s0, lc s)] (fun X : Value => X) (fun X => [.own X (lc r)]) := by
  refine Con.intro (args := [V_s0]) (n := 8) (val := fun _ (X : Value) => X) (post := fun r X => [.own X (lc r)]) (m := slices_Clone_88240 s) Try.func65 rfl rfl rfl hm ?_
  intro w S hrd
  have HB_V_s0 := hrd _ (.head _)
  clear hrd
  unfold slices_Clone_88240
  refine TW.seq ?_
  refine TW.region ?_
  refine TO.y (Y.assign rfl) rfl rfl rfl ?_
  refine TO.nil ?_
  refine TE.next ?_
  refine TW.seq ?_
  refine TW.seq ?_
  refine TW.region ?_
  refine TO.y (Y.move rfl) rfl rfl rfl ?_
  refine TO.y (Y.nileq ke24 (Base.can HB_V_s0) rfl rfl) rfl rfl rfl ?_
  refine TO.nil ?_
  refine TE.next ?_
  refine TW.cond_nil (Base.can HB_V_s0) rfl (fun hnil_ => ?_) ?_
  ·subst hnil_
   show TW _ _ _ (some ([])) _ _ _ _ _
   refine TW.seq ?_
   refine TW.region ?_
   refine TO.y (Y.assign rfl) rfl rfl rfl ?_
   refine TO.nil ?_
   refine TE.next ?_
   refine TW.ret ?_
   refine TE.then_ret ?_
   exact TE.leaf fun _ _ hf_ hs_ => ret_any (rs := [.tmp 2]) (vs := [.slice none 0 0]) (.inl rfl) rfl ⟨rfl, trivial⟩ hf_ hs_ ⟨(.slice none 0 0), rfl, (hs_.nilItem 1).pulls [0] rfl⟩
  refine TW.skip ?_
  refine TE.next ?_
  refine TW.seq ?_
  refine TW.region ?_
  refine TO.ef (Ef.buildSlice (α := Int) (Vs := []) ([] : List Int) ke24 kz3 rfl rfl rfl rfl rfl) rfl rfl rfl (fun B2 => ?_)
  refine TO.y (Y.move rfl) rfl rfl rfl ?_
  refine TO.bind fun E4 H5 => ?_
  refine TO.ef (Ef.append (α := Int) (is' := []) [0] H5 ke24 kz3 rfl rfl rfl rfl rfl (Base.can HB_V_s0)) rfl rfl rfl (fun V3 => ?_)
  refine TO.y (Y.assign rfl) rfl rfl rfl ?_
  refine TO.nil ?_
  refine TE.next ?_
  refine TW.ret ?_
  exact TE.leaf fun _ _ hf_ hs_ => ret_any (rs := [.tmp 2]) (vs := [V3]) (.inl rfl) rfl ⟨rfl, trivial⟩ hf_ hs_ ⟨V3, rfl, hs_.pulls [0] rfl⟩

/-- loop.example/g00950/impl.copyEng -/
noncomputable def impl_copyEng (e : Eng) : Option Eng :=
  (slices_Clone_94167 e.Mem).bind fun R3 =>
  (slices_Clone_88240 e.Snaps).bind fun R7 =>
  bindC (loopO (fun (S17 : Int × List (List Ent)) => if (decide (S17.1 < ((e.Tables.length : Nat) : Int))) = true then ((idx e.Tables S17.1).bind fun E22 =>
  (slices_Clone_94167 E22).bind fun R25 =>
  (app 24 S17.2 ([R25])).bind fun E31 =>
  some (.go (IntKind.i64.wrap (S17.1 + (1 : Int)), E31)))
  else (some (.done (.go S17.2))))
  ((0 : Int), ([] : List (List Ent))))
  (fun (T19 : List (List Ent)) => some ({ Mem := R3, Tables := T19, Seq := e.Seq, Snaps := R7 : Eng }))

theorem impl_copyEng_con (e : Eng) (V_e0 : Value) (V_e1 : Value) (V_e3 : Value) (r : Eng) (hm : impl_copyEng e = some r) :
    Con Try.prog 37 [.agg #[V_e0, V_e1, .int .i64 e.Seq, V_e3]] [] [(V_e0, lc e.Mem), (V_e1, lc e.Tables), (V_e3, lc e.Snaps)] (fun X : Value × Value × Value => .agg #[X.1, X.2.1, .int .i64 r.Seq, X.2.2]) (fun X => [.own X.1 (lc r.Mem), .own X.2.1 (lc r.Tables), .own X.2.2 (lc r.Snaps)]) := by
  refine Con.intro (args := [.agg #[V_e0, V_e1, .int .i64 e.Seq, V_e3]]) (n := 31) (val := fun r (X : Value × Value × Value) => .agg #[X.1, X.2.1, .int .i64 r.Seq, X.2.2]) (post := fun r X => [.own X.1 (lc r.Mem), .own X.2.1 (lc r.Tables), .own X.2.2 (lc r.Snaps)]) (m := impl_copyEng e) Try.func37 rfl rfl rfl hm ?_
  intro w S hrd
  have HB_V_e0 := hrd _ (.head _)
  have HB_V_e1 := hrd _ (.tail _ (.head _))
  have HB_V_e3 := hrd _ (.tail _ (.tail _ (.head _)))
  clear hrd
  unfold impl_copyEng
  refine TW.seq ?_
  refine TW.region ?_
  refine TO.ef (Ef.box rfl (Cel.agg ⟨(One.can (Base.can HB_V_e0)), (One.can (Base.can HB_V_e1)), (One.plain rfl), (One.can (Base.can HB_V_e3)), trivial⟩)) rfl rfl rfl (fun B1 => ?_)
  refine TO.ef (Ef.alloc kz31 rfl) rfl rfl rfl (fun B2 => ?_)
  refine TO.nil ?_
  refine TE.next ?_
  refine TW.seq ?_
  refine TW.bind fun R3 H4 => ?_
  refine TW.bind fun R7 H8 => ?_
  refine TW.joinU (X := Nat × Value × Value) (fun _ X => [(1, .pointer (some ⟨B1, 0, none⟩)), (2, .pointer (some ⟨B2, 0, none⟩)), (3, .pointer (some ⟨X.1, 0, none⟩))]) (fun _ X => [.box B1 31 [V_e0, V_e1, .int .i64 e.Seq, V_e3], .box B2 31 [.slice none 0 0, .slice none 0 0, .int .i64 (0 : Int), .slice none 0 0], .box X.1 31 [X.2.1, .slice none 0 0, .int .i64 e.Seq, X.2.2], .own X.2.1 (lc R3), .own X.2.2 (lc R7)]) ?_ (fun _ X14 => ?_)
  ·refine TW.draw (isH := [.box B2 31 [.slice none 0 0, .slice none 0 0, .int .i64 (0 : Int), .slice none 0 0], .box B1 31 [V_e0, V_e1, .int .i64 e.Seq, V_e3]]) hMix ?_
   refine TA.y 0 [0, 0] rfl (Y.field_box kf31_0 rfl rfl) rfl rfl rfl (by kernel_rfl) rfl ?_
   refine TA.y 1 [0, 0] rfl (Y.load_box (v := V_e0) 1 kk28 rfl rfl rfl) rfl rfl rfl (by kernel_rfl) rfl ?_
   refine TA.y 3 [0, 0] rfl (Y.field_box kf31_2 rfl rfl) rfl rfl rfl (by kernel_rfl) rfl ?_
   refine TA.y 4 [0, 0] rfl (Y.load_box (v := .int .i64 e.Seq) 1 kk3 rfl rfl rfl) rfl rfl rfl (by kernel_rfl) rfl ?_
   refine TA.y 5 [0, 0] rfl (Y.field_box kf31_3 rfl rfl) rfl rfl rfl (by kernel_rfl) rfl ?_
   refine TA.y 6 [0, 0] rfl (Y.load_box (v := V_e3) 1 kk24 rfl rfl rfl) rfl rfl rfl (by kernel_rfl) rfl ?_
   refine TA.two 2 9 (by kernel_rfl) ?_ ?_
   ·refine TX.ef [1, 1] rfl (Ef.call (rest := [.box B2 31 [.slice none 0 0, .slice none 0 0, .int .i64 (0 : Int), .slice none 0 0], .box B1 31 [V_e0, V_e1, .int .i64 e.Seq, V_e3]]) [0, 0] (slices_Clone_94167_con e.Mem V_e0 R3 H4) kc64 rfl rfl ⟨(Base.can HB_V_e0), trivial⟩) rfl rfl rfl (fun _ => rfl) (fun Y15 => ?_)
    refine TA.two 7 9 (by kernel_rfl) ?_ ?_
    ·refine TX.ef [2, 2] rfl (Ef.call (rest := [.own Y15 (lc R3), .box B2 31 [.slice none 0 0, .slice none 0 0, .int .i64 (0 : Int), .slice none 0 0], .box B1 31 [V_e0, V_e1, .int .i64 e.Seq, V_e3]]) [0, 0, 0] (slices_Clone_88240_con e.Snaps V_e3 R7 H8) kc65 rfl rfl ⟨(Base.can HB_V_e3), trivial⟩) rfl rfl rfl (fun _ => rfl) (fun Y17 => ?_)
     refine TA.two 8 9 (by kernel_rfl) ?_ ?_
     ·refine TX.y [2, 2] rfl (Y.build (cells := [Y15, .slice none 0 0, .int .i64 e.Seq, Y17]) [(0, [Y15]), (2, [.int .i64 e.Seq]), (3, [Y17])] kp31 kz31 ⟨rfl, ⟨_, rfl, (Cel.one (One.can (Can.own 1 rfl)))⟩, ⟨rfl, ⟨_, rfl, (Cel.plain rfl rfl)⟩, ⟨rfl, ⟨_, rfl, (Cel.one (One.can (Can.own 0 rfl)))⟩, trivial⟩⟩⟩ rfl) rfl rfl rfl rfl ?_
      refine TA.one 9 (by kernel_rfl) ?_
      refine TX.ef [3, 3] rfl (Ef.alloc kz31 rfl) rfl rfl rfl (fun _ => rfl) (fun B20 => ?_)
      refine TA.one 10 (by kernel_rfl) ?_
      refine TX.ef0 [3, 3] rfl (Ef.store_box (us := [Y15, .slice none 0 0, .int .i64 e.Seq, Y17]) (vs' := [Y15, .slice none 0 0, .int .i64 e.Seq, Y17]) (is' := [.box B20 31 [Y15, .slice none 0 0, .int .i64 e.Seq, Y17], .own Y17 (lc R7), .own Y15 (lc R3), .box B2 31 [.slice none 0 0, .slice none 0 0, .int .i64 (0 : Int), .slice none 0 0], .box B1 31 [V_e0, V_e1, .int .i64 e.Seq, V_e3]]) 0 kk31 rfl rfl rfl (Cel.agg ⟨(One.can (Can.own 2 rfl)), (One.plain rfl), (One.plain rfl), (One.can (Can.own 1 rfl)), trivial⟩) rfl rfl rfl rfl) rfl rfl (fun _ => rfl) (fun _ => ?_)
      refine TA.nil (by kernel_rfl) ?_
      exact TE.jb_go (B20, Y15, Y17) [4, 3, 0, 1, 0] ⟨rfl, rfl, rfl, trivial⟩ rfl
     refine TX.ef [3, 3] rfl (Ef.alloc kz31 rfl) rfl rfl rfl (fun _ => rfl) (fun B19 => ?_)
     refine TA.one 8 (by kernel_rfl) ?_
     refine TX.y [3, 3] rfl (Y.build (cells := [Y15, .slice none 0 0, .int .i64 e.Seq, Y17]) [(0, [Y15]), (2, [.int .i64 e.Seq]), (3, [Y17])] kp31 kz31 ⟨rfl, ⟨_, rfl, (Cel.one (One.can (Can.own 2 rfl)))⟩, ⟨rfl, ⟨_, rfl, (Cel.plain rfl rfl)⟩, ⟨rfl, ⟨_, rfl, (Cel.one (One.can (Can.own 1 rfl)))⟩, trivial⟩⟩⟩ rfl) rfl rfl rfl rfl ?_
     refine TA.one 10 (by kernel_rfl) ?_
     refine TX.ef0 [3, 3] rfl (Ef.store_box (us := [Y15, .slice none 0 0, .int .i64 e.Seq, Y17]) (vs' := [Y15, .slice none 0 0, .int .i64 e.Seq, Y17]) (is' := [.box B19 31 [Y15, .slice none 0 0, .int .i64 e.Seq, Y17], .own Y17 (lc R7), .own Y15 (lc R3), .box B2 31 [.slice none 0 0, .slice none 0 0, .int .i64 (0 : Int), .slice none 0 0], .box B1 31 [V_e0, V_e1, .int .i64 e.Seq, V_e3]]) 0 kk31 rfl rfl rfl (Cel.agg ⟨(One.can (Can.own 2 rfl)), (One.plain rfl), (One.plain rfl), (One.can (Can.own 1 rfl)), trivial⟩) rfl rfl rfl rfl) rfl rfl (fun _ => rfl) (fun _ => ?_)
     refine TA.nil (by kernel_rfl) ?_
     exact TE.jb_go (B19, Y15, Y17) [4, 3, 0, 1, 0] ⟨rfl, rfl, rfl, trivial⟩ rfl
    refine TX.ef [2, 2] rfl (Ef.alloc kz31 rfl) rfl rfl rfl (fun _ => rfl) (fun B18 => ?_)
    refine TA.one 7 (by kernel_rfl) ?_
    refine TX.ef [3, 3] rfl (Ef.call (rest := [.box B18 31 [.slice none 0 0, .slice none 0 0, .int .i64 (0 : Int), .slice none 0 0], .own Y15 (lc R3), .box B2 31 [.slice none 0 0, .slice none 0 0, .int .i64 (0 : Int), .slice none 0 0], .box B1 31 [V_e0, V_e1, .int .i64 e.Seq, V_e3]]) [0, 0, 0, 0] (slices_Clone_88240_con e.Snaps V_e3 R7 H8) kc65 rfl rfl ⟨(Base.can HB_V_e3), trivial⟩) rfl rfl rfl (fun _ => rfl) (fun Y19 => ?_)
    refine TA.one 8 (by kernel_rfl) ?_
    refine TX.y [3, 3] rfl (Y.build (cells := [Y15, .slice none 0 0, .int .i64 e.Seq, Y19]) [(0, [Y15]), (2, [.int .i64 e.Seq]), (3, [Y19])] kp31 kz31 ⟨rfl, ⟨_, rfl, (Cel.one (One.can (Can.own 2 rfl)))⟩, ⟨rfl, ⟨_, rfl, (Cel.plain rfl rfl)⟩, ⟨rfl, ⟨_, rfl, (Cel.one (One.can (Can.own 0 rfl)))⟩, trivial⟩⟩⟩ rfl) rfl rfl rfl rfl ?_
    refine TA.one 10 (by kernel_rfl) ?_
    refine TX.ef0 [3, 3] rfl (Ef.store_box (us := [Y15, .slice none 0 0, .int .i64 e.Seq, Y19]) (vs' := [Y15, .slice none 0 0, .int .i64 e.Seq, Y19]) (is' := [.own Y19 (lc R7), .box B18 31 [Y15, .slice none 0 0, .int .i64 e.Seq, Y19], .own Y15 (lc R3), .box B2 31 [.slice none 0 0, .slice none 0 0, .int .i64 (0 : Int), .slice none 0 0], .box B1 31 [V_e0, V_e1, .int .i64 e.Seq, V_e3]]) 1 kk31 rfl rfl rfl (Cel.agg ⟨(One.can (Can.own 2 rfl)), (One.plain rfl), (One.plain rfl), (One.can (Can.own 0 rfl)), trivial⟩) rfl rfl rfl rfl) rfl rfl (fun _ => rfl) (fun _ => ?_)
    refine TA.nil (by kernel_rfl) ?_
    exact TE.jb_go (B18, Y15, Y19) [4, 3, 1, 1, 0] ⟨rfl, rfl, rfl, trivial⟩ rfl
   refine TX.ef [1, 1] rfl (Ef.alloc kz31 rfl) rfl rfl rfl (fun _ => rfl) (fun B16 => ?_)
   refine TA.one 2 (by kernel_rfl) ?_
   refine TX.ef [2, 2] rfl (Ef.call (rest := [.box B16 31 [.slice none 0 0, .slice none 0 0, .int .i64 (0 : Int), .slice none 0 0], .box B2 31 [.slice none 0 0, .slice none 0 0, .int .i64 (0 : Int), .slice none 0 0], .box B1 31 [V_e0, V_e1, .int .i64 e.Seq, V_e3]]) [0, 0, 0] (slices_Clone_94167_con e.Mem V_e0 R3 H4) kc64 rfl rfl ⟨(Base.can HB_V_e0), trivial⟩) rfl rfl rfl (fun _ => rfl) (fun Y17 => ?_)
   refine TA.one 7 (by kernel_rfl) ?_
   refine TX.ef [3, 3] rfl (Ef.call (rest := [.own Y17 (lc R3), .box B16 31 [.slice none 0 0, .slice none 0 0, .int .i64 (0 : Int), .slice none 0 0], .box B2 31 [.slice none 0 0, .slice none 0 0, .int .i64 (0 : Int), .slice none 0 0], .box B1 31 [V_e0, V_e1, .int .i64 e.Seq, V_e3]]) [0, 0, 0, 0] (slices_Clone_88240_con e.Snaps V_e3 R7 H8) kc65 rfl rfl ⟨(Base.can HB_V_e3), trivial⟩) rfl rfl rfl (fun _ => rfl) (fun Y18 => ?_)
   refine TA.one 8 (by kernel_rfl) ?_
   refine TX.y [3, 3] rfl (Y.build (cells := [Y17, .slice none 0 0, .int .i64 e.Seq, Y18]) [(0, [Y17]), (2, [.int .i64 e.Seq]), (3, [Y18])] kp31 kz31 ⟨rfl, ⟨_, rfl, (Cel.one (One.can (Can.own 1 rfl)))⟩, ⟨rfl, ⟨_, rfl, (Cel.plain rfl rfl)⟩, ⟨rfl, ⟨_, rfl, (Cel.one (One.can (Can.own 0 rfl)))⟩, trivial⟩⟩⟩ rfl) rfl rfl rfl rfl ?_
   refine TA.one 10 (by kernel_rfl) ?_
   refine TX.ef0 [3, 3] rfl (Ef.store_box (us := [Y17, .slice none 0 0, .int .i64 e.Seq, Y18]) (vs' := [Y17, .slice none 0 0, .int .i64 e.Seq, Y18]) (is' := [.own Y18 (lc R7), .own Y17 (lc R3), .box B16 31 [Y17, .slice none 0 0, .int .i64 e.Seq, Y18], .box B2 31 [.slice none 0 0, .slice none 0 0, .int .i64 (0 : Int), .slice none 0 0], .box B1 31 [V_e0, V_e1, .int .i64 e.Seq, V_e3]]) 2 kk31 rfl rfl rfl (Cel.agg ⟨(One.can (Can.own 1 rfl)), (One.plain rfl), (One.plain rfl), (One.can (Can.own 0 rfl)), trivial⟩) rfl rfl rfl rfl) rfl rfl (fun _ => rfl) (fun _ => ?_)
   refine TA.nil (by kernel_rfl) ?_
   exact TE.jb_go (B16, Y17, Y18) [4, 3, 2, 1, 0] ⟨rfl, rfl, rfl, trivial⟩ rfl
  refine TE.next ?_
  refine TW.seq ?_
  refine TW.seq ?_
  refine TW.region ?_
  refine TO.y (Y.field_box kf31_1 rfl rfl) rfl rfl rfl ?_
  refine TO.y (Y.load_box (v := V_e1) 0 kk29 rfl rfl rfl) rfl rfl rfl ?_
  refine TO.y (Y.len (l := e.Tables) ke29 (Base.can HB_V_e1) rfl) rfl rfl rfl ?_
  refine TO.y (Y.move rfl) rfl rfl rfl ?_
  refine TO.nil ?_
  refine TE.next ?_
  refine TW.joinX (τ := List (List Ent)) (X := Value) (fun _ _ => [(2, .pointer (some ⟨B2, 0, none⟩)), (3, .pointer (some ⟨X14.1, 0, none⟩))]) (fun T X => [.box B2 31 [.slice none 0 0, .slice none 0 0, .int .i64 (0 : Int), .slice none 0 0], .box X14.1 31 [X14.2.1, X, .int .i64 e.Seq, X14.2.2], .own X14.2.1 (lc R3), .own X (lc T), .own X14.2.2 (lc R7)]) ?_ (fun T19 X20 => ?_)
  ·refine TW.block ?_
   refine TW.nilItem 1 ?_
   refine TW.loopX (σ := Int × List (List Ent)) (X := Value) (fun T _ => [(2, .pointer (some ⟨B2, 0, none⟩)), (3, .pointer (some ⟨X14.1, 0, none⟩)), (16, V_e1), (17, .int .i64 ((e.Tables.length : Nat) : Int)), (18, .int .i64 T.1)]) (fun T X => [.box B2 31 [.slice none 0 0, .slice none 0 0, .int .i64 (0 : Int), .slice none 0 0], .box X14.1 31 [X14.2.1, X, .int .i64 e.Seq, X14.2.2], .own X14.2.1 (lc R3), .own X (lc T.2), .own X14.2.2 (lc R7)]) (.slice none 0 0) [2, 2, 2, 0, 1] ⟨rfl, rfl, rfl, rfl, rfl, trivial⟩ rfl (fun S17 X18 => ?_)
   refine TW.seq ?_
   refine TW.region ?_
   refine TO.y (Y.lss rfl rfl) rfl rfl rfl ?_
   refine TO.nil ?_
   refine TE.next ?_
   refine TW.seq ?_
   refine TW.cond rfl (fun H21 => ?_) (fun H21 => ?_)
   ·refine TW.skip ?_
    refine TE.next ?_
    refine TW.seq ?_
    refine TW.block ?_
    refine TW.seq ?_
    refine TW.region ?_
    refine TO.bind fun E22 H23 => ?_
    refine TO.y (Y.index ke29 (Base.can HB_V_e1) H23 rfl rfl) rfl rfl rfl ?_
    have Q24 : Base w S (elv w V_e1 (S17.1.toNat * 1 + 0)) (lc E22) := Base.el HB_V_e1 (idx_get H23).2.2 rfl rfl
    refine TO.y (Y.load_base (α := List Ent) (u := (elv w V_e1 (S17.1.toNat * 1 + 0))) kk28 rfl HB_V_e1 (idx_get H23).2.2 rfl rfl rfl rfl rfl) rfl rfl rfl ?_
    refine TO.y (Y.assign rfl) rfl rfl rfl ?_
    refine TO.nil ?_
    refine TE.next ?_
    refine TW.bind fun R25 H26 => ?_
    refine TW.bind fun E31 H32 => ?_
    refine TW.joinU (X := Value) (fun _ _ => [(2, .pointer (some ⟨B2, 0, none⟩)), (3, .pointer (some ⟨X14.1, 0, none⟩)), (16, V_e1), (17, .int .i64 ((e.Tables.length : Nat) : Int)), (18, .int .i64 S17.1)]) (fun _ X => [.box B2 31 [.slice none 0 0, .slice none 0 0, .int .i64 (0 : Int), .slice none 0 0], .box X14.1 31 [X14.2.1, X, .int .i64 e.Seq, X14.2.2], .own X14.2.1 (lc R3), .own X (lc E31), .own X14.2.2 (lc R7)]) ?_ (fun _ X34 => ?_)
    ·refine TW.draw (isH := [.box B2 31 [.slice none 0 0, .slice none 0 0, .int .i64 (0 : Int), .slice none 0 0], .own X14.2.1 (lc R3), .own X14.2.2 (lc R7)]) hMix ?_
     refine TA.y 0 [0, 1, 2] rfl (Y.field_box kf31_1 rfl rfl) rfl rfl rfl (by kernel_rfl) rfl ?_
     refine TA.y 2 [0, 1, 2] rfl (Y.move rfl) rfl rfl rfl (by kernel_rfl) rfl ?_
     refine TA.two 1 3 (by kernel_rfl) ?_ ?_
     ·refine TX.y [0, 1, 2] rfl (Y.load_box (v := X18) 1 kk29 rfl rfl rfl) rfl rfl rfl rfl ?_
      refine TA.one 3 (by kernel_rfl) ?_
      refine TX.ef [1, 2, 3] rfl (Ef.call (rest := [.box B2 31 [.slice none 0 0, .slice none 0 0, .int .i64 (0 : Int), .slice none 0 0], .box X14.1 31 [X14.2.1, X18, .int .i64 e.Seq, X14.2.2], .own X14.2.1 (lc R3), .own X18 (lc S17.2), .own X14.2.2 (lc R7)]) [0, 0, 0, 0, 0] (slices_Clone_94167_con E22 (elv w V_e1 (S17.1.toNat * 1 + 0)) R25 H26) kc64 rfl rfl ⟨(Base.can Q24), trivial⟩) rfl rfl rfl (fun _ => rfl) (fun Y36 => ?_)
      refine TA.one 4 (by kernel_rfl) ?_
      refine TX.ef [2, 3, 4] rfl (Ef.buildSliceR (Vs := [Y36]) [[Y36]] [.raw Y36] ke29 kz28 rfl rfl rfl rfl rfl ⟨(Cel.one (One.can (Can.own 0 rfl))), trivial⟩ rfl) rfl rfl rfl (fun _ => rfl) (fun B37 => ?_)
      refine TA.ghost (is' := fun _ => [.own (.slice (some ⟨B37, 0, none⟩) 1 1) (lc ([R25])), .box B2 31 [.slice none 0 0, .slice none 0 0, .int .i64 (0 : Int), .slice none 0 0], .box X14.1 31 [X14.2.1, X18, .int .i64 e.Seq, X14.2.2], .own X14.2.1 (lc R3), .own X18 (lc S17.2), .own X14.2.2 (lc R7)]) (Gh.closeAll (js := [.own Y36 (lc R25)]) (r := [.box B2 31 [.slice none 0 0, .slice none 0 0, .int .i64 (0 : Int), .slice none 0 0], .box X14.1 31 [X14.2.1, X18, .int .i64 e.Seq, X14.2.2], .own X14.2.1 (lc R3), .own X18 (lc S17.2), .own X14.2.2 (lc R7)]) [0, 0, 0, 0, 0, 0, 0] rfl (Cls.fill Cls.nil)) (fun _ => ?_)
      refine TA.one 5 (by kernel_rfl) ?_
      refine TX.ef [1, 2, 2] rfl (Ef.appN (α := List Ent) (is' := [.box B2 31 [.slice none 0 0, .slice none 0 0, .int .i64 (0 : Int), .slice none 0 0], .box X14.1 31 [X14.2.1, X18, .int .i64 e.Seq, X14.2.2], .own X14.2.1 (lc R3), .own X14.2.2 (lc R7)]) [4, 0, 0, 0, 0, 0] H32 ke29 kz28 rfl rfl rfl rfl rfl) rfl rfl rfl (fun _ => rfl) (fun V38 => ?_)
      refine TA.y 6 [1, 2, 2] rfl (Y.field_box kf31_1 rfl rfl) rfl rfl rfl (by kernel_rfl) rfl ?_
      refine TA.one 7 (by kernel_rfl) ?_
      refine TX.ef0 [1, 2, 2] rfl (Ef.store_box (us := [V38]) (vs' := [X14.2.1, V38, .int .i64 e.Seq, X14.2.2]) (is' := [.own V38 (lc E31), .box B2 31 [.slice none 0 0, .slice none 0 0, .int .i64 (0 : Int), .slice none 0 0], .box X14.1 31 [X14.2.1, V38, .int .i64 e.Seq, X14.2.2], .own X14.2.1 (lc R3), .own X14.2.2 (lc R7)]) 2 kk29 rfl rfl rfl (Cel.one (One.can (Can.own 0 rfl))) rfl rfl rfl rfl) rfl rfl (fun _ => rfl) (fun _ => ?_)
      refine TA.nil (by kernel_rfl) ?_
      exact TE.jb_go V38 [1, 1, 1, 0, 0] ⟨rfl, rfl, rfl, rfl, rfl, trivial⟩ rfl
     refine TX.ef [1, 2, 3] rfl (Ef.call (rest := [.box B2 31 [.slice none 0 0, .slice none 0 0, .int .i64 (0 : Int), .slice none 0 0], .box X14.1 31 [X14.2.1, X18, .int .i64 e.Seq, X14.2.2], .own X14.2.1 (lc R3), .own X18 (lc S17.2), .own X14.2.2 (lc R7)]) [0, 0, 0, 0, 0] (slices_Clone_94167_con E22 (elv w V_e1 (S17.1.toNat * 1 + 0)) R25 H26) kc64 rfl rfl ⟨(Base.can Q24), trivial⟩) rfl rfl rfl (fun _ => rfl) (fun Y35 => ?_)
     refine TA.two 1 4 (by kernel_rfl) ?_ ?_
     ·refine TX.y [1, 2, 3] rfl (Y.load_box (v := X18) 2 kk29 rfl rfl rfl) rfl rfl rfl rfl ?_
      refine TA.one 4 (by kernel_rfl) ?_
      refine TX.ef [2, 3, 4] rfl (Ef.buildSliceR (Vs := [Y35]) [[Y35]] [.raw Y35] ke29 kz28 rfl rfl rfl rfl rfl ⟨(Cel.one (One.can (Can.own 0 rfl))), trivial⟩ rfl) rfl rfl rfl (fun _ => rfl) (fun B37 => ?_)
      refine TA.ghost (is' := fun _ => [.own (.slice (some ⟨B37, 0, none⟩) 1 1) (lc ([R25])), .box B2 31 [.slice none 0 0, .slice none 0 0, .int .i64 (0 : Int), .slice none 0 0], .box X14.1 31 [X14.2.1, X18, .int .i64 e.Seq, X14.2.2], .own X14.2.1 (lc R3), .own X18 (lc S17.2), .own X14.2.2 (lc R7)]) (Gh.closeAll (js := [.own Y35 (lc R25)]) (r := [.box B2 31 [.slice none 0 0, .slice none 0 0, .int .i64 (0 : Int), .slice none 0 0], .box X14.1 31 [X14.2.1, X18, .int .i64 e.Seq, X14.2.2], .own X14.2.1 (lc R3), .own X18 (lc S17.2), .own X14.2.2 (lc R7)]) [0, 0, 0, 0, 0, 0, 0] rfl (Cls.fill Cls.nil)) (fun _ => ?_)
      refine TA.one 5 (by kernel_rfl) ?_
      refine TX.ef [1, 2, 2] rfl (Ef.appN (α := List Ent) (is' := [.box B2 31 [.slice none 0 0, .slice none 0 0, .int .i64 (0 : Int), .slice none 0 0], .box X14.1 31 [X14.2.1, X18, .int .i64 e.Seq, X14.2.2], .own X14.2.1 (lc R3), .own X14.2.2 (lc R7)]) [4, 0, 0, 0, 0, 0] H32 ke29 kz28 rfl rfl rfl rfl rfl) rfl rfl rfl (fun _ => rfl) (fun V38 => ?_)
      refine TA.y 6 [1, 2, 2] rfl (Y.field_box kf31_1 rfl rfl) rfl rfl rfl (by kernel_rfl) rfl ?_
      refine TA.one 7 (by kernel_rfl) ?_
      refine TX.ef0 [1, 2, 2] rfl (Ef.store_box (us := [V38]) (vs' := [X14.2.1, V38, .int .i64 e.Seq, X14.2.2]) (is' := [.own V38 (lc E31), .box B2 31 [.slice none 0 0, .slice none 0 0, .int .i64 (0 : Int), .slice none 0 0], .box X14.1 31 [X14.2.1, V38, .int .i64 e.Seq, X14.2.2], .own X14.2.1 (lc R3), .own X14.2.2 (lc R7)]) 2 kk29 rfl rfl rfl (Cel.one (One.can (Can.own 0 rfl))) rfl rfl rfl rfl) rfl rfl (fun _ => rfl) (fun _ => ?_)
      refine TA.nil (by kernel_rfl) ?_
      exact TE.jb_go V38 [1, 1, 1, 0, 0] ⟨rfl, rfl, rfl, rfl, rfl, trivial⟩ rfl
     refine TX.ef [2, 3, 4] rfl (Ef.buildSliceR (Vs := [Y35]) [[Y35]] [.raw Y35] ke29 kz28 rfl rfl rfl rfl rfl ⟨(Cel.one (One.can (Can.own 0 rfl))), trivial⟩ rfl) rfl rfl rfl (fun _ => rfl) (fun B36 => ?_)
     refine TA.ghost (is' := fun _ => [.own (.slice (some ⟨B36, 0, none⟩) 1 1) (lc ([R25])), .box B2 31 [.slice none 0 0, .slice none 0 0, .int .i64 (0 : Int), .slice none 0 0], .box X14.1 31 [X14.2.1, X18, .int .i64 e.Seq, X14.2.2], .own X14.2.1 (lc R3), .own X18 (lc S17.2), .own X14.2.2 (lc R7)]) (Gh.closeAll (js := [.own Y35 (lc R25)]) (r := [.box B2 31 [.slice none 0 0, .slice none 0 0, .int .i64 (0 : Int), .slice none 0 0], .box X14.1 31 [X14.2.1, X18, .int .i64 e.Seq, X14.2.2], .own X14.2.1 (lc R3), .own X18 (lc S17.2), .own X14.2.2 (lc R7)]) [0, 0, 0, 0, 0, 0, 0] rfl (Cls.fill Cls.nil)) (fun _ => ?_)
     refine TA.one 1 (by kernel_rfl) ?_
     refine TX.y [1, 2, 3] rfl (Y.load_box (v := X18) 2 kk29 rfl rfl rfl) rfl rfl rfl rfl ?_
     refine TA.one 5 (by kernel_rfl) ?_
     refine TX.ef [1, 2, 2] rfl (Ef.appN (α := List Ent) (is' := [.box B2 31 [.slice none 0 0, .slice none 0 0, .int .i64 (0 : Int), .slice none 0 0], .box X14.1 31 [X14.2.1, X18, .int .i64 e.Seq, X14.2.2], .own X14.2.1 (lc R3), .own X14.2.2 (lc R7)]) [4, 0, 0, 0, 0, 0] H32 ke29 kz28 rfl rfl rfl rfl rfl) rfl rfl rfl (fun _ => rfl) (fun V37 => ?_)
     refine TA.y 6 [1, 2, 2] rfl (Y.field_box kf31_1 rfl rfl) rfl rfl rfl (by kernel_rfl) rfl ?_
     refine TA.one 7 (by kernel_rfl) ?_
     refine TX.ef0 [1, 2, 2] rfl (Ef.store_box (us := [V37]) (vs' := [X14.2.1, V37, .int .i64 e.Seq, X14.2.2]) (is' := [.own V37 (lc E31), .box B2 31 [.slice none 0 0, .slice none 0 0, .int .i64 (0 : Int), .slice none 0 0], .box X14.1 31 [X14.2.1, V37, .int .i64 e.Seq, X14.2.2], .own X14.2.1 (lc R3), .own X14.2.2 (lc R7)]) 2 kk29 rfl rfl rfl (Cel.one (One.can (Can.own 0 rfl))) rfl rfl rfl rfl) rfl rfl (fun _ => rfl) (fun _ => ?_)
     refine TA.nil (by kernel_rfl) ?_
     exact TE.jb_go V37 [1, 1, 1, 0, 0] ⟨rfl, rfl, rfl, rfl, rfl, trivial⟩ rfl
    refine TE.block_normal ?_
    refine TE.next ?_
    refine TW.region ?_
    refine TO.y (Y.add rfl rfl) rfl rfl rfl ?_
    refine TO.y (Y.move rfl) rfl rfl rfl ?_
    refine TO.nil ?_
    exact TE.lp_go X34 [0, 0, 0, 0, 0] ⟨rfl, rfl, rfl, rfl, rfl, trivial⟩ rfl
   refine TW.exit ?_
   refine TE.then_exit ?_
   refine TE.lp_exit ?_
   refine TE.block_exit ?_
   exact TE.jn_go X18 [0, 0, 0, 0, 0] ⟨rfl, rfl, trivial⟩ rfl
  refine TE.next ?_
  refine TW.seq ?_
  refine TW.region ?_
  refine TO.y (Y.load_box (v := .agg #[X14.2.1, X20, .int .i64 e.Seq, X14.2.2]) 1 kk31 rfl rfl rfl) rfl rfl rfl ?_
  refine TO.ef0 (Ef.store_box (us := [X14.2.1, X20, .int .i64 e.Seq, X14.2.2]) (vs' := [X14.2.1, X20, .int .i64 e.Seq, X14.2.2]) (is' := [.box B2 31 [X14.2.1, X20, .int .i64 e.Seq, X14.2.2], .box X14.1 31 [X14.2.1, X20, .int .i64 e.Seq, X14.2.2], .own X14.2.1 (lc R3), .own X20 (lc T19), .own X14.2.2 (lc R7)]) 0 kk31 rfl rfl rfl (Cel.agg ⟨(One.can (Can.own 2 rfl)), (One.can (Can.own 3 rfl)), (One.plain rfl), (One.can (Can.own 4 rfl)), trivial⟩) rfl rfl rfl rfl) rfl rfl (fun _ => ?_)
  refine TO.nil ?_
  refine TE.next ?_
  refine TW.ret ?_
  exact TE.leaf fun _ _ hf_ hs_ => ret_any (rs := [.cell 2 31]) (vs := [.agg #[X14.2.1, X20, .int .i64 e.Seq, X14.2.2]]) (.inl rfl) rfl (RV.cell 0 rfl rfl kk31 rfl trivial) hf_ hs_ ⟨(X14.2.1, X20, X14.2.2), rfl, hs_.pulls [2, 2, 2] rfl⟩

/-- slices.Grow[[]loop.example/g00950/impl.Ent,loop.example/g00950/impl.Ent] -/
noncomputable def slices_Grow_94167_nil (n : Int) : Option (List Ent) :=
  if (decide (n < (0 : Int))) = true then (none)
  else (bindC (if (decide (IntKind.i64.wrap (n - (IntKind.i64.wrap (((0 : Nat) : Int) - ((([] : List Ent).length : Nat) : Int)))) > (0 : Int))) = true then ((piece ([] : List Ent) (0 : Int) ((0 : Nat) : Int)).bind fun E5 =>
  (zapp 48 (IntKind.i64.wrap (n - (IntKind.i64.wrap (((0 : Nat) : Int) - ((([] : List Ent).length : Nat) : Int)))))).bind fun E8 =>
  (piece (List.replicate E8 ({ Key := [], Seq := (0 : Int), Del := false, Val := [] : Ent } : Ent)) (0 : Int) ((([] : List Ent).length : Nat) : Int)).bind fun E10 =>
  some (.go E10))
  else (some (.go ([] : List Ent))))
  (fun (T2 : List Ent) => some T2))

theorem slices_Grow_94167_nil_con (n : Int)  (r : List Ent) (hm : slices_Grow_94167_nil n = some r) :
    Con Try.prog 90 [.slice none 0 0, .int .i64 n] [] [] (fun X : Value => X) (fun X => [.own X (lc r)]) := by
  refine Con.intro (args := [.slice none 0 0, .int .i64 n]) (n := 27) (val := fun _ (X : Value) => X) (post := fun r X => [.own X (lc r)]) (m := slices_Grow_94167_nil n) Try.func90 rfl rfl rfl hm ?_
  intro w S _
  unfold slices_Grow_94167_nil
  refine TW.seq ?_
  refine TW.region ?_
  refine TO.y (Y.assign rfl) rfl rfl rfl ?_
  refine TO.nil ?_
  refine TE.next ?_
  refine TW.seq ?_
  refine TW.seq ?_
  refine TW.region ?_
  refine TO.y (Y.move rfl) rfl rfl rfl ?_
  refine TO.y (Y.lss rfl rfl) rfl rfl rfl ?_
  refine TO.nil ?_
  refine TE.next ?_
  refine TW.cond rfl (fun H1 => ?_) (fun H1 => ?_)
  ·exact fun _ h_ => by cases h_
  refine TW.skip ?_
  refine TE.next ?_
  refine TW.seq ?_
  refine TW.seq ?_
  refine TW.region ?_
  refine TO.y (Y.move rfl) rfl rfl rfl ?_
  refine TO.y (Y.move rfl) rfl rfl rfl ?_
  refine TO.y (Y.capRaw (cap := 0) ke28 rfl) rfl rfl rfl ?_
  refine TO.y (Y.move rfl) rfl rfl rfl ?_
  refine TO.y (Y.len (l := ([] : List Ent)) (sz' := 0) ke28 (Can.plain fun _ => .nil _) rfl) rfl rfl rfl ?_
  refine TO.y (Y.sub rfl rfl) rfl rfl rfl ?_
  refine TO.y (Y.sub rfl rfl) rfl rfl rfl ?_
  refine TO.y (Y.assign rfl) rfl rfl rfl ?_
  refine TO.nil ?_
  refine TE.next ?_
  refine TW.seq ?_
  refine TW.region ?_
  refine TO.y (Y.move rfl) rfl rfl rfl ?_
  refine TO.y (Y.gtr rfl rfl) rfl rfl rfl ?_
  refine TO.nil ?_
  refine TE.next ?_
  refine TW.joinX (τ := List Ent) (X := Value) (fun _ X => [(0, X)]) (fun T X => [.own X (lc T)]) ?_ (fun T2 X3 => ?_)
  ·refine TW.cond rfl (fun H4 => ?_) (fun H4 => ?_)
   ·refine TW.region ?_
    refine TO.y (Y.move rfl) rfl rfl rfl ?_
    refine TO.y (Y.move rfl) rfl rfl rfl ?_
    refine TO.y (Y.capRaw (cap := 0) ke28 rfl) rfl rfl rfl ?_
    refine TO.bind fun E5 H6 => ?_
    refine TO.y (Y.subs_nil H6 ke28 rfl rfl ⟨_, rfl⟩) rfl rfl rfl ?_
    refine TO.y (Y.move rfl) rfl rfl rfl ?_
    refine TO.bind fun E8 H9 => ?_
    refine TO.ef (Ef.appZeros (α := Ent) (z := ({ Key := [], Seq := (0 : Int), Del := false, Val := [] : Ent } : Ent)) H9 ke28 ki3 kz51 rfl rfl rfl rfl rfl) rfl rfl rfl (fun V7 => ?_)
    refine TO.y (Y.move rfl) rfl rfl rfl ?_
    refine TO.y (Y.len (l := ([] : List Ent)) (sz' := 0) ke28 (Can.plain fun _ => .nil _) rfl) rfl rfl rfl ?_
    refine TO.bind fun E10 H11 => ?_
    refine TO.y (Y.subs H11 ke28 (Can.own 0 rfl) rfl rfl ⟨_, rfl⟩) rfl rfl rfl ?_
    refine TO.y (Y.assign rfl) rfl rfl rfl ?_
    refine TO.nil ?_
    refine TE.conv (is' := [.own (subV V7 4 (0 : Int).toNat (((([] : List Ent).length : Nat) : Int).toNat - (0 : Int).toNat)) (lc E10)]) (St.cut (i := 0) H11 rfl rfl rfl) ?_
    exact TE.jn_go (subV V7 4 (0 : Int).toNat (((([] : List Ent).length : Nat) : Int).toNat - (0 : Int).toNat)) [0] ⟨rfl, trivial⟩ rfl
   refine TW.skip ?_
   refine TE.nilItem 4 ?_
   exact TE.jn_go (.slice none 0 0) [0] ⟨rfl, trivial⟩ rfl
  refine TE.next ?_
  refine TW.seq ?_
  refine TW.region ?_
  refine TO.y (Y.move rfl) rfl rfl rfl ?_
  refine TO.y (Y.assign rfl) rfl rfl rfl ?_
  refine TO.nil ?_
  refine TE.next ?_
  refine TW.ret ?_
  exact TE.leaf fun _ _ hf_ hs_ => ret_any (rs := [.tmp 4]) (vs := [X3]) (.inl rfl) rfl ⟨rfl, trivial⟩ hf_ hs_ ⟨X3, rfl, hs_.pulls [0] rfl⟩

/-- slices.Concat[[]loop.example/g00950/impl.Ent,loop.example/g00950/impl.Ent] -/
noncomputable def slices_Concat_94167 (slices : List (List Ent)) : Option (List Ent) :=
  bindC (loopO (fun (S1 : Int × Int) => if (decide (S1.2 < ((slices.length : Nat) : Int))) = true then ((idx slices S1.2).bind fun E6 =>
  if (decide (IntKind.i64.wrap (S1.1 + ((E6.length : Nat) : Int)) < (0 : Int))) = true then (none)
  else (some (.go (IntKind.i64.wrap (S1.1 + ((E6.length : Nat) : Int)), IntKind.i64.wrap (S1.2 + (1 : Int))))))
  else (some (.done (.go S1.1))))
  ((0 : Int), (0 : Int)))
  (fun (T3 : Int) => (slices_Grow_94167_nil T3).bind fun R10 =>
  bindC (loopO (fun (S13 : Int × List Ent) => if (decide (S13.1 < ((slices.length : Nat) : Int))) = true then ((idx slices S13.1).bind fun E18 =>
  (app 48 S13.2 E18).bind fun E22 =>
  some (.go (IntKind.i64.wrap (S13.1 + (1 : Int)), E22)))
  else (some (.done (.go S13.2))))
  ((0 : Int), R10))
  (fun (T15 : List Ent) => some T15))

theorem slices_Concat_94167_con (slices : List (List Ent)) (V_slices0 : Value) (r : List Ent) (hm : slices_Concat_94167 slices = some r) :
    Con Try.prog 70 [V_slices0] [] [(V_slices0, lc slices)] (fun X : Value => X) (fun X => [.own X (lc r)]) := by
  refine Con.intro (args := [V_slices0]) (n := 36) (val := fun _ (X : Value) => X) (post := fun r X => [.own X (lc r)]) (m := slices_Concat_94167 slices) Try.func70 rfl rfl rfl hm ?_
  intro w S hrd
  have HB_V_slices0 := hrd _ (.head _)
  clear hrd
  unfold slices_Concat_94167
  refine TW.seq ?_
  refine TW.region ?_
  refine TO.y (Y.assign rfl) rfl rfl rfl ?_
  refine TO.nil ?_
  refine TE.next ?_
  refine TW.seq ?_
  refine TW.region ?_
  refine TO.y (Y.assign rfl) rfl rfl rfl ?_
  refine TO.nil ?_
  refine TE.next ?_
  refine TW.seq ?_
  refine TW.seq ?_
  refine TW.region ?_
  refine TO.y (Y.move rfl) rfl rfl rfl ?_
  refine TO.y (Y.len (l := slices) ke29 (Base.can HB_V_slices0) rfl) rfl rfl rfl ?_
  refine TO.y (Y.move rfl) rfl rfl rfl ?_
  refine TO.nil ?_
  refine TE.next ?_
  refine TW.joinX (τ := Int) (X := Unit) (fun T _ => [(0, V_slices0), (3, .int .i64 T)]) (fun _ _ => []) ?_ (fun T3 X4 => ?_)
  ·refine TW.block ?_
   refine TW.loopX (σ := Int × Int) (X := Unit) (fun T _ => [(0, V_slices0), (3, .int .i64 T.1), (9, V_slices0), (10, .int .i64 ((slices.length : Nat) : Int)), (11, .int .i64 T.2)]) (fun _ _ => []) () [] ⟨rfl, rfl, rfl, rfl, rfl, trivial⟩ rfl (fun S1 X2 => ?_)
   refine TW.seq ?_
   refine TW.region ?_
   refine TO.y (Y.lss rfl rfl) rfl rfl rfl ?_
   refine TO.nil ?_
   refine TE.next ?_
   refine TW.seq ?_
   refine TW.cond rfl (fun H5 => ?_) (fun H5 => ?_)
   ·refine TW.skip ?_
    refine TE.next ?_
    refine TW.seq ?_
    refine TW.block ?_
    refine TW.seq ?_
    refine TW.region ?_
    refine TO.bind fun E6 H7 => ?_
    refine TO.y (Y.index ke29 (Base.can HB_V_slices0) H7 rfl rfl) rfl rfl rfl ?_
    have Q8 : Base w S (elv w V_slices0 (S1.2.toNat * 1 + 0)) (lc E6) := Base.el HB_V_slices0 (idx_get H7).2.2 rfl rfl
    refine TO.y (Y.load_base (α := List Ent) (u := (elv w V_slices0 (S1.2.toNat * 1 + 0))) kk28 rfl HB_V_slices0 (idx_get H7).2.2 rfl rfl rfl rfl rfl) rfl rfl rfl ?_
    refine TO.y (Y.assign rfl) rfl rfl rfl ?_
    refine TO.nil ?_
    refine TE.next ?_
    refine TW.seq ?_
    refine TW.region ?_
    refine TO.y (Y.move rfl) rfl rfl rfl ?_
    refine TO.y (Y.move rfl) rfl rfl rfl ?_
    refine TO.y (Y.len (l := E6) ke28 (Base.can Q8) rfl) rfl rfl rfl ?_
    refine TO.y (Y.add rfl rfl) rfl rfl rfl ?_
    refine TO.y (Y.assign rfl) rfl rfl rfl ?_
    refine TO.nil ?_
    refine TE.next ?_
    refine TW.seq ?_
    refine TW.region ?_
    refine TO.y (Y.move rfl) rfl rfl rfl ?_
    refine TO.y (Y.lss rfl rfl) rfl rfl rfl ?_
    refine TO.nil ?_
    refine TE.next ?_
    refine TW.cond rfl (fun H9 => ?_) (fun H9 => ?_)
    ·exact fun _ h_ => by cases h_
    refine TW.skip ?_
    refine TE.block_normal ?_
    refine TE.next ?_
    refine TW.region ?_
    refine TO.y (Y.add rfl rfl) rfl rfl rfl ?_
    refine TO.y (Y.move rfl) rfl rfl rfl ?_
    refine TO.nil ?_
    exact TE.lp_go () [] ⟨rfl, rfl, rfl, rfl, rfl, trivial⟩ rfl
   refine TW.exit ?_
   refine TE.then_exit ?_
   refine TE.lp_exit ?_
   refine TE.block_exit ?_
   exact TE.jn_go () [] ⟨rfl, rfl, trivial⟩ rfl
  refine TE.next ?_
  refine TW.seq ?_
  refine TW.region ?_
  refine TO.y (Y.move rfl) rfl rfl rfl ?_
  refine TO.bind fun R10 H11 => ?_
  refine TO.ef (Ef.call (rest := []) [] (slices_Grow_94167_nil_con T3  R10 H11) kc90 rfl rfl trivial) rfl rfl rfl (fun Y12 => ?_)
  refine TO.y (Y.assign rfl) rfl rfl rfl ?_
  refine TO.nil ?_
  refine TE.next ?_
  refine TW.seq ?_
  refine TW.seq ?_
  refine TW.region ?_
  refine TO.y (Y.move rfl) rfl rfl rfl ?_
  refine TO.y (Y.len (l := slices) ke29 (Base.can HB_V_slices0) rfl) rfl rfl rfl ?_
  refine TO.y (Y.move rfl) rfl rfl rfl ?_
  refine TO.nil ?_
  refine TE.next ?_
  refine TW.joinX (τ := List Ent) (X := Value) (fun _ X => [(6, X)]) (fun T X => [.own X (lc T)]) ?_ (fun T15 X16 => ?_)
  ·refine TW.block ?_
   refine TW.loopX (σ := Int × List Ent) (X := Value) (fun T X => [(6, X), (25, V_slices0), (26, .int .i64 ((slices.length : Nat) : Int)), (27, .int .i64 T.1)]) (fun T X => [.own X (lc T.2)]) Y12 [0] ⟨rfl, rfl, rfl, rfl, trivial⟩ rfl (fun S13 X14 => ?_)
   refine TW.seq ?_
   refine TW.region ?_
   refine TO.y (Y.lss rfl rfl) rfl rfl rfl ?_
   refine TO.nil ?_
   refine TE.next ?_
   refine TW.seq ?_
   refine TW.cond rfl (fun H17 => ?_) (fun H17 => ?_)
   ·refine TW.skip ?_
    refine TE.next ?_
    refine TW.seq ?_
    refine TW.block ?_
    refine TW.seq ?_
    refine TW.region ?_
    refine TO.bind fun E18 H19 => ?_
    refine TO.y (Y.index ke29 (Base.can HB_V_slices0) H19 rfl rfl) rfl rfl rfl ?_
    have Q20 : Base w S (elv w V_slices0 (S13.1.toNat * 1 + 0)) (lc E18) := Base.el HB_V_slices0 (idx_get H19).2.2 rfl rfl
    refine TO.y (Y.load_base (α := List Ent) (u := (elv w V_slices0 (S13.1.toNat * 1 + 0))) kk28 rfl HB_V_slices0 (idx_get H19).2.2 rfl rfl rfl rfl rfl) rfl rfl rfl ?_
    refine TO.y (Y.assign rfl) rfl rfl rfl ?_
    refine TO.nil ?_
    refine TE.next ?_
    refine TW.region ?_
    refine TO.y (Y.move rfl) rfl rfl rfl ?_
    refine TO.y (Y.move rfl) rfl rfl rfl ?_
    refine TO.bind fun E22 H23 => ?_
    refine TO.ef (Ef.append (α := Ent) (is' := []) [0] H23 ke28 kz51 rfl rfl rfl rfl rfl (Base.can Q20)) rfl rfl rfl (fun V21 => ?_)
    refine TO.y (Y.assign rfl) rfl rfl rfl ?_
    refine TO.nil ?_
    refine TE.block_normal ?_
    refine TE.next ?_
    refine TW.region ?_
    refine TO.y (Y.add rfl rfl) rfl rfl rfl ?_
    refine TO.y (Y.move rfl) rfl rfl rfl ?_
    refine TO.nil ?_
    exact TE.lp_go V21 [0] ⟨rfl, rfl, rfl, rfl, trivial⟩ rfl
   refine TW.exit ?_
   refine TE.then_exit ?_
   refine TE.lp_exit ?_
   refine TE.block_exit ?_
   exact TE.jn_go X14 [0] ⟨rfl, trivial⟩ rfl
  refine TE.next ?_
  refine TW.seq ?_
  refine TW.region ?_
  refine TO.y (Y.move rfl) rfl rfl rfl ?_
  refine TO.y (Y.assign rfl) rfl rfl rfl ?_
  refine TO.nil ?_
  refine TE.next ?_
  refine TW.ret ?_
  exact TE.leaf fun _ _ hf_ hs_ => ret_any (rs := [.tmp 2]) (vs := [X16]) (.inl rfl) rfl ⟨rfl, trivial⟩ hf_ hs_ ⟨X16, rfl, hs_.pulls [0] rfl⟩

/-- slices.Clip[[]loop.example/g00950/impl.Ent,loop.example/g00950/impl.Ent] -/
noncomputable def slices_Clip_94167 (s : List Ent) : Option (List Ent) :=
  (piece s (0 : Int) ((s.length : Nat) : Int)).bind fun E1 =>
  some E1

theorem slices_Clip_94167_con (s : List Ent) (V_s0 : Value) (r : List Ent) (hm : slices_Clip_94167 s = some r) :
    Con Try.prog 73 [V_s0] [.own V_s0 (lc s)] [] (fun X : Value => X) (fun X => [.own X (lc r)]) := by
  refine Con.intro (args := [V_s0]) (n := 9) (val := fun _ (X : Value) => X) (post := fun r X => [.own X (lc r)]) (m := slices_Clip_94167 s) Try.func73 rfl rfl rfl hm ?_
  intro w S _
  unfold slices_Clip_94167
  refine TW.seq ?_
  refine TW.region ?_
  refine TO.y (Y.assign rfl) rfl rfl rfl ?_
  refine TO.nil ?_
  refine TE.next ?_
  refine TW.seq ?_
  refine TW.region ?_
  refine TO.y (Y.move rfl) rfl rfl rfl ?_
  refine TO.y (Y.move rfl) rfl rfl rfl ?_
  refine TO.y (Y.len (l := s) ke28 (Can.own 0 rfl) rfl) rfl rfl rfl ?_
  refine TO.y (Y.move rfl) rfl rfl rfl ?_
  refine TO.y (Y.len (l := s) ke28 (Can.own 0 rfl) rfl) rfl rfl rfl ?_
  refine TO.bind fun E1 H2 => ?_
  refine TO.y (Y.subs30 H2 ke28 (Can.own 0 rfl) rfl rfl rfl) rfl rfl rfl ?_
  refine TO.conv (is' := [.own (sub3V V_s0 4 (0 : Int).toNat (((s.length : Nat) : Int).toNat - (0 : Int).toNat) s.length) (lc E1)]) (St.clip (i := 0) H2 rfl rfl rfl) ?_
  refine TO.y (Y.assign rfl) rfl rfl rfl ?_
  refine TO.nil ?_
  refine TE.next ?_
  refine TW.ret ?_
  exact TE.leaf fun _ _ hf_ hs_ => ret_any (rs := [.tmp 2]) (vs := [sub3V V_s0 4 (0 : Int).toNat (((s.length : Nat) : Int).toNat - (0 : Int).toNat) s.length]) (.inl rfl) rfl ⟨rfl, trivial⟩ hf_ hs_ ⟨(sub3V V_s0 4 (0 : Int).toNat (((s.length : Nat) : Int).toNat - (0 : Int).toNat) s.length), rfl, hs_.pulls [0] rfl⟩

/-- slices.insertionSortCmpFunc[loop.example/g00950/impl.Ent] -/
noncomputable def slices_insertionSortCmpFunc_57869_at_impl_compareEnts (data : List Ent) (a : Int) (b : Int) : Option (List Ent) :=
  bindC (loopO (fun (S1 : Int × List Ent) => if (decide (S1.1 < b)) = true then (bindC (loopO (fun (S6 : Int × List Ent) => (if (decide (S6.1 > a)) = true then ((idx S6.2 S6.1).bind fun E13 =>
  (idx S6.2 (IntKind.i64.wrap (S6.1 - (1 : Int)))).bind fun E15 =>
  (impl_compareEnts E13 E15).bind fun R17 =>
  some (decide (R17 < (0 : Int))))
  else (some false)).bind (fun (T10 : Bool) =>
  if T10 = true then ((idx S6.2 (IntKind.i64.wrap (S6.1 - (1 : Int)))).bind fun E21 =>
  (idx S6.2 S6.1).bind fun E23 =>
  (idx (S6.2.set S6.1.toNat E21) (IntKind.i64.wrap (S6.1 - (1 : Int)))).bind fun E25 =>
  some (.go (IntKind.i64.wrap (S6.1 - (1 : Int)), ((S6.2.set S6.1.toNat E21).set ((IntKind.i64.wrap (S6.1 - (1 : Int))).toNat) E23))))
  else (some (.done (.go S6.2)))))
  (S1.1, S1.2))
  (fun (T8 : List Ent) => some (.go (IntKind.i64.wrap (S1.1 + (1 : Int)), T8))))
  else (some (.done (.go S1.2))))
  (IntKind.i64.wrap (a + (1 : Int)), data))
  (fun (T3 : List Ent) => some T3)

theorem slices_insertionSortCmpFunc_57869_at_impl_compareEnts_con (data : List Ent) (a : Int) (b : Int) (V_data0 : Value) (r : List Ent) (hm : slices_insertionSortCmpFunc_57869_at_impl_compareEnts data a b = some r) :
    Con Try.prog 101 [V_data0, .int .i64 a, .int .i64 b, .func (.func 72) #[] #[]] [.own V_data0 (lc data)] [] (fun _ : Unit => .tuple #[]) (fun _ => [.own V_data0 (lc r)]) := by
  refine Con.intro (args := [V_data0, .int .i64 a, .int .i64 b, .func (.func 72) #[] #[]]) (n := 53) (val := fun _ (_ : Unit) => .tuple #[]) (post := fun r _ => [.own V_data0 (lc r)]) (m := slices_insertionSortCmpFunc_57869_at_impl_compareEnts data a b) Try.func101 rfl rfl rfl hm ?_
  intro w S _
  unfold slices_insertionSortCmpFunc_57869_at_impl_compareEnts
  refine TW.seq ?_
  refine TW.region ?_
  refine TO.y (Y.move rfl) rfl rfl rfl ?_
  refine TO.y (Y.add rfl rfl) rfl rfl rfl ?_
  refine TO.y (Y.assign rfl) rfl rfl rfl ?_
  refine TO.nil ?_
  refine TE.next ?_
  refine TW.joinX (τ := List Ent) (X := Unit) (fun _ _ => []) (fun T _ => [.own V_data0 (lc T)]) ?_ (fun T3 X4 => ?_)
  ·refine TW.block ?_
   refine TW.loopX (σ := Int × List Ent) (X := Unit) (fun T _ => [(0, V_data0), (1, .int .i64 a), (2, .int .i64 b), (3, .func (.func 72) #[] #[]), (8, .int .i64 T.1)]) (fun T _ => [.own V_data0 (lc T.2)]) () [0] ⟨rfl, rfl, rfl, rfl, rfl, trivial⟩ rfl (fun S1 X2 => ?_)
   refine TW.seq ?_
   refine TW.seq ?_
   refine TW.region ?_
   refine TO.y (Y.move rfl) rfl rfl rfl ?_
   refine TO.y (Y.move rfl) rfl rfl rfl ?_
   refine TO.y (Y.lss rfl rfl) rfl rfl rfl ?_
   refine TO.nil ?_
   refine TE.next ?_
   refine TW.cond rfl (fun H5 => ?_) (fun H5 => ?_)
   ·refine TW.skip ?_
    refine TE.next ?_
    refine TW.seq ?_
    refine TW.block ?_
    refine TW.seq ?_
    refine TW.region ?_
    refine TO.y (Y.move rfl) rfl rfl rfl ?_
    refine TO.y (Y.assign rfl) rfl rfl rfl ?_
    refine TO.nil ?_
    refine TE.next ?_
    refine TW.joinX (τ := List Ent) (X := Unit) (fun _ _ => [(0, V_data0), (1, .int .i64 a), (2, .int .i64 b), (3, .func (.func 72) #[] #[]), (8, .int .i64 S1.1)]) (fun T _ => [.own V_data0 (lc T)]) ?_ (fun T8 X9 => ?_)
    ·refine TW.block ?_
     refine TW.loopX (σ := Int × List Ent) (X := Unit) (fun T _ => [(0, V_data0), (1, .int .i64 a), (2, .int .i64 b), (3, .func (.func 72) #[] #[]), (8, .int .i64 S1.1), (9, .int .i64 T.1)]) (fun T _ => [.own V_data0 (lc T.2)]) () [0] ⟨rfl, rfl, rfl, rfl, rfl, rfl, trivial⟩ rfl (fun S6 X7 => ?_)
     refine TW.seq ?_
     refine TW.seq ?_
     refine TW.joinBX (τ := Bool) (X := Unit) (fun T _ => [(0, V_data0), (1, .int .i64 a), (2, .int .i64 b), (3, .func (.func 72) #[] #[]), (8, .int .i64 S1.1), (9, .int .i64 S6.1), (34, .bool T)]) (fun _ _ => [.own V_data0 (lc S6.2)]) ?_ (fun T10 X11 => ?_)
     ·refine TW.draw (isH := [.own V_data0 (lc S6.2)]) hMix ?_
      refine TA.y 0 [0] rfl (Y.move rfl) rfl rfl rfl (by kernel_rfl) rfl ?_
      refine TA.y 1 [0] rfl (Y.move rfl) rfl rfl rfl (by kernel_rfl) rfl ?_
      refine TA.y 2 [0] rfl (Y.gtr rfl rfl) rfl rfl rfl (by kernel_rfl) rfl ?_
      refine TA.y 3 [0] rfl (Y.move rfl) rfl rfl rfl (by kernel_rfl) rfl ?_
      refine TA.ite (b := decide (S6.1 > a)) (fun H12 => ?_) (fun H12 => ?_)
      ·refine TA.y 4 [0] rfl (Y.move rfl) (Gd.at 3 true 21 (decide (S6.1 > a)) rfl rfl rfl (beq_tt H12)) rfl rfl (by kernel_rfl) rfl ?_
       refine TA.y 5 [0] rfl (Y.move rfl) (Gd.at 3 true 21 (decide (S6.1 > a)) rfl rfl rfl (beq_tt H12)) rfl rfl (by kernel_rfl) rfl ?_
       refine TA.y 6 [0] rfl (Y.move rfl) (Gd.at 3 true 21 (decide (S6.1 > a)) rfl rfl rfl (beq_tt H12)) rfl rfl (by kernel_rfl) rfl ?_
       refine TA.bind fun E13 H14 => ?_
       refine TA.y 7 [0] rfl (Y.index ke28 (Can.own 0 rfl) H14 rfl rfl) (Gd.at 3 true 21 (decide (S6.1 > a)) rfl rfl rfl (beq_tt H12)) rfl rfl (by kernel_rfl) rfl ?_
       refine TA.y 8 [0] rfl (Y.load_el (us := [strV E13.Key, .int .i64 E13.Seq, .bool E13.Del, strV E13.Val]) (u := .agg #[strV E13.Key, .int .i64 E13.Seq, .bool E13.Del, strV E13.Val]) kk51 rfl (Can.own 0 rfl) (idx_get H14).2.2 rfl rfl rfl rfl rfl) (Gd.at 3 true 21 (decide (S6.1 > a)) rfl rfl rfl (beq_tt H12)) rfl rfl (by kernel_rfl) rfl ?_
       refine TA.y 9 [0] rfl (Y.move rfl) (Gd.at 3 true 21 (decide (S6.1 > a)) rfl rfl rfl (beq_tt H12)) rfl rfl (by kernel_rfl) rfl ?_
       refine TA.y 10 [0] rfl (Y.move rfl) (Gd.at 3 true 21 (decide (S6.1 > a)) rfl rfl rfl (beq_tt H12)) rfl rfl (by kernel_rfl) rfl ?_
       refine TA.y 11 [0] rfl (Y.sub rfl rfl) (Gd.at 3 true 21 (decide (S6.1 > a)) rfl rfl rfl (beq_tt H12)) rfl rfl (by kernel_rfl) rfl ?_
       refine TA.bind fun E15 H16 => ?_
       refine TA.y 12 [0] rfl (Y.index ke28 (Can.own 0 rfl) H16 rfl rfl) (Gd.at 3 true 21 (decide (S6.1 > a)) rfl rfl rfl (beq_tt H12)) rfl rfl (by kernel_rfl) rfl ?_
       refine TA.y 13 [0] rfl (Y.load_el (us := [strV E15.Key, .int .i64 E15.Seq, .bool E15.Del, strV E15.Val]) (u := .agg #[strV E15.Key, .int .i64 E15.Seq, .bool E15.Del, strV E15.Val]) kk51 rfl (Can.own 0 rfl) (idx_get H16).2.2 rfl rfl rfl rfl rfl) (Gd.at 3 true 21 (decide (S6.1 > a)) rfl rfl rfl (beq_tt H12)) rfl rfl (by kernel_rfl) rfl ?_
       refine TA.bind fun R17 H18 => ?_
       refine TA.one 14 (by kernel_rfl) ?_
       refine TX.ef [0] rfl (Ef.callv (rest := [.own V_data0 (lc S6.2)]) [0] (impl_compareEnts_con E13 E15  R17 H18) kc72 rfl rfl rfl rfl trivial) (Gd.at 3 true 21 (decide (S6.1 > a)) rfl rfl rfl (beq_tt H12)) rfl rfl (fun _ => rfl) (fun _ => ?_)
       refine TA.y 15 [0] rfl (Y.lss rfl rfl) (Gd.at 3 true 21 (decide (S6.1 > a)) rfl rfl rfl (beq_tt H12)) rfl rfl (by kernel_rfl) rfl ?_
       refine TA.y 16 [0] rfl (Y.pick_t H12 rfl rfl) rfl rfl rfl (by kernel_rfl) rfl ?_
       refine TA.nil (by kernel_rfl) ?_
       exact TE.jb_go () [0] ⟨rfl, rfl, rfl, rfl, rfl, rfl, rfl, trivial⟩ rfl
      refine TA.off 4 [0] rfl (Gd.at 3 true 21 (decide (S6.1 > a)) rfl rfl rfl (beq_ft H12)) rfl rfl (by kernel_rfl) rfl ?_
      refine TA.off 5 [0] rfl (Gd.at 3 true 21 (decide (S6.1 > a)) rfl rfl rfl (beq_ft H12)) rfl rfl (by kernel_rfl) rfl ?_
      refine TA.off 6 [0] rfl (Gd.at 3 true 21 (decide (S6.1 > a)) rfl rfl rfl (beq_ft H12)) rfl rfl (by kernel_rfl) rfl ?_
      refine TA.off 7 [0] rfl (Gd.at 3 true 21 (decide (S6.1 > a)) rfl rfl rfl (beq_ft H12)) rfl rfl (by kernel_rfl) rfl ?_
      refine TA.off 8 [0] rfl (Gd.at 3 true 21 (decide (S6.1 > a)) rfl rfl rfl (beq_ft H12)) rfl rfl (by kernel_rfl) rfl ?_
      refine TA.off 9 [0] rfl (Gd.at 3 true 21 (decide (S6.1 > a)) rfl rfl rfl (beq_ft H12)) rfl rfl (by kernel_rfl) rfl ?_
      refine TA.off 10 [0] rfl (Gd.at 3 true 21 (decide (S6.1 > a)) rfl rfl rfl (beq_ft H12)) rfl rfl (by kernel_rfl) rfl ?_
      refine TA.off 11 [0] rfl (Gd.at 3 true 21 (decide (S6.1 > a)) rfl rfl rfl (beq_ft H12)) rfl rfl (by kernel_rfl) rfl ?_
      refine TA.off 12 [0] rfl (Gd.at 3 true 21 (decide (S6.1 > a)) rfl rfl rfl (beq_ft H12)) rfl rfl (by kernel_rfl) rfl ?_
      refine TA.off 13 [0] rfl (Gd.at 3 true 21 (decide (S6.1 > a)) rfl rfl rfl (beq_ft H12)) rfl rfl (by kernel_rfl) rfl ?_
      refine TA.off 14 [0] rfl (Gd.at 3 true 21 (decide (S6.1 > a)) rfl rfl rfl (beq_ft H12)) rfl rfl (by kernel_rfl) rfl ?_
      refine TA.off 15 [0] rfl (Gd.at 3 true 21 (decide (S6.1 > a)) rfl rfl rfl (beq_ft H12)) rfl rfl (by kernel_rfl) rfl ?_
      refine TA.y 16 [0] rfl (Y.pick_f H12 rfl rfl) rfl rfl rfl (by kernel_rfl) rfl ?_
      refine TA.nil (by kernel_rfl) ?_
      exact TE.jb_go () [0] ⟨rfl, rfl, rfl, rfl, rfl, rfl, rfl, trivial⟩ rfl
     refine TE.next ?_
     refine TW.cond rfl (fun H20 => ?_) (fun H20 => ?_)
     ·refine TW.skip ?_
      refine TE.next ?_
      refine TW.seq ?_
      refine TW.block ?_
      refine TW.bind fun E21 H22 => ?_
      refine TW.bind fun E23 H24 => ?_
      refine TW.bind fun E25 H26 => ?_
      refine TW.joinU (X := Unit) (fun _ _ => [(0, V_data0), (1, .int .i64 a), (2, .int .i64 b), (3, .func (.func 72) #[] #[]), (8, .int .i64 S1.1), (9, .int .i64 S6.1)]) (fun _ _ => [.own V_data0 (lc ((S6.2.set S6.1.toNat E21).set ((IntKind.i64.wrap (S6.1 - (1 : Int))).toNat) E23))]) ?_ (fun _ X28 => ?_)
      ·refine TW.draw (isH := []) hMix ?_
       refine TA.y 0 [] rfl (Y.move rfl) rfl rfl rfl (by kernel_rfl) rfl ?_
       refine TA.y 1 [] rfl (Y.move rfl) rfl rfl rfl (by kernel_rfl) rfl ?_
       refine TA.y 2 [] rfl (Y.move rfl) rfl rfl rfl (by kernel_rfl) rfl ?_
       refine TA.y 3 [] rfl (Y.move rfl) rfl rfl rfl (by kernel_rfl) rfl ?_
       refine TA.y 4 [] rfl (Y.sub rfl rfl) rfl rfl rfl (by kernel_rfl) rfl ?_
       refine TA.y 5 [] rfl (Y.move rfl) rfl rfl rfl (by kernel_rfl) rfl ?_
       refine TA.y 6 [] rfl (Y.move rfl) rfl rfl rfl (by kernel_rfl) rfl ?_
       refine TA.y 7 [] rfl (Y.sub rfl rfl) rfl rfl rfl (by kernel_rfl) rfl ?_
       refine TA.y 10 [] rfl (Y.move rfl) rfl rfl rfl (by kernel_rfl) rfl ?_
       refine TA.y 11 [] rfl (Y.move rfl) rfl rfl rfl (by kernel_rfl) rfl ?_
       refine TA.two 8 12 (by kernel_rfl) ?_ ?_
       ·refine TX.y [] rfl (Y.index ke28 (Can.own 0 rfl) H22 rfl rfl) rfl rfl rfl rfl ?_
        refine TA.two 9 12 (by kernel_rfl) ?_ ?_
        ·refine TX.y [] rfl (Y.load_el (us := [strV E21.Key, .int .i64 E21.Seq, .bool E21.Del, strV E21.Val]) (u := .agg #[strV E21.Key, .int .i64 E21.Seq, .bool E21.Del, strV E21.Val]) kk51 rfl (Can.own 0 rfl) (idx_get H22).2.2 rfl rfl rfl rfl rfl) rfl rfl rfl rfl ?_
         refine TA.one 12 (by kernel_rfl) ?_
         refine TX.y [] rfl (Y.index ke28 (Can.own 0 rfl) H24 rfl rfl) rfl rfl rfl rfl ?_
         refine TA.one 13 (by kernel_rfl) ?_
         refine TX.y [] rfl (Y.load_el (us := [strV E23.Key, .int .i64 E23.Seq, .bool E23.Del, strV E23.Val]) (u := .agg #[strV E23.Key, .int .i64 E23.Seq, .bool E23.Del, strV E23.Val]) kk51 rfl (Can.own 0 rfl) (idx_get H24).2.2 rfl rfl rfl rfl rfl) rfl rfl rfl rfl ?_
         refine TA.one 14 (by kernel_rfl) ?_
         refine TX.y [] rfl (Y.index ke28 (Can.own 0 rfl) H24 rfl rfl) rfl rfl rfl rfl ?_
         refine TA.one 15 (by kernel_rfl) ?_
         refine TX.ef0 [] rfl (Ef.store_el (us := [strV E21.Key, .int .i64 E21.Seq, .bool E21.Del, strV E21.Val]) (is' := [.own V_data0 (lc (S6.2.set S6.1.toNat E21))]) E21 0 kk51 rfl rfl (idx_get H24).2.2 rfl rfl (Cel.plain rfl rfl) rfl rfl rfl rfl) rfl rfl (fun _ => rfl) (fun _ => ?_)
         refine TA.one 16 (by kernel_rfl) ?_
         refine TX.y [] rfl (Y.index ke28 (Can.own 0 rfl) H26 rfl rfl) rfl rfl rfl rfl ?_
         refine TA.one 17 (by kernel_rfl) ?_
         refine TX.ef0 [] rfl (Ef.store_el (us := [strV E23.Key, .int .i64 E23.Seq, .bool E23.Del, strV E23.Val]) (is' := [.own V_data0 (lc ((S6.2.set S6.1.toNat E21).set ((IntKind.i64.wrap (S6.1 - (1 : Int))).toNat) E23))]) E23 0 kk51 rfl rfl (idx_get H26).2.2 rfl rfl (Cel.plain rfl rfl) rfl rfl rfl rfl) rfl rfl (fun _ => rfl) (fun _ => ?_)
         refine TA.nil (by kernel_rfl) ?_
         exact TE.jb_go () [0] ⟨rfl, rfl, rfl, rfl, rfl, rfl, trivial⟩ rfl
        refine TX.y [] rfl (Y.index ke28 (Can.own 0 rfl) H24 rfl rfl) rfl rfl rfl rfl ?_
        refine TA.two 9 13 (by kernel_rfl) ?_ ?_
        ·refine TX.y [] rfl (Y.load_el (us := [strV E21.Key, .int .i64 E21.Seq, .bool E21.Del, strV E21.Val]) (u := .agg #[strV E21.Key, .int .i64 E21.Seq, .bool E21.Del, strV E21.Val]) kk51 rfl (Can.own 0 rfl) (idx_get H22).2.2 rfl rfl rfl rfl rfl) rfl rfl rfl rfl ?_
         refine TA.one 13 (by kernel_rfl) ?_
         refine TX.y [] rfl (Y.load_el (us := [strV E23.Key, .int .i64 E23.Seq, .bool E23.Del, strV E23.Val]) (u := .agg #[strV E23.Key, .int .i64 E23.Seq, .bool E23.Del, strV E23.Val]) kk51 rfl (Can.own 0 rfl) (idx_get H24).2.2 rfl rfl rfl rfl rfl) rfl rfl rfl rfl ?_
         refine TA.one 14 (by kernel_rfl) ?_
         refine TX.y [] rfl (Y.index ke28 (Can.own 0 rfl) H24 rfl rfl) rfl rfl rfl rfl ?_
         refine TA.one 15 (by kernel_rfl) ?_
         refine TX.ef0 [] rfl (Ef.store_el (us := [strV E21.Key, .int .i64 E21.Seq, .bool E21.Del, strV E21.Val]) (is' := [.own V_data0 (lc (S6.2.set S6.1.toNat E21))]) E21 0 kk51 rfl rfl (idx_get H24).2.2 rfl rfl (Cel.plain rfl rfl) rfl rfl rfl rfl) rfl rfl (fun _ => rfl) (fun _ => ?_)
         refine TA.one 16 (by kernel_rfl) ?_
         refine TX.y [] rfl (Y.index ke28 (Can.own 0 rfl) H26 rfl rfl) rfl rfl rfl rfl ?_
         refine TA.one 17 (by kernel_rfl) ?_
         refine TX.ef0 [] rfl (Ef.store_el (us := [strV E23.Key, .int .i64 E23.Seq, .bool E23.Del, strV E23.Val]) (is' := [.own V_data0 (lc ((S6.2.set S6.1.toNat E21).set ((IntKind.i64.wrap (S6.1 - (1 : Int))).toNat) E23))]) E23 0 kk51 rfl rfl (idx_get H26).2.2 rfl rfl (Cel.plain rfl rfl) rfl rfl rfl rfl) rfl rfl (fun _ => rfl) (fun _ => ?_)
         refine TA.nil (by kernel_rfl) ?_
         exact TE.jb_go () [0] ⟨rfl, rfl, rfl, rfl, rfl, rfl, trivial⟩ rfl
        refine TX.y [] rfl (Y.load_el (us := [strV E23.Key, .int .i64 E23.Seq, .bool E23.Del, strV E23.Val]) (u := .agg #[strV E23.Key, .int .i64 E23.Seq, .bool E23.Del, strV E23.Val]) kk51 rfl (Can.own 0 rfl) (idx_get H24).2.2 rfl rfl rfl rfl rfl) rfl rfl rfl rfl ?_
        refine TA.one 9 (by kernel_rfl) ?_
        refine TX.y [] rfl (Y.load_el (us := [strV E21.Key, .int .i64 E21.Seq, .bool E21.Del, strV E21.Val]) (u := .agg #[strV E21.Key, .int .i64 E21.Seq, .bool E21.Del, strV E21.Val]) kk51 rfl (Can.own 0 rfl) (idx_get H22).2.2 rfl rfl rfl rfl rfl) rfl rfl rfl rfl ?_
        refine TA.one 14 (by kernel_rfl) ?_
        refine TX.y [] rfl (Y.index ke28 (Can.own 0 rfl) H24 rfl rfl) rfl rfl rfl rfl ?_
        refine TA.one 15 (by kernel_rfl) ?_
        refine TX.ef0 [] rfl (Ef.store_el (us := [strV E21.Key, .int .i64 E21.Seq, .bool E21.Del, strV E21.Val]) (is' := [.own V_data0 (lc (S6.2.set S6.1.toNat E21))]) E21 0 kk51 rfl rfl (idx_get H24).2.2 rfl rfl (Cel.plain rfl rfl) rfl rfl rfl rfl) rfl rfl (fun _ => rfl) (fun _ => ?_)
        refine TA.one 16 (by kernel_rfl) ?_
        refine TX.y [] rfl (Y.index ke28 (Can.own 0 rfl) H26 rfl rfl) rfl rfl rfl rfl ?_
        refine TA.one 17 (by kernel_rfl) ?_
        refine TX.ef0 [] rfl (Ef.store_el (us := [strV E23.Key, .int .i64 E23.Seq, .bool E23.Del, strV E23.Val]) (is' := [.own V_data0 (lc ((S6.2.set S6.1.toNat E21).set ((IntKind.i64.wrap (S6.1 - (1 : Int))).toNat) E23))]) E23 0 kk51 rfl rfl (idx_get H26).2.2 rfl rfl (Cel.plain rfl rfl) rfl rfl rfl rfl) rfl rfl (fun _ => rfl) (fun _ => ?_)
        refine TA.nil (by kernel_rfl) ?_
        exact TE.jb_go () [0] ⟨rfl, rfl, rfl, rfl, rfl, rfl, trivial⟩ rfl
       refine TX.y [] rfl (Y.index ke28 (Can.own 0 rfl) H24 rfl rfl) rfl rfl rfl rfl ?_
       refine TA.two 8 13 (by kernel_rfl) ?_ ?_
       ·refine TX.y [] rfl (Y.index ke28 (Can.own 0 rfl) H22 rfl rfl) rfl rfl rfl rfl ?_
        refine TA.two 9 13 (by kernel_rfl) ?_ ?_
        ·refine TX.y [] rfl (Y.load_el (us := [strV E21.Key, .int .i64 E21.Seq, .bool E21.Del, strV E21.Val]) (u := .agg #[strV E21.Key, .int .i64 E21.Seq, .bool E21.Del, strV E21.Val]) kk51 rfl (Can.own 0 rfl) (idx_get H22).2.2 rfl rfl rfl rfl rfl) rfl rfl rfl rfl ?_
         refine TA.one 13 (by kernel_rfl) ?_
         refine TX.y [] rfl (Y.load_el (us := [strV E23.Key, .int .i64 E23.Seq, .bool E23.Del, strV E23.Val]) (u := .agg #[strV E23.Key, .int .i64 E23.Seq, .bool E23.Del, strV E23.Val]) kk51 rfl (Can.own 0 rfl) (idx_get H24).2.2 rfl rfl rfl rfl rfl) rfl rfl rfl rfl ?_
         refine TA.one 14 (by kernel_rfl) ?_
         refine TX.y [] rfl (Y.index ke28 (Can.own 0 rfl) H24 rfl rfl) rfl rfl rfl rfl ?_
         refine TA.one 15 (by kernel_rfl) ?_
         refine TX.ef0 [] rfl (Ef.store_el (us := [strV E21.Key, .int .i64 E21.Seq, .bool E21.Del, strV E21.Val]) (is' := [.own V_data0 (lc (S6.2.set S6.1.toNat E21))]) E21 0 kk51 rfl rfl (idx_get H24).2.2 rfl rfl (Cel.plain rfl rfl) rfl rfl rfl rfl) rfl rfl (fun _ => rfl) (fun _ => ?_)
         refine TA.one 16 (by kernel_rfl) ?_
         refine TX.y [] rfl (Y.index ke28 (Can.own 0 rfl) H26 rfl rfl) rfl rfl rfl rfl ?_
         refine TA.one 17 (by kernel_rfl) ?_
         refine TX.ef0 [] rfl (Ef.store_el (us := [strV E23.Key, .int .i64 E23.Seq, .bool E23.Del, strV E23.Val]) (is' := [.own V_data0 (lc ((S6.2.set S6.1.toNat E21).set ((IntKind.i64.wrap (S6.1 - (1 : Int))).toNat) E23))]) E23 0 kk51 rfl rfl (idx_get H26).2.2 rfl rfl (Cel.plain rfl rfl) rfl rfl rfl rfl) rfl rfl (fun _ => rfl) (fun _ => ?_)
         refine TA.nil (by kernel_rfl) ?_
         exact TE.jb_go () [0] ⟨rfl, rfl, rfl, rfl, rfl, rfl, trivial⟩ rfl
        refine TX.y [] rfl (Y.load_el (us := [strV E23.Key, .int .i64 E23.Seq, .bool E23.Del, strV E23.Val]) (u := .agg #[strV E23.Key, .int .i64 E23.Seq, .bool E23.Del, strV E23.Val]) kk51 rfl (Can.own 0 rfl) (idx_get H24).2.2 rfl rfl rfl rfl rfl) rfl rfl rfl rfl ?_
        refine TA.one 9 (by kernel_rfl) ?_
        refine TX.y [] rfl (Y.load_el (us := [strV E21.Key, .int .i64 E21.Seq, .bool E21.Del, strV E21.Val]) (u := .agg #[strV E21.Key, .int .i64 E21.Seq, .bool E21.Del, strV E21.Val]) kk51 rfl (Can.own 0 rfl) (idx_get H22).2.2 rfl rfl rfl rfl rfl) rfl rfl rfl rfl ?_
        refine TA.one 14 (by kernel_rfl) ?_
        refine TX.y [] rfl (Y.index ke28 (Can.own 0 rfl) H24 rfl rfl) rfl rfl rfl rfl ?_
        refine TA.one 15 (by kernel_rfl) ?_
        refine TX.ef0 [] rfl (Ef.store_el (us := [strV E21.Key, .int .i64 E21.Seq, .bool E21.Del, strV E21.Val]) (is' := [.own V_data0 (lc (S6.2.set S6.1.toNat E21))]) E21 0 kk51 rfl rfl (idx_get H24).2.2 rfl rfl (Cel.plain rfl rfl) rfl rfl rfl rfl) rfl rfl (fun _ => rfl) (fun _ => ?_)
        refine TA.one 16 (by kernel_rfl) ?_
        refine TX.y [] rfl (Y.index ke28 (Can.own 0 rfl) H26 rfl rfl) rfl rfl rfl rfl ?_
        refine TA.one 17 (by kernel_rfl) ?_
        refine TX.ef0 [] rfl (Ef.store_el (us := [strV E23.Key, .int .i64 E23.Seq, .bool E23.Del, strV E23.Val]) (is' := [.own V_data0 (lc ((S6.2.set S6.1.toNat E21).set ((IntKind.i64.wrap (S6.1 - (1 : Int))).toNat) E23))]) E23 0 kk51 rfl rfl (idx_get H26).2.2 rfl rfl (Cel.plain rfl rfl) rfl rfl rfl rfl) rfl rfl (fun _ => rfl) (fun _ => ?_)
        refine TA.nil (by kernel_rfl) ?_
        exact TE.jb_go () [0] ⟨rfl, rfl, rfl, rfl, rfl, rfl, trivial⟩ rfl
       refine TX.y [] rfl (Y.load_el (us := [strV E23.Key, .int .i64 E23.Seq, .bool E23.Del, strV E23.Val]) (u := .agg #[strV E23.Key, .int .i64 E23.Seq, .bool E23.Del, strV E23.Val]) kk51 rfl (Can.own 0 rfl) (idx_get H24).2.2 rfl rfl rfl rfl rfl) rfl rfl rfl rfl ?_
       refine TA.one 8 (by kernel_rfl) ?_
       refine TX.y [] rfl (Y.index ke28 (Can.own 0 rfl) H22 rfl rfl) rfl rfl rfl rfl ?_
       refine TA.one 9 (by kernel_rfl) ?_
       refine TX.y [] rfl (Y.load_el (us := [strV E21.Key, .int .i64 E21.Seq, .bool E21.Del, strV E21.Val]) (u := .agg #[strV E21.Key, .int .i64 E21.Seq, .bool E21.Del, strV E21.Val]) kk51 rfl (Can.own 0 rfl) (idx_get H22).2.2 rfl rfl rfl rfl rfl) rfl rfl rfl rfl ?_
       refine TA.one 14 (by kernel_rfl) ?_
       refine TX.y [] rfl (Y.index ke28 (Can.own 0 rfl) H24 rfl rfl) rfl rfl rfl rfl ?_
       refine TA.one 15 (by kernel_rfl) ?_
       refine TX.ef0 [] rfl (Ef.store_el (us := [strV E21.Key, .int .i64 E21.Seq, .bool E21.Del, strV E21.Val]) (is' := [.own V_data0 (lc (S6.2.set S6.1.toNat E21))]) E21 0 kk51 rfl rfl (idx_get H24).2.2 rfl rfl (Cel.plain rfl rfl) rfl rfl rfl rfl) rfl rfl (fun _ => rfl) (fun _ => ?_)
       refine TA.one 16 (by kernel_rfl) ?_
       refine TX.y [] rfl (Y.index ke28 (Can.own 0 rfl) H26 rfl rfl) rfl rfl rfl rfl ?_
       refine TA.one 17 (by kernel_rfl) ?_
       refine TX.ef0 [] rfl (Ef.store_el (us := [strV E23.Key, .int .i64 E23.Seq, .bool E23.Del, strV E23.Val]) (is' := [.own V_data0 (lc ((S6.2.set S6.1.toNat E21).set ((IntKind.i64.wrap (S6.1 - (1 : Int))).toNat) E23))]) E23 0 kk51 rfl rfl (idx_get H26).2.2 rfl rfl (Cel.plain rfl rfl) rfl rfl rfl rfl) rfl rfl (fun _ => rfl) (fun _ => ?_)
       refine TA.nil (by kernel_rfl) ?_
       exact TE.jb_go () [0] ⟨rfl, rfl, rfl, rfl, rfl, rfl, trivial⟩ rfl
      refine TE.block_normal ?_
      refine TE.next ?_
      refine TW.region ?_
      refine TO.y (Y.move rfl) rfl rfl rfl ?_
      refine TO.y (Y.sub rfl rfl) rfl rfl rfl ?_
      refine TO.y (Y.assign rfl) rfl rfl rfl ?_
      refine TO.nil ?_
      exact TE.lp_go () [0] ⟨rfl, rfl, rfl, rfl, rfl, rfl, trivial⟩ rfl
     refine TW.exit ?_
     refine TE.then_exit ?_
     refine TE.lp_exit ?_
     refine TE.block_exit ?_
     exact TE.jn_go () [0] ⟨rfl, rfl, rfl, rfl, rfl, trivial⟩ rfl
    refine TE.block_normal ?_
    refine TE.next ?_
    refine TW.region ?_
    refine TO.y (Y.move rfl) rfl rfl rfl ?_
    refine TO.y (Y.add rfl rfl) rfl rfl rfl ?_
    refine TO.y (Y.assign rfl) rfl rfl rfl ?_
    refine TO.nil ?_
    exact TE.lp_go () [0] ⟨rfl, rfl, rfl, rfl, rfl, trivial⟩ rfl
   refine TW.exit ?_
   refine TE.then_exit ?_
   refine TE.lp_exit ?_
   refine TE.block_exit ?_
   exact TE.jn_go () [0] trivial rfl
  exact TE.leaf fun _ _ hf_ hs_ => ret_any (rs := []) (vs := []) (.inr rfl) rfl trivial hf_ hs_ ⟨(), rfl, hs_.pulls [0] rfl⟩

/-- slices.swapRangeCmpFunc[loop.example/g00950/impl.Ent] -/
noncomputable def slices_swapRangeCmpFunc_57869_at_impl_compareEnts (data : List Ent) (a : Int) (b : Int) (n : Int) : Option (List Ent) :=
  bindC (loopO (fun (S1 : Int × List Ent) => if (decide (S1.1 < n)) = true then ((idx S1.2 (IntKind.i64.wrap (b + S1.1))).bind fun E6 =>
  (idx S1.2 (IntKind.i64.wrap (a + S1.1))).bind fun E8 =>
  (idx (S1.2.set ((IntKind.i64.wrap (a + S1.1)).toNat) E6) (IntKind.i64.wrap (b + S1.1))).bind fun E10 =>
  some (.go (IntKind.i64.wrap (S1.1 + (1 : Int)), ((S1.2.set ((IntKind.i64.wrap (a + S1.1)).toNat) E6).set ((IntKind.i64.wrap (b + S1.1)).toNat) E8))))
  else (some (.done (.go S1.2))))
  ((0 : Int), data))
  (fun (T3 : List Ent) => some T3)

theorem slices_swapRangeCmpFunc_57869_at_impl_compareEnts_con (data : List Ent) (a : Int) (b : Int) (n : Int) (V_data0 : Value) (r : List Ent) (hm : slices_swapRangeCmpFunc_57869_at_impl_compareEnts data a b n = some r) :
    Con Try.prog 108 [V_data0, .int .i64 a, .int .i64 b, .int .i64 n, .func (.func 72) #[] #[]] [.own V_data0 (lc data)] [] (fun _ : Unit => .tuple #[]) (fun _ => [.own V_data0 (lc r)]) := by
  refine Con.intro (args := [V_data0, .int .i64 a, .int .i64 b, .int .i64 n, .func (.func 72) #[] #[]]) (n := 38) (val := fun _ (_ : Unit) => .tuple #[]) (post := fun r _ => [.own V_data0 (lc r)]) (m := slices_swapRangeCmpFunc_57869_at_impl_compareEnts data a b n) Try.func108 rfl rfl rfl hm ?_
  intro w S _
  unfold slices_swapRangeCmpFunc_57869_at_impl_compareEnts
  refine TW.seq ?_
  refine TW.region ?_
  refine TO.y (Y.assign rfl) rfl rfl rfl ?_
  refine TO.nil ?_
  refine TE.next ?_
  refine TW.joinX (τ := List Ent) (X := Unit) (fun _ _ => []) (fun T _ => [.own V_data0 (lc T)]) ?_ (fun T3 X4 => ?_)
  ·refine TW.block ?_
   refine TW.loopX (σ := Int × List Ent) (X := Unit) (fun T _ => [(0, V_data0), (1, .int .i64 a), (2, .int .i64 b), (3, .int .i64 n), (10, .int .i64 T.1)]) (fun T _ => [.own V_data0 (lc T.2)]) () [0] ⟨rfl, rfl, rfl, rfl, rfl, trivial⟩ rfl (fun S1 X2 => ?_)
   refine TW.seq ?_
   refine TW.seq ?_
   refine TW.region ?_
   refine TO.y (Y.move rfl) rfl rfl rfl ?_
   refine TO.y (Y.move rfl) rfl rfl rfl ?_
   refine TO.y (Y.lss rfl rfl) rfl rfl rfl ?_
   refine TO.nil ?_
   refine TE.next ?_
   refine TW.cond rfl (fun H5 => ?_) (fun H5 => ?_)
   ·refine TW.skip ?_
    refine TE.next ?_
    refine TW.seq ?_
    refine TW.block ?_
    refine TW.bind fun E6 H7 => ?_
    refine TW.bind fun E8 H9 => ?_
    refine TW.bind fun E10 H11 => ?_
    refine TW.joinU (X := Unit) (fun _ _ => [(0, V_data0), (1, .int .i64 a), (2, .int .i64 b), (3, .int .i64 n), (10, .int .i64 S1.1)]) (fun _ _ => [.own V_data0 (lc ((S1.2.set ((IntKind.i64.wrap (a + S1.1)).toNat) E6).set ((IntKind.i64.wrap (b + S1.1)).toNat) E8))]) ?_ (fun _ X13 => ?_)
    ·refine TW.draw (isH := []) hMix ?_
     refine TA.y 0 [] rfl (Y.move rfl) rfl rfl rfl (by kernel_rfl) rfl ?_
     refine TA.y 1 [] rfl (Y.move rfl) rfl rfl rfl (by kernel_rfl) rfl ?_
     refine TA.y 2 [] rfl (Y.move rfl) rfl rfl rfl (by kernel_rfl) rfl ?_
     refine TA.y 3 [] rfl (Y.add rfl rfl) rfl rfl rfl (by kernel_rfl) rfl ?_
     refine TA.y 4 [] rfl (Y.move rfl) rfl rfl rfl (by kernel_rfl) rfl ?_
     refine TA.y 5 [] rfl (Y.move rfl) rfl rfl rfl (by kernel_rfl) rfl ?_
     refine TA.y 6 [] rfl (Y.move rfl) rfl rfl rfl (by kernel_rfl) rfl ?_
     refine TA.y 7 [] rfl (Y.add rfl rfl) rfl rfl rfl (by kernel_rfl) rfl ?_
     refine TA.y 8 [] rfl (Y.move rfl) rfl rfl rfl (by kernel_rfl) rfl ?_
     refine TA.y 9 [] rfl (Y.move rfl) rfl rfl rfl (by kernel_rfl) rfl ?_
     refine TA.y 10 [] rfl (Y.move rfl) rfl rfl rfl (by kernel_rfl) rfl ?_
     refine TA.y 11 [] rfl (Y.add rfl rfl) rfl rfl rfl (by kernel_rfl) rfl ?_
     refine TA.y 14 [] rfl (Y.move rfl) rfl rfl rfl (by kernel_rfl) rfl ?_
     refine TA.y 15 [] rfl (Y.move rfl) rfl rfl rfl (by kernel_rfl) rfl ?_
     refine TA.y 16 [] rfl (Y.move rfl) rfl rfl rfl (by kernel_rfl) rfl ?_
     refine TA.y 17 [] rfl (Y.add rfl rfl) rfl rfl rfl (by kernel_rfl) rfl ?_
     refine TA.two 12 18 (by kernel_rfl) ?_ ?_
     ·refine TX.y [] rfl (Y.index ke28 (Can.own 0 rfl) H7 rfl rfl) rfl rfl rfl rfl ?_
      refine TA.two 13 18 (by kernel_rfl) ?_ ?_
      ·refine TX.y [] rfl (Y.load_el (us := [strV E6.Key, .int .i64 E6.Seq, .bool E6.Del, strV E6.Val]) (u := .agg #[strV E6.Key, .int .i64 E6.Seq, .bool E6.Del, strV E6.Val]) kk51 rfl (Can.own 0 rfl) (idx_get H7).2.2 rfl rfl rfl rfl rfl) rfl rfl rfl rfl ?_
       refine TA.one 18 (by kernel_rfl) ?_
       refine TX.y [] rfl (Y.index ke28 (Can.own 0 rfl) H9 rfl rfl) rfl rfl rfl rfl ?_
       refine TA.one 19 (by kernel_rfl) ?_
       refine TX.y [] rfl (Y.load_el (us := [strV E8.Key, .int .i64 E8.Seq, .bool E8.Del, strV E8.Val]) (u := .agg #[strV E8.Key, .int .i64 E8.Seq, .bool E8.Del, strV E8.Val]) kk51 rfl (Can.own 0 rfl) (idx_get H9).2.2 rfl rfl rfl rfl rfl) rfl rfl rfl rfl ?_
       refine TA.one 20 (by kernel_rfl) ?_
       refine TX.y [] rfl (Y.index ke28 (Can.own 0 rfl) H9 rfl rfl) rfl rfl rfl rfl ?_
       refine TA.one 21 (by kernel_rfl) ?_
       refine TX.ef0 [] rfl (Ef.store_el (us := [strV E6.Key, .int .i64 E6.Seq, .bool E6.Del, strV E6.Val]) (is' := [.own V_data0 (lc (S1.2.set ((IntKind.i64.wrap (a + S1.1)).toNat) E6))]) E6 0 kk51 rfl rfl (idx_get H9).2.2 rfl rfl (Cel.plain rfl rfl) rfl rfl rfl rfl) rfl rfl (fun _ => rfl) (fun _ => ?_)
       refine TA.one 22 (by kernel_rfl) ?_
       refine TX.y [] rfl (Y.index ke28 (Can.own 0 rfl) H11 rfl rfl) rfl rfl rfl rfl ?_
       refine TA.one 23 (by kernel_rfl) ?_
       refine TX.ef0 [] rfl (Ef.store_el (us := [strV E8.Key, .int .i64 E8.Seq, .bool E8.Del, strV E8.Val]) (is' := [.own V_data0 (lc ((S1.2.set ((IntKind.i64.wrap (a + S1.1)).toNat) E6).set ((IntKind.i64.wrap (b + S1.1)).toNat) E8))]) E8 0 kk51 rfl rfl (idx_get H11).2.2 rfl rfl (Cel.plain rfl rfl) rfl rfl rfl rfl) rfl rfl (fun _ => rfl) (fun _ => ?_)
       refine TA.nil (by kernel_rfl) ?_
       exact TE.jb_go () [0] ⟨rfl, rfl, rfl, rfl, rfl, trivial⟩ rfl
      refine TX.y [] rfl (Y.index ke28 (Can.own 0 rfl) H9 rfl rfl) rfl rfl rfl rfl ?_
      refine TA.two 13 19 (by kernel_rfl) ?_ ?_
      ·refine TX.y [] rfl (Y.load_el (us := [strV E6.Key, .int .i64 E6.Seq, .bool E6.Del, strV E6.Val]) (u := .agg #[strV E6.Key, .int .i64 E6.Seq, .bool E6.Del, strV E6.Val]) kk51 rfl (Can.own 0 rfl) (idx_get H7).2.2 rfl rfl rfl rfl rfl) rfl rfl rfl rfl ?_
       refine TA.one 19 (by kernel_rfl) ?_
       refine TX.y [] rfl (Y.load_el (us := [strV E8.Key, .int .i64 E8.Seq, .bool E8.Del, strV E8.Val]) (u := .agg #[strV E8.Key, .int .i64 E8.Seq, .bool E8.Del, strV E8.Val]) kk51 rfl (Can.own 0 rfl) (idx_get H9).2.2 rfl rfl rfl rfl rfl) rfl rfl rfl rfl ?_
       refine TA.one 20 (by kernel_rfl) ?_
       refine TX.y [] rfl (Y.index ke28 (Can.own 0 rfl) H9 rfl rfl) rfl rfl rfl rfl ?_
       refine TA.one 21 (by kernel_rfl) ?_
       refine TX.ef0 [] rfl (Ef.store_el (us := [strV E6.Key, .int .i64 E6.Seq, .bool E6.Del, strV E6.Val]) (is' := [.own V_data0 (lc (S1.2.set ((IntKind.i64.wrap (a + S1.1)).toNat) E6))]) E6 0 kk51 rfl rfl (idx_get H9).2.2 rfl rfl (Cel.plain rfl rfl) rfl rfl rfl rfl) rfl rfl (fun _ => rfl) (fun _ => ?_)
       refine TA.one 22 (by kernel_rfl) ?_
       refine TX.y [] rfl (Y.index ke28 (Can.own 0 rfl) H11 rfl rfl) rfl rfl rfl rfl ?_
       refine TA.one 23 (by kernel_rfl) ?_
       refine TX.ef0 [] rfl (Ef.store_el (us := [strV E8.Key, .int .i64 E8.Seq, .bool E8.Del, strV E8.Val]) (is' := [.own V_data0 (lc ((S1.2.set ((IntKind.i64.wrap (a + S1.1)).toNat) E6).set ((IntKind.i64.wrap (b + S1.1)).toNat) E8))]) E8 0 kk51 rfl rfl (idx_get H11).2.2 rfl rfl (Cel.plain rfl rfl) rfl rfl rfl rfl) rfl rfl (fun _ => rfl) (fun _ => ?_)
       refine TA.nil (by kernel_rfl) ?_
       exact TE.jb_go () [0] ⟨rfl, rfl, rfl, rfl, rfl, trivial⟩ rfl
      refine TX.y [] rfl (Y.load_el (us := [strV E8.Key, .int .i64 E8.Seq, .bool E8.Del, strV E8.Val]) (u := .agg #[strV E8.Key, .int .i64 E8.Seq, .bool E8.Del, strV E8.Val]) kk51 rfl (Can.own 0 rfl) (idx_get H9).2.2 rfl rfl rfl rfl rfl) rfl rfl rfl rfl ?_
      refine TA.one 13 (by kernel_rfl) ?_
      refine TX.y [] rfl (Y.load_el (us := [strV E6.Key, .int .i64 E6.Seq, .bool E6.Del, strV E6.Val]) (u := .agg #[strV E6.Key, .int .i64 E6.Seq, .bool E6.Del, strV E6.Val]) kk51 rfl (Can.own 0 rfl) (idx_get H7).2.2 rfl rfl rfl rfl rfl) rfl rfl rfl rfl ?_
      refine TA.one 20 (by kernel_rfl) ?_
      refine TX.y [] rfl (Y.index ke28 (Can.own 0 rfl) H9 rfl rfl) rfl rfl rfl rfl ?_
      refine TA.one 21 (by kernel_rfl) ?_
      refine TX.ef0 [] rfl (Ef.store_el (us := [strV E6.Key, .int .i64 E6.Seq, .bool E6.Del, strV E6.Val]) (is' := [.own V_data0 (lc (S1.2.set ((IntKind.i64.wrap (a + S1.1)).toNat) E6))]) E6 0 kk51 rfl rfl (idx_get H9).2.2 rfl rfl (Cel.plain rfl rfl) rfl rfl rfl rfl) rfl rfl (fun _ => rfl) (fun _ => ?_)
      refine TA.one 22 (by kernel_rfl) ?_
      refine TX.y [] rfl (Y.index ke28 (Can.own 0 rfl) H11 rfl rfl) rfl rfl rfl rfl ?_
      refine TA.one 23 (by kernel_rfl) ?_
      refine TX.ef0 [] rfl (Ef.store_el (us := [strV E8.Key, .int .i64 E8.Seq, .bool E8.Del, strV E8.Val]) (is' := [.own V_data0 (lc ((S1.2.set ((IntKind.i64.wrap (a + S1.1)).toNat) E6).set ((IntKind.i64.wrap (b + S1.1)).toNat) E8))]) E8 0 kk51 rfl rfl (idx_get H11).2.2 rfl rfl (Cel.plain rfl rfl) rfl rfl rfl rfl) rfl rfl (fun _ => rfl) (fun _ => ?_)
      refine TA.nil (by kernel_rfl) ?_
      exact TE.jb_go () [0] ⟨rfl, rfl, rfl, rfl, rfl, trivial⟩ rfl
     refine TX.y [] rfl (Y.index ke28 (Can.own 0 rfl) H9 rfl rfl) rfl rfl rfl rfl ?_
     refine TA.two 12 19 (by kernel_rfl) ?_ ?_
     ·refine TX.y [] rfl (Y.index ke28 (Can.own 0 rfl) H7 rfl rfl) rfl rfl rfl rfl ?_
      refine TA.two 13 19 (by kernel_rfl) ?_ ?_
      ·refine TX.y [] rfl (Y.load_el (us := [strV E6.Key, .int .i64 E6.Seq, .bool E6.Del, strV E6.Val]) (u := .agg #[strV E6.Key, .int .i64 E6.Seq, .bool E6.Del, strV E6.Val]) kk51 rfl (Can.own 0 rfl) (idx_get H7).2.2 rfl rfl rfl rfl rfl) rfl rfl rfl rfl ?_
       refine TA.one 19 (by kernel_rfl) ?_
       refine TX.y [] rfl (Y.load_el (us := [strV E8.Key, .int .i64 E8.Seq, .bool E8.Del, strV E8.Val]) (u := .agg #[strV E8.Key, .int .i64 E8.Seq, .bool E8.Del, strV E8.Val]) kk51 rfl (Can.own 0 rfl) (idx_get H9).2.2 rfl rfl rfl rfl rfl) rfl rfl rfl rfl ?_
       refine TA.one 20 (by kernel_rfl) ?_
       refine TX.y [] rfl (Y.index ke28 (Can.own 0 rfl) H9 rfl rfl) rfl rfl rfl rfl ?_
       refine TA.one 21 (by kernel_rfl) ?_
       refine TX.ef0 [] rfl (Ef.store_el (us := [strV E6.Key, .int .i64 E6.Seq, .bool E6.Del, strV E6.Val]) (is' := [.own V_data0 (lc (S1.2.set ((IntKind.i64.wrap (a + S1.1)).toNat) E6))]) E6 0 kk51 rfl rfl (idx_get H9).2.2 rfl rfl (Cel.plain rfl rfl) rfl rfl rfl rfl) rfl rfl (fun _ => rfl) (fun _ => ?_)
       refine TA.one 22 (by kernel_rfl) ?_
       refine TX.y [] rfl (Y.index ke28 (Can.own 0 rfl) H11 rfl rfl) rfl rfl rfl rfl ?_
       refine TA.one 23 (by kernel_rfl) ?_
       refine TX.ef0 [] rfl (Ef.store_el (us := [strV E8.Key, .int .i64 E8.Seq, .bool E8.Del, strV E8.Val]) (is' := [.own V_data0 (lc ((S1.2.set ((IntKind.i64.wrap (a + S1.1)).toNat) E6).set ((IntKind.i64.wrap (b + S1.1)).toNat) E8))]) E8 0 kk51 rfl rfl (idx_get H11).2.2 rfl rfl (Cel.plain rfl rfl) rfl rfl rfl rfl) rfl rfl (fun _ => rfl) (fun _ => ?_)
       refine TA.nil (by kernel_rfl) ?_
       exact TE.jb_go () [0] ⟨rfl, rfl, rfl, rfl, rfl, trivial⟩ rfl
      refine TX.y [] rfl (Y.load_el (us := [strV E8.Key, .int .i64 E8.Seq, .bool E8.Del, strV E8.Val]) (u := .agg #[strV E8.Key, .int .i64 E8.Seq, .bool E8.Del, strV E8.Val]) kk51 rfl (Can.own 0 rfl) (idx_get H9).2.2 rfl rfl rfl rfl rfl) rfl rfl rfl rfl ?_
      refine TA.one 13 (by kernel_rfl) ?_
      refine TX.y [] rfl (Y.load_el (us := [strV E6.Key, .int .i64 E6.Seq, .bool E6.Del, strV E6.Val]) (u := .agg #[strV E6.Key, .int .i64 E6.Seq, .bool E6.Del, strV E6.Val]) kk51 rfl (Can.own 0 rfl) (idx_get H7).2.2 rfl rfl rfl rfl rfl) rfl rfl rfl rfl ?_
      refine TA.one 20 (by kernel_rfl) ?_
      refine TX.y [] rfl (Y.index ke28 (Can.own 0 rfl) H9 rfl rfl) rfl rfl rfl rfl ?_
      refine TA.one 21 (by kernel_rfl) ?_
      refine TX.ef0 [] rfl (Ef.store_el (us := [strV E6.Key, .int .i64 E6.Seq, .bool E6.Del, strV E6.Val]) (is' := [.own V_data0 (lc (S1.2.set ((IntKind.i64.wrap (a + S1.1)).toNat) E6))]) E6 0 kk51 rfl rfl (idx_get H9).2.2 rfl rfl (Cel.plain rfl rfl) rfl rfl rfl rfl) rfl rfl (fun _ => rfl) (fun _ => ?_)
      refine TA.one 22 (by kernel_rfl) ?_
      refine TX.y [] rfl (Y.index ke28 (Can.own 0 rfl) H11 rfl rfl) rfl rfl rfl rfl ?_
      refine TA.one 23 (by kernel_rfl) ?_
      refine TX.ef0 [] rfl (Ef.store_el (us := [strV E8.Key, .int .i64 E8.Seq, .bool E8.Del, strV E8.Val]) (is' := [.own V_data0 (lc ((S1.2.set ((IntKind.i64.wrap (a + S1.1)).toNat) E6).set ((IntKind.i64.wrap (b + S1.1)).toNat) E8))]) E8 0 kk51 rfl rfl (idx_get H11).2.2 rfl rfl (Cel.plain rfl rfl) rfl rfl rfl rfl) rfl rfl (fun _ => rfl) (fun _ => ?_)
      refine TA.nil (by kernel_rfl) ?_
      exact TE.jb_go () [0] ⟨rfl, rfl, rfl, rfl, rfl, trivial⟩ rfl
     refine TX.y [] rfl (Y.load_el (us := [strV E8.Key, .int .i64 E8.Seq, .bool E8.Del, strV E8.Val]) (u := .agg #[strV E8.Key, .int .i64 E8.Seq, .bool E8.Del, strV E8.Val]) kk51 rfl (Can.own 0 rfl) (idx_get H9).2.2 rfl rfl rfl rfl rfl) rfl rfl rfl rfl ?_
     refine TA.one 12 (by kernel_rfl) ?_
     refine TX.y [] rfl (Y.index ke28 (Can.own 0 rfl) H7 rfl rfl) rfl rfl rfl rfl ?_
     refine TA.one 13 (by kernel_rfl) ?_
     refine TX.y [] rfl (Y.load_el (us := [strV E6.Key, .int .i64 E6.Seq, .bool E6.Del, strV E6.Val]) (u := .agg #[strV E6.Key, .int .i64 E6.Seq, .bool E6.Del, strV E6.Val]) kk51 rfl (Can.own 0 rfl) (idx_get H7).2.2 rfl rfl rfl rfl rfl) rfl rfl rfl rfl ?_
     refine TA.one 20 (by kernel_rfl) ?_
     refine TX.y [] rfl (Y.index ke28 (Can.own 0 rfl) H9 rfl rfl) rfl rfl rfl rfl ?_
     refine TA.one 21 (by kernel_rfl) ?_
     refine TX.ef0 [] rfl (Ef.store_el (us := [strV E6.Key, .int .i64 E6.Seq, .bool E6.Del, strV E6.Val]) (is' := [.own V_data0 (lc (S1.2.set ((IntKind.i64.wrap (a + S1.1)).toNat) E6))]) E6 0 kk51 rfl rfl (idx_get H9).2.2 rfl rfl (Cel.plain rfl rfl) rfl rfl rfl rfl) rfl rfl (fun _ => rfl) (fun _ => ?_)
     refine TA.one 22 (by kernel_rfl) ?_
     refine TX.y [] rfl (Y.index ke28 (Can.own 0 rfl) H11 rfl rfl) rfl rfl rfl rfl ?_
     refine TA.one 23 (by kernel_rfl) ?_
     refine TX.ef0 [] rfl (Ef.store_el (us := [strV E8.Key, .int .i64 E8.Seq, .bool E8.Del, strV E8.Val]) (is' := [.own V_data0 (lc ((S1.2.set ((IntKind.i64.wrap (a + S1.1)).toNat) E6).set ((IntKind.i64.wrap (b + S1.1)).toNat) E8))]) E8 0 kk51 rfl rfl (idx_get H11).2.2 rfl rfl (Cel.plain rfl rfl) rfl rfl rfl rfl) rfl rfl (fun _ => rfl) (fun _ => ?_)
     refine TA.nil (by kernel_rfl) ?_
     exact TE.jb_go () [0] ⟨rfl, rfl, rfl, rfl, rfl, trivial⟩ rfl
    refine TE.block_normal ?_
    refine TE.next ?_
    refine TW.region ?_
    refine TO.y (Y.move rfl) rfl rfl rfl ?_
    refine TO.y (Y.add rfl rfl) rfl rfl rfl ?_
    refine TO.y (Y.assign rfl) rfl rfl rfl ?_
    refine TO.nil ?_
    exact TE.lp_go () [0] ⟨rfl, rfl, rfl, rfl, rfl, trivial⟩ rfl
   refine TW.exit ?_
   refine TE.then_exit ?_
   refine TE.lp_exit ?_
   refine TE.block_exit ?_
   exact TE.jn_go () [0] trivial rfl
  exact TE.leaf fun _ _ hf_ hs_ => ret_any (rs := []) (vs := []) (.inr rfl) rfl trivial hf_ hs_ ⟨(), rfl, hs_.pulls [0] rfl⟩

/-- slices.rotateCmpFunc[loop.example/g00950/impl.Ent] -/
noncomputable def slices_rotateCmpFunc_57869_at_impl_compareEnts (data : List Ent) (a : Int) (m : Int) (b : Int) : Option (List Ent) :=
  bindC (loopO (fun (S1 : Int × Int × List Ent) => if (!(decide (S1.1 = S1.2.1))) = true then (bindC (if (decide (S1.1 > S1.2.1)) = true then ((slices_swapRangeCmpFunc_57869_at_impl_compareEnts S1.2.2 (IntKind.i64.wrap (m - S1.1)) m S1.2.1).bind fun R9 =>
  some (.go (IntKind.i64.wrap (S1.1 - S1.2.1), S1.2.1, R9)))
  else ((slices_swapRangeCmpFunc_57869_at_impl_compareEnts S1.2.2 (IntKind.i64.wrap (m - S1.1)) (IntKind.i64.wrap (IntKind.i64.wrap (m + S1.2.1) - S1.1)) S1.1).bind fun R12 =>
  some (.go (S1.1, IntKind.i64.wrap (S1.2.1 - S1.1), R12))))
  (fun (T6 : Int × Int × List Ent) => some (.go (T6.1, T6.2.1, T6.2.2))))
  else (some (.done (.go (S1.1, S1.2.2)))))
  (IntKind.i64.wrap (m - a), IntKind.i64.wrap (b - m), data))
  (fun (T3 : Int × List Ent) => (slices_swapRangeCmpFunc_57869_at_impl_compareEnts T3.2 (IntKind.i64.wrap (m - T3.1)) m T3.1).bind fun R15 =>
  some R15)

theorem slices_rotateCmpFunc_57869_at_impl_compareEnts_con (data : List Ent) (a : Int) (m : Int) (b : Int) (V_data0 : Value) (r : List Ent) (hm : slices_rotateCmpFunc_57869_at_impl_compareEnts data a m b = some r) :
    Con Try.prog 107 [V_data0, .int .i64 a, .int .i64 m, .int .i64 b, .func (.func 72) #[] #[]] [.own V_data0 (lc data)] [] (fun _ : Unit => .tuple #[]) (fun _ => [.own V_data0 (lc r)]) := by
  refine Con.intro (args := [V_data0, .int .i64 a, .int .i64 m, .int .i64 b, .func (.func 72) #[] #[]]) (n := 58) (val := fun _ (_ : Unit) => .tuple #[]) (post := fun r _ => [.own V_data0 (lc r)]) (m := slices_rotateCmpFunc_57869_at_impl_compareEnts data a m b) Try.func107 rfl rfl rfl hm ?_
  intro w S _
  unfold slices_rotateCmpFunc_57869_at_impl_compareEnts
  refine TW.seq ?_
  refine TW.region ?_
  refine TO.y (Y.move rfl) rfl rfl rfl ?_
  refine TO.y (Y.move rfl) rfl rfl rfl ?_
  refine TO.y (Y.sub rfl rfl) rfl rfl rfl ?_
  refine TO.y (Y.assign rfl) rfl rfl rfl ?_
  refine TO.nil ?_
  refine TE.next ?_
  refine TW.seq ?_
  refine TW.region ?_
  refine TO.y (Y.move rfl) rfl rfl rfl ?_
  refine TO.y (Y.move rfl) rfl rfl rfl ?_
  refine TO.y (Y.sub rfl rfl) rfl rfl rfl ?_
  refine TO.y (Y.assign rfl) rfl rfl rfl ?_
  refine TO.nil ?_
  refine TE.next ?_
  refine TW.seq ?_
  refine TW.joinX (τ := Int × List Ent) (X := Unit) (fun T _ => [(0, V_data0), (2, .int .i64 m), (4, .func (.func 72) #[] #[]), (10, .int .i64 T.1)]) (fun T _ => [.own V_data0 (lc T.2)]) ?_ (fun T3 X4 => ?_)
  ·refine TW.block ?_
   refine TW.loopX (σ := Int × Int × List Ent) (X := Unit) (fun T _ => [(0, V_data0), (2, .int .i64 m), (4, .func (.func 72) #[] #[]), (10, .int .i64 T.1), (11, .int .i64 T.2.1)]) (fun T _ => [.own V_data0 (lc T.2.2)]) () [0] ⟨rfl, rfl, rfl, rfl, rfl, trivial⟩ rfl (fun S1 X2 => ?_)
   refine TW.seq ?_
   refine TW.seq ?_
   refine TW.region ?_
   refine TO.y (Y.move rfl) rfl rfl rfl ?_
   refine TO.y (Y.move rfl) rfl rfl rfl ?_
   refine TO.y (Y.neq rfl rfl) rfl rfl rfl ?_
   refine TO.nil ?_
   refine TE.next ?_
   refine TW.cond rfl (fun H5 => ?_) (fun H5 => ?_)
   ·refine TW.skip ?_
    refine TE.next ?_
    refine TW.block ?_
    refine TW.seq ?_
    refine TW.region ?_
    refine TO.y (Y.move rfl) rfl rfl rfl ?_
    refine TO.y (Y.move rfl) rfl rfl rfl ?_
    refine TO.y (Y.gtr rfl rfl) rfl rfl rfl ?_
    refine TO.nil ?_
    refine TE.next ?_
    refine TW.joinX (τ := Int × Int × List Ent) (X := Unit) (fun T _ => [(0, V_data0), (2, .int .i64 m), (4, .func (.func 72) #[] #[]), (10, .int .i64 T.1), (11, .int .i64 T.2.1)]) (fun T _ => [.own V_data0 (lc T.2.2)]) ?_ (fun T6 X7 => ?_)
    ·refine TW.cond rfl (fun H8 => ?_) (fun H8 => ?_)
     ·refine TW.seq ?_
      refine TW.region ?_
      refine TO.y (Y.move rfl) rfl rfl rfl ?_
      refine TO.y (Y.move rfl) rfl rfl rfl ?_
      refine TO.y (Y.move rfl) rfl rfl rfl ?_
      refine TO.y (Y.sub rfl rfl) rfl rfl rfl ?_
      refine TO.y (Y.move rfl) rfl rfl rfl ?_
      refine TO.y (Y.move rfl) rfl rfl rfl ?_
      refine TO.y (Y.move rfl) rfl rfl rfl ?_
      refine TO.bind fun R9 H10 => ?_
      refine TO.ef (Ef.call (rest := []) [0] (slices_swapRangeCmpFunc_57869_at_impl_compareEnts_con S1.2.2 (IntKind.i64.wrap (m - S1.1)) m S1.2.1 V_data0 R9 H10) kc108 rfl rfl trivial) rfl rfl rfl (fun _ => ?_)
      refine TO.nil ?_
      refine TE.next ?_
      refine TW.region ?_
      refine TO.y (Y.move rfl) rfl rfl rfl ?_
      refine TO.y (Y.move rfl) rfl rfl rfl ?_
      refine TO.y (Y.sub rfl rfl) rfl rfl rfl ?_
      refine TO.y (Y.assign rfl) rfl rfl rfl ?_
      refine TO.nil ?_
      exact TE.jn_go () [0] ⟨rfl, rfl, rfl, rfl, rfl, trivial⟩ rfl
     refine TW.seq ?_
     refine TW.region ?_
     refine TO.y (Y.move rfl) rfl rfl rfl ?_
     refine TO.y (Y.move rfl) rfl rfl rfl ?_
     refine TO.y (Y.move rfl) rfl rfl rfl ?_
     refine TO.y (Y.sub rfl rfl) rfl rfl rfl ?_
     refine TO.y (Y.move rfl) rfl rfl rfl ?_
     refine TO.y (Y.move rfl) rfl rfl rfl ?_
     refine TO.y (Y.add rfl rfl) rfl rfl rfl ?_
     refine TO.y (Y.move rfl) rfl rfl rfl ?_
     refine TO.y (Y.sub rfl rfl) rfl rfl rfl ?_
     refine TO.y (Y.move rfl) rfl rfl rfl ?_
     refine TO.y (Y.move rfl) rfl rfl rfl ?_
     refine TO.bind fun R12 H13 => ?_
     refine TO.ef (Ef.call (rest := []) [0] (slices_swapRangeCmpFunc_57869_at_impl_compareEnts_con S1.2.2 (IntKind.i64.wrap (m - S1.1)) (IntKind.i64.wrap (IntKind.i64.wrap (m + S1.2.1) - S1.1)) S1.1 V_data0 R12 H13) kc108 rfl rfl trivial) rfl rfl rfl (fun _ => ?_)
     refine TO.nil ?_
     refine TE.next ?_
     refine TW.region ?_
     refine TO.y (Y.move rfl) rfl rfl rfl ?_
     refine TO.y (Y.move rfl) rfl rfl rfl ?_
     refine TO.y (Y.sub rfl rfl) rfl rfl rfl ?_
     refine TO.y (Y.assign rfl) rfl rfl rfl ?_
     refine TO.nil ?_
     exact TE.jn_go () [0] ⟨rfl, rfl, rfl, rfl, rfl, trivial⟩ rfl
    refine TE.block_normal ?_
    exact TE.lp_go () [0] ⟨rfl, rfl, rfl, rfl, rfl, trivial⟩ rfl
   refine TW.exit ?_
   refine TE.then_exit ?_
   refine TE.lp_exit ?_
   refine TE.block_exit ?_
   exact TE.jn_go () [0] ⟨rfl, rfl, rfl, rfl, trivial⟩ rfl
  refine TE.next ?_
  refine TW.region ?_
  refine TO.y (Y.move rfl) rfl rfl rfl ?_
  refine TO.y (Y.move rfl) rfl rfl rfl ?_
  refine TO.y (Y.move rfl) rfl rfl rfl ?_
  refine TO.y (Y.sub rfl rfl) rfl rfl rfl ?_
  refine TO.y (Y.move rfl) rfl rfl rfl ?_
  refine TO.y (Y.move rfl) rfl rfl rfl ?_
  refine TO.y (Y.move rfl) rfl rfl rfl ?_
  refine TO.bind fun R15 H16 => ?_
  refine TO.ef (Ef.call (rest := []) [0] (slices_swapRangeCmpFunc_57869_at_impl_compareEnts_con T3.2 (IntKind.i64.wrap (m - T3.1)) m T3.1 V_data0 R15 H16) kc108 rfl rfl trivial) rfl rfl rfl (fun _ => ?_)
  refine TO.nil ?_
  exact TE.leaf fun _ _ hf_ hs_ => ret_any (rs := []) (vs := []) (.inr rfl) rfl trivial hf_ hs_ ⟨(), rfl, hs_.pulls [0] rfl⟩

/-- slices.symMergeCmpFunc[loop.example/g00950/impl.Ent] -/
noncomputable def slices_symMergeCmpFunc_57869_at_impl_compareEntsF : Nat → List Ent → Int → Int → Int → Option (List Ent)
  | 0, _, _, _, _ => none
  | f_ + 1, data, a, m, b =>
  if (decide (IntKind.i64.wrap (m - a) = (1 : Int))) = true then (bindC (loopO (fun (S2 : Int × Int) => if (decide (S2.1 < S2.2)) = true then ((idx data (IntKind.i64.wrap (ishr .u64 (IntKind.u64.wrap (IntKind.i64.wrap (S2.1 + S2.2))) (1 : Int)))).bind fun E7 =>
  (idx data a).bind fun E9 =>
  (impl_compareEnts E7 E9).bind fun R11 =>
  bindC (if (decide (R11 < (0 : Int))) = true then (some (.go (IntKind.i64.wrap (IntKind.i64.wrap (ishr .u64 (IntKind.u64.wrap (IntKind.i64.wrap (S2.1 + S2.2))) (1 : Int)) + (1 : Int)), S2.2)))
  else (some (.go (S2.1, IntKind.i64.wrap (ishr .u64 (IntKind.u64.wrap (IntKind.i64.wrap (S2.1 + S2.2))) (1 : Int))))))
  (fun (T14 : Int × Int) => some (.go (T14.1, T14.2))))
  else (some (.done (.go S2.1))))
  (m, b))
  (fun (T4 : Int) => bindC (loopO (fun (S17 : Int × List Ent) => if (decide (S17.1 < IntKind.i64.wrap (T4 - (1 : Int)))) = true then ((idx S17.2 (IntKind.i64.wrap (S17.1 + (1 : Int)))).bind fun E22 =>
  (idx S17.2 S17.1).bind fun E24 =>
  (idx (S17.2.set S17.1.toNat E22) (IntKind.i64.wrap (S17.1 + (1 : Int)))).bind fun E26 =>
  some (.go (IntKind.i64.wrap (S17.1 + (1 : Int)), ((S17.2.set S17.1.toNat E22).set ((IntKind.i64.wrap (S17.1 + (1 : Int))).toNat) E24))))
  else (some (.done (.go S17.2))))
  (a, data))
  (fun (T19 : List Ent) => some T19)))
  else (if (decide (IntKind.i64.wrap (b - m) = (1 : Int))) = true then (bindC (loopO (fun (S31 : Int × Int) => if (decide (S31.1 < S31.2)) = true then ((idx data m).bind fun E36 =>
  (idx data (IntKind.i64.wrap (ishr .u64 (IntKind.u64.wrap (IntKind.i64.wrap (S31.1 + S31.2))) (1 : Int)))).bind fun E38 =>
  (impl_compareEnts E36 E38).bind fun R40 =>
  bindC (if (!(decide (R40 < (0 : Int)))) = true then (some (.go (IntKind.i64.wrap (IntKind.i64.wrap (ishr .u64 (IntKind.u64.wrap (IntKind.i64.wrap (S31.1 + S31.2))) (1 : Int)) + (1 : Int)), S31.2)))
  else (some (.go (S31.1, IntKind.i64.wrap (ishr .u64 (IntKind.u64.wrap (IntKind.i64.wrap (S31.1 + S31.2))) (1 : Int))))))
  (fun (T43 : Int × Int) => some (.go (T43.1, T43.2))))
  else (some (.done (.go S31.1))))
  (a, m))
  (fun (T33 : Int) => bindC (loopO (fun (S46 : Int × List Ent) => if (decide (S46.1 > T33)) = true then ((idx S46.2 (IntKind.i64.wrap (S46.1 - (1 : Int)))).bind fun E51 =>
  (idx S46.2 S46.1).bind fun E53 =>
  (idx (S46.2.set S46.1.toNat E51) (IntKind.i64.wrap (S46.1 - (1 : Int)))).bind fun E55 =>
  some (.go (IntKind.i64.wrap (S46.1 - (1 : Int)), ((S46.2.set S46.1.toNat E51).set ((IntKind.i64.wrap (S46.1 - (1 : Int))).toNat) E53))))
  else (some (.done (.go S46.2))))
  (m, data))
  (fun (T48 : List Ent) => some T48)))
  else (bindC (if (decide (m > IntKind.i64.wrap (ishr .u64 (IntKind.u64.wrap (IntKind.i64.wrap (a + b))) (1 : Int)))) = true then (some (.go (IntKind.i64.wrap (IntKind.i64.wrap (IntKind.i64.wrap (ishr .u64 (IntKind.u64.wrap (IntKind.i64.wrap (a + b))) (1 : Int)) + m) - b), IntKind.i64.wrap (ishr .u64 (IntKind.u64.wrap (IntKind.i64.wrap (a + b))) (1 : Int)))))
  else (some (.go (a, m))))
  (fun (T59 : Int × Int) => bindC (loopO (fun (S62 : Int × Int) => if (decide (S62.1 < S62.2)) = true then ((idx data (IntKind.i64.wrap (IntKind.i64.wrap (IntKind.i64.wrap (IntKind.i64.wrap (ishr .u64 (IntKind.u64.wrap (IntKind.i64.wrap (a + b))) (1 : Int)) + m) - (1 : Int)) - (IntKind.i64.wrap (ishr .u64 (IntKind.u64.wrap (IntKind.i64.wrap (S62.1 + S62.2))) (1 : Int)))))).bind fun E67 =>
  (idx data (IntKind.i64.wrap (ishr .u64 (IntKind.u64.wrap (IntKind.i64.wrap (S62.1 + S62.2))) (1 : Int)))).bind fun E69 =>
  (impl_compareEnts E67 E69).bind fun R71 =>
  bindC (if (!(decide (R71 < (0 : Int)))) = true then (some (.go (IntKind.i64.wrap (IntKind.i64.wrap (ishr .u64 (IntKind.u64.wrap (IntKind.i64.wrap (S62.1 + S62.2))) (1 : Int)) + (1 : Int)), S62.2)))
  else (some (.go (S62.1, IntKind.i64.wrap (ishr .u64 (IntKind.u64.wrap (IntKind.i64.wrap (S62.1 + S62.2))) (1 : Int))))))
  (fun (T74 : Int × Int) => some (.go (T74.1, T74.2))))
  else (some (.done (.go S62.1))))
  (T59.1, T59.2))
  (fun (T64 : Int) => (if (decide (T64 < m)) = true then (some (decide (m < IntKind.i64.wrap (IntKind.i64.wrap (IntKind.i64.wrap (ishr .u64 (IntKind.u64.wrap (IntKind.i64.wrap (a + b))) (1 : Int)) + m) - T64))))
  else (some false)).bind (fun (T77 : Bool) =>
  bindC (if T77 = true then ((slices_rotateCmpFunc_57869_at_impl_compareEnts data T64 m (IntKind.i64.wrap (IntKind.i64.wrap (IntKind.i64.wrap (ishr .u64 (IntKind.u64.wrap (IntKind.i64.wrap (a + b))) (1 : Int)) + m) - T64))).bind fun R83 =>
  some (.go R83))
  else (some (.go data)))
  (fun (T80 : List Ent) => (if (decide (a < T64)) = true then (some (decide (T64 < IntKind.i64.wrap (ishr .u64 (IntKind.u64.wrap (IntKind.i64.wrap (a + b))) (1 : Int)))))
  else (some false)).bind (fun (T86 : Bool) =>
  bindC (if T86 = true then ((slices_symMergeCmpFunc_57869_at_impl_compareEntsF f_ T80 a T64 (IntKind.i64.wrap (ishr .u64 (IntKind.u64.wrap (IntKind.i64.wrap (a + b))) (1 : Int)))).bind fun R92 =>
  some (.go R92))
  else (some (.go T80)))
  (fun (T89 : List Ent) => (if (decide (IntKind.i64.wrap (ishr .u64 (IntKind.u64.wrap (IntKind.i64.wrap (a + b))) (1 : Int)) < IntKind.i64.wrap (IntKind.i64.wrap (IntKind.i64.wrap (ishr .u64 (IntKind.u64.wrap (IntKind.i64.wrap (a + b))) (1 : Int)) + m) - T64))) = true then (some (decide (IntKind.i64.wrap (IntKind.i64.wrap (IntKind.i64.wrap (ishr .u64 (IntKind.u64.wrap (IntKind.i64.wrap (a + b))) (1 : Int)) + m) - T64) < b)))
  else (some false)).bind (fun (T95 : Bool) =>
  bindC (if T95 = true then ((slices_symMergeCmpFunc_57869_at_impl_compareEntsF f_ T89 (IntKind.i64.wrap (ishr .u64 (IntKind.u64.wrap (IntKind.i64.wrap (a + b))) (1 : Int))) (IntKind.i64.wrap (IntKind.i64.wrap (IntKind.i64.wrap (ishr .u64 (IntKind.u64.wrap (IntKind.i64.wrap (a + b))) (1 : Int)) + m) - T64)) b).bind fun R101 =>
  some (.go R101))
  else (some (.go T89)))
  (fun (T98 : List Ent) => some T98))))))))))

theorem slices_symMergeCmpFunc_57869_at_impl_compareEntsF_con (f_ : Nat) : ∀ (data : List Ent) (a : Int) (m : Int) (b : Int) (V_data0 : Value) (r : List Ent) (hm : slices_symMergeCmpFunc_57869_at_impl_compareEntsF f_ data a m b = some r),
    Con Try.prog 102 [V_data0, .int .i64 a, .int .i64 m, .int .i64 b, .func (.func 72) #[] #[]] [.own V_data0 (lc data)] [] (fun _ : Unit => .tuple #[]) (fun _ => [.own V_data0 (lc r)]) := by
  induction f_ with
  | zero => intro data a m b V_data0 r hm; exact absurd (show (none : Option (List Ent)) = some r from hm) (fun h_ => by cases h_)
  | succ f_ ih_ =>
    intro data a m b V_data0 r hm
    refine Con.intro (args := [V_data0, .int .i64 a, .int .i64 m, .int .i64 b, .func (.func 72) #[] #[]]) (n := 220) (val := fun _ (_ : Unit) => .tuple #[]) (post := fun r _ => [.own V_data0 (lc r)]) (m := slices_symMergeCmpFunc_57869_at_impl_compareEntsF (f_ + 1) data a m b) Try.func102 rfl rfl rfl hm ?_
    intro w S _
    rw [slices_symMergeCmpFunc_57869_at_impl_compareEntsF]
    refine TW.seq ?_
    refine TW.seq ?_
    refine TW.region ?_
    refine TO.y (Y.move rfl) rfl rfl rfl ?_
    refine TO.y (Y.move rfl) rfl rfl rfl ?_
    refine TO.y (Y.sub rfl rfl) rfl rfl rfl ?_
    refine TO.y (Y.eql rfl rfl) rfl rfl rfl ?_
    refine TO.nil ?_
    refine TE.next ?_
    refine TW.cond rfl (fun H1 => ?_) (fun H1 => ?_)
    ·refine TW.seq ?_
     refine TW.region ?_
     refine TO.y (Y.move rfl) rfl rfl rfl ?_
     refine TO.y (Y.assign rfl) rfl rfl rfl ?_
     refine TO.nil ?_
     refine TE.next ?_
     refine TW.seq ?_
     refine TW.region ?_
     refine TO.y (Y.move rfl) rfl rfl rfl ?_
     refine TO.y (Y.assign rfl) rfl rfl rfl ?_
     refine TO.nil ?_
     refine TE.next ?_
     refine TW.seq ?_
     refine TW.joinX (τ := Int) (X := Unit) (fun T _ => [(0, V_data0), (1, .int .i64 a), (10, .int .i64 T)]) (fun _ _ => [.own V_data0 (lc data)]) ?_ (fun T4 X5 => ?_)
     ·refine TW.block ?_
      refine TW.loopX (σ := Int × Int) (X := Unit) (fun T _ => [(0, V_data0), (1, .int .i64 a), (4, .func (.func 72) #[] #[]), (10, .int .i64 T.1), (11, .int .i64 T.2)]) (fun _ _ => [.own V_data0 (lc data)]) () [0] ⟨rfl, rfl, rfl, rfl, rfl, trivial⟩ rfl (fun S2 X3 => ?_)
      refine TW.seq ?_
      refine TW.seq ?_
      refine TW.region ?_
      refine TO.y (Y.move rfl) rfl rfl rfl ?_
      refine TO.y (Y.move rfl) rfl rfl rfl ?_
      refine TO.y (Y.lss rfl rfl) rfl rfl rfl ?_
      refine TO.nil ?_
      refine TE.next ?_
      refine TW.cond rfl (fun H6 => ?_) (fun H6 => ?_)
      ·refine TW.skip ?_
       refine TE.next ?_
       refine TW.block ?_
       refine TW.seq ?_
       refine TW.region ?_
       refine TO.y (Y.move rfl) rfl rfl rfl ?_
       refine TO.y (Y.move rfl) rfl rfl rfl ?_
       refine TO.y (Y.add rfl rfl) rfl rfl rfl ?_
       refine TO.y (Y.conv ki3 ki104 rfl) rfl rfl rfl ?_
       refine TO.y (Y.shr (by decide) rfl rfl) rfl rfl rfl ?_
       refine TO.y (Y.conv ki104 ki3 rfl) rfl rfl rfl ?_
       refine TO.y (Y.assign rfl) rfl rfl rfl ?_
       refine TO.nil ?_
       refine TE.next ?_
       refine TW.seq ?_
       refine TW.draw (isH := [.own V_data0 (lc data)]) hMix ?_
       refine TA.y 0 [0] rfl (Y.move rfl) rfl rfl rfl (by kernel_rfl) rfl ?_
       refine TA.y 1 [0] rfl (Y.move rfl) rfl rfl rfl (by kernel_rfl) rfl ?_
       refine TA.y 2 [0] rfl (Y.move rfl) rfl rfl rfl (by kernel_rfl) rfl ?_
       refine TA.bind fun E7 H8 => ?_
       refine TA.y 3 [0] rfl (Y.index ke28 (Can.own 0 rfl) H8 rfl rfl) rfl rfl rfl (by kernel_rfl) rfl ?_
       refine TA.y 4 [0] rfl (Y.load_el (us := [strV E7.Key, .int .i64 E7.Seq, .bool E7.Del, strV E7.Val]) (u := .agg #[strV E7.Key, .int .i64 E7.Seq, .bool E7.Del, strV E7.Val]) kk51 rfl (Can.own 0 rfl) (idx_get H8).2.2 rfl rfl rfl rfl rfl) rfl rfl rfl (by kernel_rfl) rfl ?_
       refine TA.y 5 [0] rfl (Y.move rfl) rfl rfl rfl (by kernel_rfl) rfl ?_
       refine TA.y 6 [0] rfl (Y.move rfl) rfl rfl rfl (by kernel_rfl) rfl ?_
       refine TA.bind fun E9 H10 => ?_
       refine TA.y 7 [0] rfl (Y.index ke28 (Can.own 0 rfl) H10 rfl rfl) rfl rfl rfl (by kernel_rfl) rfl ?_
       refine TA.y 8 [0] rfl (Y.load_el (us := [strV E9.Key, .int .i64 E9.Seq, .bool E9.Del, strV E9.Val]) (u := .agg #[strV E9.Key, .int .i64 E9.Seq, .bool E9.Del, strV E9.Val]) kk51 rfl (Can.own 0 rfl) (idx_get H10).2.2 rfl rfl rfl rfl rfl) rfl rfl rfl (by kernel_rfl) rfl ?_
       refine TA.bind fun R11 H12 => ?_
       refine TA.one 9 (by kernel_rfl) ?_
       refine TX.ef [0] rfl (Ef.callv (rest := [.own V_data0 (lc data)]) [0] (impl_compareEnts_con E7 E9  R11 H12) kc72 rfl rfl rfl rfl trivial) rfl rfl rfl (fun _ => rfl) (fun _ => ?_)
       refine TA.y 10 [0] rfl (Y.lss rfl rfl) rfl rfl rfl (by kernel_rfl) rfl ?_
       refine TA.nil (by kernel_rfl) ?_
       refine TE.next ?_
       refine TW.joinX (τ := Int × Int) (X := Unit) (fun T _ => [(0, V_data0), (1, .int .i64 a), (4, .func (.func 72) #[] #[]), (10, .int .i64 T.1), (11, .int .i64 T.2)]) (fun _ _ => [.own V_data0 (lc data)]) ?_ (fun T14 X15 => ?_)
       ·refine TW.cond rfl (fun H16 => ?_) (fun H16 => ?_)
        ·refine TW.region ?_
         refine TO.y (Y.move rfl) rfl rfl rfl ?_
         refine TO.y (Y.add rfl rfl) rfl rfl rfl ?_
         refine TO.y (Y.assign rfl) rfl rfl rfl ?_
         refine TO.nil ?_
         exact TE.jn_go () [0] ⟨rfl, rfl, rfl, rfl, rfl, trivial⟩ rfl
        refine TW.region ?_
        refine TO.y (Y.move rfl) rfl rfl rfl ?_
        refine TO.y (Y.assign rfl) rfl rfl rfl ?_
        refine TO.nil ?_
        exact TE.jn_go () [0] ⟨rfl, rfl, rfl, rfl, rfl, trivial⟩ rfl
       refine TE.block_normal ?_
       exact TE.lp_go () [0] ⟨rfl, rfl, rfl, rfl, rfl, trivial⟩ rfl
      refine TW.exit ?_
      refine TE.then_exit ?_
      refine TE.lp_exit ?_
      refine TE.block_exit ?_
      exact TE.jn_go () [0] ⟨rfl, rfl, rfl, trivial⟩ rfl
     refine TE.next ?_
     refine TW.seq ?_
     refine TW.seq ?_
     refine TW.region ?_
     refine TO.y (Y.move rfl) rfl rfl rfl ?_
     refine TO.y (Y.assign rfl) rfl rfl rfl ?_
     refine TO.nil ?_
     refine TE.next ?_
     refine TW.joinX (τ := List Ent) (X := Unit) (fun _ _ => []) (fun T _ => [.own V_data0 (lc T)]) ?_ (fun T19 X20 => ?_)
     ·refine TW.block ?_
      refine TW.loopX (σ := Int × List Ent) (X := Unit) (fun T _ => [(0, V_data0), (10, .int .i64 T4), (13, .int .i64 T.1)]) (fun T _ => [.own V_data0 (lc T.2)]) () [0] ⟨rfl, rfl, rfl, trivial⟩ rfl (fun S17 X18 => ?_)
      refine TW.seq ?_
      refine TW.seq ?_
      refine TW.region ?_
      refine TO.y (Y.move rfl) rfl rfl rfl ?_
      refine TO.y (Y.move rfl) rfl rfl rfl ?_
      refine TO.y (Y.sub rfl rfl) rfl rfl rfl ?_
      refine TO.y (Y.lss rfl rfl) rfl rfl rfl ?_
      refine TO.nil ?_
      refine TE.next ?_
      refine TW.cond rfl (fun H21 => ?_) (fun H21 => ?_)
      ·refine TW.skip ?_
       refine TE.next ?_
       refine TW.seq ?_
       refine TW.block ?_
       refine TW.bind fun E22 H23 => ?_
       refine TW.bind fun E24 H25 => ?_
       refine TW.bind fun E26 H27 => ?_
       refine TW.joinU (X := Unit) (fun _ _ => [(0, V_data0), (10, .int .i64 T4), (13, .int .i64 S17.1)]) (fun _ _ => [.own V_data0 (lc ((S17.2.set S17.1.toNat E22).set ((IntKind.i64.wrap (S17.1 + (1 : Int))).toNat) E24))]) ?_ (fun _ X29 => ?_)
       ·refine TW.draw (isH := []) hMix ?_
        refine TA.y 0 [] rfl (Y.move rfl) rfl rfl rfl (by kernel_rfl) rfl ?_
        refine TA.y 1 [] rfl (Y.move rfl) rfl rfl rfl (by kernel_rfl) rfl ?_
        refine TA.y 2 [] rfl (Y.move rfl) rfl rfl rfl (by kernel_rfl) rfl ?_
        refine TA.y 3 [] rfl (Y.move rfl) rfl rfl rfl (by kernel_rfl) rfl ?_
        refine TA.y 4 [] rfl (Y.add rfl rfl) rfl rfl rfl (by kernel_rfl) rfl ?_
        refine TA.y 5 [] rfl (Y.move rfl) rfl rfl rfl (by kernel_rfl) rfl ?_
        refine TA.y 6 [] rfl (Y.move rfl) rfl rfl rfl (by kernel_rfl) rfl ?_
        refine TA.y 7 [] rfl (Y.add rfl rfl) rfl rfl rfl (by kernel_rfl) rfl ?_
        refine TA.y 10 [] rfl (Y.move rfl) rfl rfl rfl (by kernel_rfl) rfl ?_
        refine TA.y 11 [] rfl (Y.move rfl) rfl rfl rfl (by kernel_rfl) rfl ?_
        refine TA.two 8 12 (by kernel_rfl) ?_ ?_
        ·refine TX.y [] rfl (Y.index ke28 (Can.own 0 rfl) H23 rfl rfl) rfl rfl rfl rfl ?_
         refine TA.two 9 12 (by kernel_rfl) ?_ ?_
         ·refine TX.y [] rfl (Y.load_el (us := [strV E22.Key, .int .i64 E22.Seq, .bool E22.Del, strV E22.Val]) (u := .agg #[strV E22.Key, .int .i64 E22.Seq, .bool E22.Del, strV E22.Val]) kk51 rfl (Can.own 0 rfl) (idx_get H23).2.2 rfl rfl rfl rfl rfl) rfl rfl rfl rfl ?_
          refine TA.one 12 (by kernel_rfl) ?_
          refine TX.y [] rfl (Y.index ke28 (Can.own 0 rfl) H25 rfl rfl) rfl rfl rfl rfl ?_
          refine TA.one 13 (by kernel_rfl) ?_
          refine TX.y [] rfl (Y.load_el (us := [strV E24.Key, .int .i64 E24.Seq, .bool E24.Del, strV E24.Val]) (u := .agg #[strV E24.Key, .int .i64 E24.Seq, .bool E24.Del, strV E24.Val]) kk51 rfl (Can.own 0 rfl) (idx_get H25).2.2 rfl rfl rfl rfl rfl) rfl rfl rfl rfl ?_
          refine TA.one 14 (by kernel_rfl) ?_
          refine TX.y [] rfl (Y.index ke28 (Can.own 0 rfl) H25 rfl rfl) rfl rfl rfl rfl ?_
          refine TA.one 15 (by kernel_rfl) ?_
          refine TX.ef0 [] rfl (Ef.store_el (us := [strV E22.Key, .int .i64 E22.Seq, .bool E22.Del, strV E22.Val]) (is' := [.own V_data0 (lc (S17.2.set S17.1.toNat E22))]) E22 0 kk51 rfl rfl (idx_get H25).2.2 rfl rfl (Cel.plain rfl rfl) rfl rfl rfl rfl) rfl rfl (fun _ => rfl) (fun _ => ?_)
          refine TA.one 16 (by kernel_rfl) ?_
          refine TX.y [] rfl (Y.index ke28 (Can.own 0 rfl) H27 rfl rfl) rfl rfl rfl rfl ?_
          refine TA.one 17 (by kernel_rfl) ?_
          refine TX.ef0 [] rfl (Ef.store_el (us := [strV E24.Key, .int .i64 E24.Seq, .bool E24.Del, strV E24.Val]) (is' := [.own V_data0 (lc ((S17.2.set S17.1.toNat E22).set ((IntKind.i64.wrap (S17.1 + (1 : Int))).toNat) E24))]) E24 0 kk51 rfl rfl (idx_get H27).2.2 rfl rfl (Cel.plain rfl rfl) rfl rfl rfl rfl) rfl rfl (fun _ => rfl) (fun _ => ?_)
          refine TA.nil (by kernel_rfl) ?_
          exact TE.jb_go () [0] ⟨rfl, rfl, rfl, trivial⟩ rfl
         refine TX.y [] rfl (Y.index ke28 (Can.own 0 rfl) H25 rfl rfl) rfl rfl rfl rfl ?_
         refine TA.two 9 13 (by kernel_rfl) ?_ ?_
         ·refine TX.y [] rfl (Y.load_el (us := [strV E22.Key, .int .i64 E22.Seq, .bool E22.Del, strV E22.Val]) (u := .agg #[strV E22.Key, .int .i64 E22.Seq, .bool E22.Del, strV E22.Val]) kk51 rfl (Can.own 0 rfl) (idx_get H23).2.2 rfl rfl rfl rfl rfl) rfl rfl rfl rfl ?_
          refine TA.one 13 (by kernel_rfl) ?_
          refine TX.y [] rfl (Y.load_el (us := [strV E24.Key, .int .i64 E24.Seq, .bool E24.Del, strV E24.Val]) (u := .agg #[strV E24.Key, .int .i64 E24.Seq, .bool E24.Del, strV E24.Val]) kk51 rfl (Can.own 0 rfl) (idx_get H25).2.2 rfl rfl rfl rfl rfl) rfl rfl rfl rfl ?_
          refine TA.one 14 (by kernel_rfl) ?_
          refine TX.y [] rfl (Y.index ke28 (Can.own 0 rfl) H25 rfl rfl) rfl rfl rfl rfl ?_
          refine TA.one 15 (by kernel_rfl) ?_
          refine TX.ef0 [] rfl (Ef.store_el (us := [strV E22.Key, .int .i64 E22.Seq, .bool E22.Del, strV E22.Val]) (is' := [.own V_data0 (lc (S17.2.set S17.1.toNat E22))]) E22 0 kk51 rfl rfl (idx_get H25).2.2 rfl rfl (Cel.plain rfl rfl) rfl rfl rfl rfl) rfl rfl (fun _ => rfl) (fun _ => ?_)
          refine TA.one 16 (by kernel_rfl) ?_
          refine TX.y [] rfl (Y.index ke28 (Can.own 0 rfl) H27 rfl rfl) rfl rfl rfl rfl ?_
          refine TA.one 17 (by kernel_rfl) ?_
          refine TX.ef0 [] rfl (Ef.store_el (us := [strV E24.Key, .int .i64 E24.Seq, .bool E24.Del, strV E24.Val]) (is' := [.own V_data0 (lc ((S17.2.set S17.1.toNat E22).set ((IntKind.i64.wrap (S17.1 + (1 : Int))).toNat) E24))]) E24 0 kk51 rfl rfl (idx_get H27).2.2 rfl rfl (Cel.plain rfl rfl) rfl rfl rfl rfl) rfl rfl (fun _ => rfl) (fun _ => ?_)
          refine TA.nil (by kernel_rfl) ?_
          exact TE.jb_go () [0] ⟨rfl, rfl, rfl, trivial⟩ rfl
         refine TX.y [] rfl (Y.load_el (us := [strV E24.Key, .int .i64 E24.Seq, .bool E24.Del, strV E24.Val]) (u := .agg #[strV E24.Key, .int .i64 E24.Seq, .bool E24.Del, strV E24.Val]) kk51 rfl (Can.own 0 rfl) (idx_get H25).2.2 rfl rfl rfl rfl rfl) rfl rfl rfl rfl ?_
         refine TA.one 9 (by kernel_rfl) ?_
         refine TX.y [] rfl (Y.load_el (us := [strV E22.Key, .int .i64 E22.Seq, .bool E22.Del, strV E22.Val]) (u := .agg #[strV E22.Key, .int .i64 E22.Seq, .bool E22.Del, strV E22.Val]) kk51 rfl (Can.own 0 rfl) (idx_get H23).2.2 rfl rfl rfl rfl rfl) rfl rfl rfl rfl ?_
         refine TA.one 14 (by kernel_rfl) ?_
         refine TX.y [] rfl (Y.index ke28 (Can.own 0 rfl) H25 rfl rfl) rfl rfl rfl rfl ?_
         refine TA.one 15 (by kernel_rfl) ?_
         refine TX.ef0 [] rfl (Ef.store_el (us := [strV E22.Key, .int .i64 E22.Seq, .bool E22.Del, strV E22.Val]) (is' := [.own V_data0 (lc (S17.2.set S17.1.toNat E22))]) E22 0 kk51 rfl rfl (idx_get H25).2.2 rfl rfl (Cel.plain rfl rfl) rfl rfl rfl rfl) rfl rfl (fun _ => rfl) (fun _ => ?_)
         refine TA.one 16 (by kernel_rfl) ?_
         refine TX.y [] rfl (Y.index ke28 (Can.own 0 rfl) H27 rfl rfl) rfl rfl rfl rfl ?_
         refine TA.one 17 (by kernel_rfl) ?_
         refine TX.ef0 [] rfl (Ef.store_el (us := [strV E24.Key, .int .i64 E24.Seq, .bool E24.Del, strV E24.Val]) (is' := [.own V_data0 (lc ((S17.2.set S17.1.toNat E22).set ((IntKind.i64.wrap (S17.1 + (1 : Int))).toNat) E24))]) E24 0 kk51 rfl rfl (idx_get H27).2.2 rfl rfl (Cel.plain rfl rfl) rfl rfl rfl rfl) rfl rfl (fun _ => rfl) (fun _ => ?_)
         refine TA.nil (by kernel_rfl) ?_
         exact TE.jb_go () [0] ⟨rfl, rfl, rfl, trivial⟩ rfl
        refine TX.y [] rfl (Y.index ke28 (Can.own 0 rfl) H25 rfl rfl) rfl rfl rfl rfl ?_
        refine TA.two 8 13 (by kernel_rfl) ?_ ?_
        ·refine TX.y [] rfl (Y.index ke28 (Can.own 0 rfl) H23 rfl rfl) rfl rfl rfl rfl ?_
         refine TA.two 9 13 (by kernel_rfl) ?_ ?_
         ·refine TX.y [] rfl (Y.load_el (us := [strV E22.Key, .int .i64 E22.Seq, .bool E22.Del, strV E22.Val]) (u := .agg #[strV E22.Key, .int .i64 E22.Seq, .bool E22.Del, strV E22.Val]) kk51 rfl (Can.own 0 rfl) (idx_get H23).2.2 rfl rfl rfl rfl rfl) rfl rfl rfl rfl ?_
          refine TA.one 13 (by kernel_rfl) ?_
          refine TX.y [] rfl (Y.load_el (us := [strV E24.Key, .int .i64 E24.Seq, .bool E24.Del, strV E24.Val]) (u := .agg #[strV E24.Key, .int .i64 E24.Seq, .bool E24.Del, strV E24.Val]) kk51 rfl (Can.own 0 rfl) (idx_get H25).2.2 rfl rfl rfl rfl rfl) rfl rfl rfl rfl ?_
          refine TA.one 14 (by kernel_rfl) ?_
          refine TX.y [] rfl (Y.index ke28 (Can.own 0 rfl) H25 rfl rfl) rfl rfl rfl rfl ?_
          refine TA.one 15 (by kernel_rfl) ?_
          refine TX.ef0 [] rfl (Ef.store_el (us := [strV E22.Key, .int .i64 E22.Seq, .bool E22.Del, strV E22.Val]) (is' := [.own V_data0 (lc (S17.2.set S17.1.toNat E22))]) E22 0 kk51 rfl rfl (idx_get H25).2.2 rfl rfl (Cel.plain rfl rfl) rfl rfl rfl rfl) rfl rfl (fun _ => rfl) (fun _ => ?_)
          refine TA.one 16 (by kernel_rfl) ?_
          refine TX.y [] rfl (Y.index ke28 (Can.own 0 rfl) H27 rfl rfl) rfl rfl rfl rfl ?_
          refine TA.one 17 (by kernel_rfl) ?_
          refine TX.ef0 [] rfl (Ef.store_el (us := [strV E24.Key, .int .i64 E24.Seq, .bool E24.Del, strV E24.Val]) (is' := [.own V_data0 (lc ((S17.2.set S17.1.toNat E22).set ((IntKind.i64.wrap (S17.1 + (1 : Int))).toNat) E24))]) E24 0 kk51 rfl rfl (idx_get H27).2.2 rfl rfl (Cel.plain rfl rfl) rfl rfl rfl rfl) rfl rfl (fun _ => rfl) (fun _ => ?_)
          refine TA.nil (by kernel_rfl) ?_
          exact TE.jb_go () [0] ⟨rfl, rfl, rfl, trivial⟩ rfl
         refine TX.y [] rfl (Y.load_el (us := [strV E24.Key, .int .i64 E24.Seq, .bool E24.Del, strV E24.Val]) (u := .agg #[strV E24.Key, .int .i64 E24.Seq, .bool E24.Del, strV E24.Val]) kk51 rfl (Can.own 0 rfl) (idx_get H25).2.2 rfl rfl rfl rfl rfl) rfl rfl rfl rfl ?_
         refine TA.one 9 (by kernel_rfl) ?_
         refine TX.y [] rfl (Y.load_el (us := [strV E22.Key, .int .i64 E22.Seq, .bool E22.Del, strV E22.Val]) (u := .agg #[strV E22.Key, .int .i64 E22.Seq, .bool E22.Del, strV E22.Val]) kk51 rfl (Can.own 0 rfl) (idx_get H23).2.2 rfl rfl rfl rfl rfl) rfl rfl rfl rfl ?_
         refine TA.one 14 (by kernel_rfl) ?_
         refine TX.y [] rfl (Y.index ke28 (Can.own 0 rfl) H25 rfl rfl) rfl rfl rfl rfl ?_
         refine TA.one 15 (by kernel_rfl) ?_
         refine TX.ef0 [] rfl (Ef.store_el (us := [strV E22.Key, .int .i64 E22.Seq, .bool E22.Del, strV E22.Val]) (is' := [.own V_data0 (lc (S17.2.set S17.1.toNat E22))]) E22 0 kk51 rfl rfl (idx_get H25).2.2 rfl rfl (Cel.plain rfl rfl) rfl rfl rfl rfl) rfl rfl (fun _ => rfl) (fun _ => ?_)
         refine TA.one 16 (by kernel_rfl) ?_
         refine TX.y [] rfl (Y.index ke28 (Can.own 0 rfl) H27 rfl rfl) rfl rfl rfl rfl ?_
         refine TA.one 17 (by kernel_rfl) ?_
         refine TX.ef0 [] rfl (Ef.store_el (us := [strV E24.Key, .int .i64 E24.Seq, .bool E24.Del, strV E24.Val]) (is' := [.own V_data0 (lc ((S17.2.set S17.1.toNat E22).set ((IntKind.i64.wrap (S17.1 + (1 : Int))).toNat) E24))]) E24 0 kk51 rfl rfl (idx_get H27).2.2 rfl rfl (Cel.plain rfl rfl) rfl rfl rfl rfl) rfl rfl (fun _ => rfl) (fun _ => ?_)
         refine TA.nil (by kernel_rfl) ?_
         exact TE.jb_go () [0] ⟨rfl, rfl, rfl, trivial⟩ rfl
        refine TX.y [] rfl (Y.load_el (us := [strV E24.Key, .int .i64 E24.Seq, .bool E24.Del, strV E24.Val]) (u := .agg #[strV E24.Key, .int .i64 E24.Seq, .bool E24.Del, strV E24.Val]) kk51 rfl (Can.own 0 rfl) (idx_get H25).2.2 rfl rfl rfl rfl rfl) rfl rfl rfl rfl ?_
        refine TA.one 8 (by kernel_rfl) ?_
        refine TX.y [] rfl (Y.index ke28 (Can.own 0 rfl) H23 rfl rfl) rfl rfl rfl rfl ?_
        refine TA.one 9 (by kernel_rfl) ?_
        refine TX.y [] rfl (Y.load_el (us := [strV E22.Key, .int .i64 E22.Seq, .bool E22.Del, strV E22.Val]) (u := .agg #[strV E22.Key, .int .i64 E22.Seq, .bool E22.Del, strV E22.Val]) kk51 rfl (Can.own 0 rfl) (idx_get H23).2.2 rfl rfl rfl rfl rfl) rfl rfl rfl rfl ?_
        refine TA.one 14 (by kernel_rfl) ?_
        refine TX.y [] rfl (Y.index ke28 (Can.own 0 rfl) H25 rfl rfl) rfl rfl rfl rfl ?_
        refine TA.one 15 (by kernel_rfl) ?_
        refine TX.ef0 [] rfl (Ef.store_el (us := [strV E22.Key, .int .i64 E22.Seq, .bool E22.Del, strV E22.Val]) (is' := [.own V_data0 (lc (S17.2.set S17.1.toNat E22))]) E22 0 kk51 rfl rfl (idx_get H25).2.2 rfl rfl (Cel.plain rfl rfl) rfl rfl rfl rfl) rfl rfl (fun _ => rfl) (fun _ => ?_)
        refine TA.one 16 (by kernel_rfl) ?_
        refine TX.y [] rfl (Y.index ke28 (Can.own 0 rfl) H27 rfl rfl) rfl rfl rfl rfl ?_
        refine TA.one 17 (by kernel_rfl) ?_
        refine TX.ef0 [] rfl (Ef.store_el (us := [strV E24.Key, .int .i64 E24.Seq, .bool E24.Del, strV E24.Val]) (is' := [.own V_data0 (lc ((S17.2.set S17.1.toNat E22).set ((IntKind.i64.wrap (S17.1 + (1 : Int))).toNat) E24))]) E24 0 kk51 rfl rfl (idx_get H27).2.2 rfl rfl (Cel.plain rfl rfl) rfl rfl rfl rfl) rfl rfl (fun _ => rfl) (fun _ => ?_)
        refine TA.nil (by kernel_rfl) ?_
        exact TE.jb_go () [0] ⟨rfl, rfl, rfl, trivial⟩ rfl
       refine TE.block_normal ?_
       refine TE.next ?_
       refine TW.region ?_
       refine TO.y (Y.move rfl) rfl rfl rfl ?_
       refine TO.y (Y.add rfl rfl) rfl rfl rfl ?_
       refine TO.y (Y.assign rfl) rfl rfl rfl ?_
       refine TO.nil ?_
       exact TE.lp_go () [0] ⟨rfl, rfl, rfl, trivial⟩ rfl
      refine TW.exit ?_
      refine TE.then_exit ?_
      refine TE.lp_exit ?_
      refine TE.block_exit ?_
      exact TE.jn_go () [0] trivial rfl
     refine TE.next ?_
     refine TW.ret ?_
     refine TE.then_ret ?_
     exact TE.leaf fun _ _ hf_ hs_ => ret_any (rs := []) (vs := []) (.inl rfl) rfl trivial hf_ hs_ ⟨(), rfl, hs_.pulls [0] rfl⟩
    refine TW.skip ?_
    refine TE.next ?_
    refine TW.seq ?_
    refine TW.seq ?_
    refine TW.region ?_
    refine TO.y (Y.move rfl) rfl rfl rfl ?_
    refine TO.y (Y.move rfl) rfl rfl rfl ?_
    refine TO.y (Y.sub rfl rfl) rfl rfl rfl ?_
    refine TO.y (Y.eql rfl rfl) rfl rfl rfl ?_
    refine TO.nil ?_
    refine TE.next ?_
    refine TW.cond rfl (fun H30 => ?_) (fun H30 => ?_)
    ·refine TW.seq ?_
     refine TW.region ?_
     refine TO.y (Y.move rfl) rfl rfl rfl ?_
     refine TO.y (Y.assign rfl) rfl rfl rfl ?_
     refine TO.nil ?_
     refine TE.next ?_
     refine TW.seq ?_
     refine TW.region ?_
     refine TO.y (Y.move rfl) rfl rfl rfl ?_
     refine TO.y (Y.assign rfl) rfl rfl rfl ?_
     refine TO.nil ?_
     refine TE.next ?_
     refine TW.seq ?_
     refine TW.joinX (τ := Int) (X := Unit) (fun T _ => [(0, V_data0), (2, .int .i64 m), (14, .int .i64 T)]) (fun _ _ => [.own V_data0 (lc data)]) ?_ (fun T33 X34 => ?_)
     ·refine TW.block ?_
      refine TW.loopX (σ := Int × Int) (X := Unit) (fun T _ => [(0, V_data0), (2, .int .i64 m), (4, .func (.func 72) #[] #[]), (14, .int .i64 T.1), (15, .int .i64 T.2)]) (fun _ _ => [.own V_data0 (lc data)]) () [0] ⟨rfl, rfl, rfl, rfl, rfl, trivial⟩ rfl (fun S31 X32 => ?_)
      refine TW.seq ?_
      refine TW.seq ?_
      refine TW.region ?_
      refine TO.y (Y.move rfl) rfl rfl rfl ?_
      refine TO.y (Y.move rfl) rfl rfl rfl ?_
      refine TO.y (Y.lss rfl rfl) rfl rfl rfl ?_
      refine TO.nil ?_
      refine TE.next ?_
      refine TW.cond rfl (fun H35 => ?_) (fun H35 => ?_)
      ·refine TW.skip ?_
       refine TE.next ?_
       refine TW.block ?_
       refine TW.seq ?_
       refine TW.region ?_
       refine TO.y (Y.move rfl) rfl rfl rfl ?_
       refine TO.y (Y.move rfl) rfl rfl rfl ?_
       refine TO.y (Y.add rfl rfl) rfl rfl rfl ?_
       refine TO.y (Y.conv ki3 ki104 rfl) rfl rfl rfl ?_
       refine TO.y (Y.shr (by decide) rfl rfl) rfl rfl rfl ?_
       refine TO.y (Y.conv ki104 ki3 rfl) rfl rfl rfl ?_
       refine TO.y (Y.assign rfl) rfl rfl rfl ?_
       refine TO.nil ?_
       refine TE.next ?_
       refine TW.seq ?_
       refine TW.draw (isH := [.own V_data0 (lc data)]) hMix ?_
       refine TA.y 0 [0] rfl (Y.move rfl) rfl rfl rfl (by kernel_rfl) rfl ?_
       refine TA.y 1 [0] rfl (Y.move rfl) rfl rfl rfl (by kernel_rfl) rfl ?_
       refine TA.y 2 [0] rfl (Y.move rfl) rfl rfl rfl (by kernel_rfl) rfl ?_
       refine TA.bind fun E36 H37 => ?_
       refine TA.y 3 [0] rfl (Y.index ke28 (Can.own 0 rfl) H37 rfl rfl) rfl rfl rfl (by kernel_rfl) rfl ?_
       refine TA.y 4 [0] rfl (Y.load_el (us := [strV E36.Key, .int .i64 E36.Seq, .bool E36.Del, strV E36.Val]) (u := .agg #[strV E36.Key, .int .i64 E36.Seq, .bool E36.Del, strV E36.Val]) kk51 rfl (Can.own 0 rfl) (idx_get H37).2.2 rfl rfl rfl rfl rfl) rfl rfl rfl (by kernel_rfl) rfl ?_
       refine TA.y 5 [0] rfl (Y.move rfl) rfl rfl rfl (by kernel_rfl) rfl ?_
       refine TA.y 6 [0] rfl (Y.move rfl) rfl rfl rfl (by kernel_rfl) rfl ?_
       refine TA.bind fun E38 H39 => ?_
       refine TA.y 7 [0] rfl (Y.index ke28 (Can.own 0 rfl) H39 rfl rfl) rfl rfl rfl (by kernel_rfl) rfl ?_
       refine TA.y 8 [0] rfl (Y.load_el (us := [strV E38.Key, .int .i64 E38.Seq, .bool E38.Del, strV E38.Val]) (u := .agg #[strV E38.Key, .int .i64 E38.Seq, .bool E38.Del, strV E38.Val]) kk51 rfl (Can.own 0 rfl) (idx_get H39).2.2 rfl rfl rfl rfl rfl) rfl rfl rfl (by kernel_rfl) rfl ?_
       refine TA.bind fun R40 H41 => ?_
       refine TA.one 9 (by kernel_rfl) ?_
       refine TX.ef [0] rfl (Ef.callv (rest := [.own V_data0 (lc data)]) [0] (impl_compareEnts_con E36 E38  R40 H41) kc72 rfl rfl rfl rfl trivial) rfl rfl rfl (fun _ => rfl) (fun _ => ?_)
       refine TA.y 10 [0] rfl (Y.lss rfl rfl) rfl rfl rfl (by kernel_rfl) rfl ?_
       refine TA.y 11 [0] rfl (Y.not rfl) rfl rfl rfl (by kernel_rfl) rfl ?_
       refine TA.nil (by kernel_rfl) ?_
       refine TE.next ?_
       refine TW.joinX (τ := Int × Int) (X := Unit) (fun T _ => [(0, V_data0), (2, .int .i64 m), (4, .func (.func 72) #[] #[]), (14, .int .i64 T.1), (15, .int .i64 T.2)]) (fun _ _ => [.own V_data0 (lc data)]) ?_ (fun T43 X44 => ?_)
       ·refine TW.cond rfl (fun H45 => ?_) (fun H45 => ?_)
        ·refine TW.region ?_
         refine TO.y (Y.move rfl) rfl rfl rfl ?_
         refine TO.y (Y.add rfl rfl) rfl rfl rfl ?_
         refine TO.y (Y.assign rfl) rfl rfl rfl ?_
         refine TO.nil ?_
         exact TE.jn_go () [0] ⟨rfl, rfl, rfl, rfl, rfl, trivial⟩ rfl
        refine TW.region ?_
        refine TO.y (Y.move rfl) rfl rfl rfl ?_
        refine TO.y (Y.assign rfl) rfl rfl rfl ?_
        refine TO.nil ?_
        exact TE.jn_go () [0] ⟨rfl, rfl, rfl, rfl, rfl, trivial⟩ rfl
       refine TE.block_normal ?_
       exact TE.lp_go () [0] ⟨rfl, rfl, rfl, rfl, rfl, trivial⟩ rfl
      refine TW.exit ?_
      refine TE.then_exit ?_
      refine TE.lp_exit ?_
      refine TE.block_exit ?_
      exact TE.jn_go () [0] ⟨rfl, rfl, rfl, trivial⟩ rfl
     refine TE.next ?_
     refine TW.seq ?_
     refine TW.seq ?_
     refine TW.region ?_
     refine TO.y (Y.move rfl) rfl rfl rfl ?_
     refine TO.y (Y.assign rfl) rfl rfl rfl ?_
     refine TO.nil ?_
     refine TE.next ?_
     refine TW.joinX (τ := List Ent) (X := Unit) (fun _ _ => []) (fun T _ => [.own V_data0 (lc T)]) ?_ (fun T48 X49 => ?_)
     ·refine TW.block ?_
      refine TW.loopX (σ := Int × List Ent) (X := Unit) (fun T _ => [(0, V_data0), (14, .int .i64 T33), (17, .int .i64 T.1)]) (fun T _ => [.own V_data0 (lc T.2)]) () [0] ⟨rfl, rfl, rfl, trivial⟩ rfl (fun S46 X47 => ?_)
      refine TW.seq ?_
      refine TW.seq ?_
      refine TW.region ?_
      refine TO.y (Y.move rfl) rfl rfl rfl ?_
      refine TO.y (Y.move rfl) rfl rfl rfl ?_
      refine TO.y (Y.gtr rfl rfl) rfl rfl rfl ?_
      refine TO.nil ?_
      refine TE.next ?_
      refine TW.cond rfl (fun H50 => ?_) (fun H50 => ?_)
      ·refine TW.skip ?_
       refine TE.next ?_
       refine TW.seq ?_
       refine TW.block ?_
       refine TW.bind fun E51 H52 => ?_
       refine TW.bind fun E53 H54 => ?_
       refine TW.bind fun E55 H56 => ?_
       refine TW.joinU (X := Unit) (fun _ _ => [(0, V_data0), (14, .int .i64 T33), (17, .int .i64 S46.1)]) (fun _ _ => [.own V_data0 (lc ((S46.2.set S46.1.toNat E51).set ((IntKind.i64.wrap (S46.1 - (1 : Int))).toNat) E53))]) ?_ (fun _ X58 => ?_)
       ·refine TW.draw (isH := []) hMix ?_
        refine TA.y 0 [] rfl (Y.move rfl) rfl rfl rfl (by kernel_rfl) rfl ?_
        refine TA.y 1 [] rfl (Y.move rfl) rfl rfl rfl (by kernel_rfl) rfl ?_
        refine TA.y 2 [] rfl (Y.move rfl) rfl rfl rfl (by kernel_rfl) rfl ?_
        refine TA.y 3 [] rfl (Y.move rfl) rfl rfl rfl (by kernel_rfl) rfl ?_
        refine TA.y 4 [] rfl (Y.sub rfl rfl) rfl rfl rfl (by kernel_rfl) rfl ?_
        refine TA.y 5 [] rfl (Y.move rfl) rfl rfl rfl (by kernel_rfl) rfl ?_
        refine TA.y 6 [] rfl (Y.move rfl) rfl rfl rfl (by kernel_rfl) rfl ?_
        refine TA.y 7 [] rfl (Y.sub rfl rfl) rfl rfl rfl (by kernel_rfl) rfl ?_
        refine TA.y 10 [] rfl (Y.move rfl) rfl rfl rfl (by kernel_rfl) rfl ?_
        refine TA.y 11 [] rfl (Y.move rfl) rfl rfl rfl (by kernel_rfl) rfl ?_
        refine TA.two 8 12 (by kernel_rfl) ?_ ?_
        ·refine TX.y [] rfl (Y.index ke28 (Can.own 0 rfl) H52 rfl rfl) rfl rfl rfl rfl ?_
         refine TA.two 9 12 (by kernel_rfl) ?_ ?_
         ·refine TX.y [] rfl (Y.load_el (us := [strV E51.Key, .int .i64 E51.Seq, .bool E51.Del, strV E51.Val]) (u := .agg #[strV E51.Key, .int .i64 E51.Seq, .bool E51.Del, strV E51.Val]) kk51 rfl (Can.own 0 rfl) (idx_get H52).2.2 rfl rfl rfl rfl rfl) rfl rfl rfl rfl ?_
          refine TA.one 12 (by kernel_rfl) ?_
          refine TX.y [] rfl (Y.index ke28 (Can.own 0 rfl) H54 rfl rfl) rfl rfl rfl rfl ?_
          refine TA.one 13 (by kernel_rfl) ?_
          refine TX.y [] rfl (Y.load_el (us := [strV E53.Key, .int .i64 E53.Seq, .bool E53.Del, strV E53.Val]) (u := .agg #[strV E53.Key, .int .i64 E53.Seq, .bool E53.Del, strV E53.Val]) kk51 rfl (Can.own 0 rfl) (idx_get H54).2.2 rfl rfl rfl rfl rfl) rfl rfl rfl rfl ?_
          refine TA.one 14 (by kernel_rfl) ?_
          refine TX.y [] rfl (Y.index ke28 (Can.own 0 rfl) H54 rfl rfl) rfl rfl rfl rfl ?_
          refine TA.one 15 (by kernel_rfl) ?_
          refine TX.ef0 [] rfl (Ef.store_el (us := [strV E51.Key, .int .i64 E51.Seq, .bool E51.Del, strV E51.Val]) (is' := [.own V_data0 (lc (S46.2.set S46.1.toNat E51))]) E51 0 kk51 rfl rfl (idx_get H54).2.2 rfl rfl (Cel.plain rfl rfl) rfl rfl rfl rfl) rfl rfl (fun _ => rfl) (fun _ => ?_)
          refine TA.one 16 (by kernel_rfl) ?_
          refine TX.y [] rfl (Y.index ke28 (Can.own 0 rfl) H56 rfl rfl) rfl rfl rfl rfl ?_
          refine TA.one 17 (by kernel_rfl) ?_
          refine TX.ef0 [] rfl (Ef.store_el (us := [strV E53.Key, .int .i64 E53.Seq, .bool E53.Del, strV E53.Val]) (is' := [.own V_data0 (lc ((S46.2.set S46.1.toNat E51).set ((IntKind.i64.wrap (S46.1 - (1 : Int))).toNat) E53))]) E53 0 kk51 rfl rfl (idx_get H56).2.2 rfl rfl (Cel.plain rfl rfl) rfl rfl rfl rfl) rfl rfl (fun _ => rfl) (fun _ => ?_)
          refine TA.nil (by kernel_rfl) ?_
          exact TE.jb_go () [0] ⟨rfl, rfl, rfl, trivial⟩ rfl
         refine TX.y [] rfl (Y.index ke28 (Can.own 0 rfl) H54 rfl rfl) rfl rfl rfl rfl ?_
         refine TA.two 9 13 (by kernel_rfl) ?_ ?_
         ·refine TX.y [] rfl (Y.load_el (us := [strV E51.Key, .int .i64 E51.Seq, .bool E51.Del, strV E51.Val]) (u := .agg #[strV E51.Key, .int .i64 E51.Seq, .bool E51.Del, strV E51.Val]) kk51 rfl (Can.own 0 rfl) (idx_get H52).2.2 rfl rfl rfl rfl rfl) rfl rfl rfl rfl ?_
          refine TA.one 13 (by kernel_rfl) ?_
          refine TX.y [] rfl (Y.load_el (us := [strV E53.Key, .int .i64 E53.Seq, .bool E53.Del, strV E53.Val]) (u := .agg #[strV E53.Key, .int .i64 E53.Seq, .bool E53.Del, strV E53.Val]) kk51 rfl (Can.own 0 rfl) (idx_get H54).2.2 rfl rfl rfl rfl rfl) rfl rfl rfl rfl ?_
          refine TA.one 14 (by kernel_rfl) ?_
          refine TX.y [] rfl (Y.index ke28 (Can.own 0 rfl) H54 rfl rfl) rfl rfl rfl rfl ?_
          refine TA.one 15 (by kernel_rfl) ?_
          refine TX.ef0 [] rfl (Ef.store_el (us := [strV E51.Key, .int .i64 E51.Seq, .bool E51.Del, strV E51.Val]) (is' := [.own V_data0 (lc (S46.2.set S46.1.toNat E51))]) E51 0 kk51 rfl rfl (idx_get H54).2.2 rfl rfl (Cel.plain rfl rfl) rfl rfl rfl rfl) rfl rfl (fun _ => rfl) (fun _ => ?_)
          refine TA.one 16 (by kernel_rfl) ?_
          refine TX.y [] rfl (Y.index ke28 (Can.own 0 rfl) H56 rfl rfl) rfl rfl rfl rfl ?_
          refine TA.one 17 (by kernel_rfl) ?_
          refine TX.ef0 [] rfl (Ef.store_el (us := [strV E53.Key, .int .i64 E53.Seq, .bool E53.Del, strV E53.Val]) (is' := [.own V_data0 (lc ((S46.2.set S46.1.toNat E51).set ((IntKind.i64.wrap (S46.1 - (1 : Int))).toNat) E53))]) E53 0 kk51 rfl rfl (idx_get H56).2.2 rfl rfl (Cel.plain rfl rfl) rfl rfl rfl rfl) rfl rfl (fun _ => rfl) (fun _ => ?_)
          refine TA.nil (by kernel_rfl) ?_
          exact TE.jb_go () [0] ⟨rfl, rfl, rfl, trivial⟩ rfl
         refine TX.y [] rfl (Y.load_el (us := [strV E53.Key, .int .i64 E53.Seq, .bool E53.Del, strV E53.Val]) (u := .agg #[strV E53.Key, .int .i64 E53.Seq, .bool E53.Del, strV E53.Val]) kk51 rfl (Can.own 0 rfl) (idx_get H54).2.2 rfl rfl rfl rfl rfl) rfl rfl rfl rfl ?_
         refine TA.one 9 (by kernel_rfl) ?_
         refine TX.y [] rfl (Y.load_el (us := [strV E51.Key, .int .i64 E51.Seq, .bool E51.Del, strV E51.Val]) (u := .agg #[strV E51.Key, .int .i64 E51.Seq, .bool E51.Del, strV E51.Val]) kk51 rfl (Can.own 0 rfl) (idx_get H52).2.2 rfl rfl rfl rfl rfl) rfl rfl rfl rfl ?_
         refine TA.one 14 (by kernel_rfl) ?_
         refine TX.y [] rfl (Y.index ke28 (Can.own 0 rfl) H54 rfl rfl) rfl rfl rfl rfl ?_
         refine TA.one 15 (by kernel_rfl) ?_
         refine TX.ef0 [] rfl (Ef.store_el (us := [strV E51.Key, .int .i64 E51.Seq, .bool E51.Del, strV E51.Val]) (is' := [.own V_data0 (lc (S46.2.set S46.1.toNat E51))]) E51 0 kk51 rfl rfl (idx_get H54).2.2 rfl rfl (Cel.plain rfl rfl) rfl rfl rfl rfl) rfl rfl (fun _ => rfl) (fun _ => ?_)
         refine TA.one 16 (by kernel_rfl) ?_
         refine TX.y [] rfl (Y.index ke28 (Can.own 0 rfl) H56 rfl rfl) rfl rfl rfl rfl ?_
         refine TA.one 17 (by kernel_rfl) ?_
         refine TX.ef0 [] rfl (Ef.store_el (us := [strV E53.Key, .int .i64 E53.Seq, .bool E53.Del, strV E53.Val]) (is' := [.own V_data0 (lc ((S46.2.set S46.1.toNat E51).set ((IntKind.i64.wrap (S46.1 - (1 : Int))).toNat) E53))]) E53 0 kk51 rfl rfl (idx_get H56).2.2 rfl rfl (Cel.plain rfl rfl) rfl rfl rfl rfl) rfl rfl (fun _ => rfl) (fun _ => ?_)
         refine TA.nil (by kernel_rfl) ?_
         exact TE.jb_go () [0] ⟨rfl, rfl, rfl, trivial⟩ rfl
        refine TX.y [] rfl (Y.index ke28 (Can.own 0 rfl) H54 rfl rfl) rfl rfl rfl rfl ?_
        refine TA.two 8 13 (by kernel_rfl) ?_ ?_
        ·refine TX.y [] rfl (Y.index ke28 (Can.own 0 rfl) H52 rfl rfl) rfl rfl rfl rfl ?_
         refine TA.two 9 13 (by kernel_rfl) ?_ ?_
         ·refine TX.y [] rfl (Y.load_el (us := [strV E51.Key, .int .i64 E51.Seq, .bool E51.Del, strV E51.Val]) (u := .agg #[strV E51.Key, .int .i64 E51.Seq, .bool E51.Del, strV E51.Val]) kk51 rfl (Can.own 0 rfl) (idx_get H52).2.2 rfl rfl rfl rfl rfl) rfl rfl rfl rfl ?_
          refine TA.one 13 (by kernel_rfl) ?_
          refine TX.y [] rfl (Y.load_el (us := [strV E53.Key, .int .i64 E53.Seq, .bool E53.Del, strV E53.Val]) (u := .agg #[strV E53.Key, .int .i64 E53.Seq, .bool E53.Del, strV E53.Val]) kk51 rfl (Can.own 0 rfl) (idx_get H54).2.2 rfl rfl rfl rfl rfl) rfl rfl rfl rfl ?_
          refine TA.one 14 (by kernel_rfl) ?_
          refine TX.y [] rfl (Y.index ke28 (Can.own 0 rfl) H54 rfl rfl) rfl rfl rfl rfl ?_
          refine TA.one 15 (by kernel_rfl) ?_
          refine TX.ef0 [] rfl (Ef.store_el (us := [strV E51.Key, .int .i64 E51.Seq, .bool E51.Del, strV E51.Val]) (is' := [.own V_data0 (lc (S46.2.set S46.1.toNat E51))]) E51 0 kk51 rfl rfl (idx_get H54).2.2 rfl rfl (Cel.plain rfl rfl) rfl rfl rfl rfl) rfl rfl (fun _ => rfl) (fun _ => ?_)
          refine TA.one 16 (by kernel_rfl) ?_
          refine TX.y [] rfl (Y.index ke28 (Can.own 0 rfl) H56 rfl rfl) rfl rfl rfl rfl ?_
          refine TA.one 17 (by kernel_rfl) ?_
          refine TX.ef0 [] rfl (Ef.store_el (us := [strV E53.Key, .int .i64 E53.Seq, .bool E53.Del, strV E53.Val]) (is' := [.own V_data0 (lc ((S46.2.set S46.1.toNat E51).set ((IntKind.i64.wrap (S46.1 - (1 : Int))).toNat) E53))]) E53 0 kk51 rfl rfl (idx_get H56).2.2 rfl rfl (Cel.plain rfl rfl) rfl rfl rfl rfl) rfl rfl (fun _ => rfl) (fun _ => ?_)
          refine TA.nil (by kernel_rfl) ?_
          exact TE.jb_go () [0] ⟨rfl, rfl, rfl, trivial⟩ rfl
         refine TX.y [] rfl (Y.load_el (us := [strV E53.Key, .int .i64 E53.Seq, .bool E53.Del, strV E53.Val]) (u := .agg #[strV E53.Key, .int .i64 E53.Seq, .bool E53.Del, strV E53.Val]) kk51 rfl (Can.own 0 rfl) (idx_get H54).2.2 rfl rfl rfl rfl rfl) rfl rfl rfl rfl ?_
         refine TA.one 9 (by kernel_rfl) ?_
         refine TX.y [] rfl (Y.load_el (us := [strV E51.Key, .int .i64 E51.Seq, .bool E51.Del, strV E51.Val]) (u := .agg #[strV E51.Key, .int .i64 E51.Seq, .bool E51.Del, strV E51.Val]) kk51 rfl (Can.own 0 rfl) (idx_get H52).2.2 rfl rfl rfl rfl rfl) rfl rfl rfl rfl ?_
         refine TA.one 14 (by kernel_rfl) ?_
         refine TX.y [] rfl (Y.index ke28 (Can.own 0 rfl) H54 rfl rfl) rfl rfl rfl rfl ?_
         refine TA.one 15 (by kernel_rfl) ?_
         refine TX.ef0 [] rfl (Ef.store_el (us := [strV E51.Key, .int .i64 E51.Seq, .bool E51.Del, strV E51.Val]) (is' := [.own V_data0 (lc (S46.2.set S46.1.toNat E51))]) E51 0 kk51 rfl rfl (idx_get H54).2.2 rfl rfl (Cel.plain rfl rfl) rfl rfl rfl rfl) rfl rfl (fun _ => rfl) (fun _ => ?_)
         refine TA.one 16 (by kernel_rfl) ?_
         refine TX.y [] rfl (Y.index ke28 (Can.own 0 rfl) H56 rfl rfl) rfl rfl rfl rfl ?_
         refine TA.one 17 (by kernel_rfl) ?_
         refine TX.ef0 [] rfl (Ef.store_el (us := [strV E53.Key, .int .i64 E53.Seq, .bool E53.Del, strV E53.Val]) (is' := [.own V_data0 (lc ((S46.2.set S46.1.toNat E51).set ((IntKind.i64.wrap (S46.1 - (1 : Int))).toNat) E53))]) E53 0 kk51 rfl rfl (idx_get H56).2.2 rfl rfl (Cel.plain rfl rfl) rfl rfl rfl rfl) rfl rfl (fun _ => rfl) (fun _ => ?_)
         refine TA.nil (by kernel_rfl) ?_
         exact TE.jb_go () [0] ⟨rfl, rfl, rfl, trivial⟩ rfl
        refine TX.y [] rfl (Y.load_el (us := [strV E53.Key, .int .i64 E53.Seq, .bool E53.Del, strV E53.Val]) (u := .agg #[strV E53.Key, .int .i64 E53.Seq, .bool E53.Del, strV E53.Val]) kk51 rfl (Can.own 0 rfl) (idx_get H54).2.2 rfl rfl rfl rfl rfl) rfl rfl rfl rfl ?_
        refine TA.one 8 (by kernel_rfl) ?_
        refine TX.y [] rfl (Y.index ke28 (Can.own 0 rfl) H52 rfl rfl) rfl rfl rfl rfl ?_
        refine TA.one 9 (by kernel_rfl) ?_
        refine TX.y [] rfl (Y.load_el (us := [strV E51.Key, .int .i64 E51.Seq, .bool E51.Del, strV E51.Val]) (u := .agg #[strV E51.Key, .int .i64 E51.Seq, .bool E51.Del, strV E51.Val]) kk51 rfl (Can.own 0 rfl) (idx_get H52).2.2 rfl rfl rfl rfl rfl) rfl rfl rfl rfl ?_
        refine TA.one 14 (by kernel_rfl) ?_
        refine TX.y [] rfl (Y.index ke28 (Can.own 0 rfl) H54 rfl rfl) rfl rfl rfl rfl ?_
        refine TA.one 15 (by kernel_rfl) ?_
        refine TX.ef0 [] rfl (Ef.store_el (us := [strV E51.Key, .int .i64 E51.Seq, .bool E51.Del, strV E51.Val]) (is' := [.own V_data0 (lc (S46.2.set S46.1.toNat E51))]) E51 0 kk51 rfl rfl (idx_get H54).2.2 rfl rfl (Cel.plain rfl rfl) rfl rfl rfl rfl) rfl rfl (fun _ => rfl) (fun _ => ?_)
        refine TA.one 16 (by kernel_rfl) ?_
        refine TX.y [] rfl (Y.index ke28 (Can.own 0 rfl) H56 rfl rfl) rfl rfl rfl rfl ?_
        refine TA.one 17 (by kernel_rfl) ?_
        refine TX.ef0 [] rfl (Ef.store_el (us := [strV E53.Key, .int .i64 E53.Seq, .bool E53.Del, strV E53.Val]) (is' := [.own V_data0 (lc ((S46.2.set S46.1.toNat E51).set ((IntKind.i64.wrap (S46.1 - (1 : Int))).toNat) E53))]) E53 0 kk51 rfl rfl (idx_get H56).2.2 rfl rfl (Cel.plain rfl rfl) rfl rfl rfl rfl) rfl rfl (fun _ => rfl) (fun _ => ?_)
        refine TA.nil (by kernel_rfl) ?_
        exact TE.jb_go () [0] ⟨rfl, rfl, rfl, trivial⟩ rfl
       refine TE.block_normal ?_
       refine TE.next ?_
       refine TW.region ?_
       refine TO.y (Y.move rfl) rfl rfl rfl ?_
       refine TO.y (Y.sub rfl rfl) rfl rfl rfl ?_
       refine TO.y (Y.assign rfl) rfl rfl rfl ?_
       refine TO.nil ?_
       exact TE.lp_go () [0] ⟨rfl, rfl, rfl, trivial⟩ rfl
      refine TW.exit ?_
      refine TE.then_exit ?_
      refine TE.lp_exit ?_
      refine TE.block_exit ?_
      exact TE.jn_go () [0] trivial rfl
     refine TE.next ?_
     refine TW.ret ?_
     refine TE.then_ret ?_
     exact TE.leaf fun _ _ hf_ hs_ => ret_any (rs := []) (vs := []) (.inl rfl) rfl trivial hf_ hs_ ⟨(), rfl, hs_.pulls [0] rfl⟩
    refine TW.skip ?_
    refine TE.next ?_
    refine TW.seq ?_
    refine TW.region ?_
    refine TO.y (Y.move rfl) rfl rfl rfl ?_
    refine TO.y (Y.move rfl) rfl rfl rfl ?_
    refine TO.y (Y.add rfl rfl) rfl rfl rfl ?_
    refine TO.y (Y.conv ki3 ki104 rfl) rfl rfl rfl ?_
    refine TO.y (Y.shr (by decide) rfl rfl) rfl rfl rfl ?_
    refine TO.y (Y.conv ki104 ki3 rfl) rfl rfl rfl ?_
    refine TO.y (Y.assign rfl) rfl rfl rfl ?_
    refine TO.nil ?_
    refine TE.next ?_
    refine TW.seq ?_
    refine TW.region ?_
    refine TO.y (Y.move rfl) rfl rfl rfl ?_
    refine TO.y (Y.move rfl) rfl rfl rfl ?_
    refine TO.y (Y.add rfl rfl) rfl rfl rfl ?_
    refine TO.y (Y.assign rfl) rfl rfl rfl ?_
    refine TO.nil ?_
    refine TE.next ?_
    refine TW.seq ?_
    refine TW.region ?_
    refine TO.y (Y.assign rfl) rfl rfl rfl ?_
    refine TO.y (Y.assign rfl) rfl rfl rfl ?_
    refine TO.nil ?_
    refine TE.next ?_
    refine TW.seq ?_
    refine TW.seq ?_
    refine TW.region ?_
    refine TO.y (Y.move rfl) rfl rfl rfl ?_
    refine TO.y (Y.move rfl) rfl rfl rfl ?_
    refine TO.y (Y.gtr rfl rfl) rfl rfl rfl ?_
    refine TO.nil ?_
    refine TE.next ?_
    refine TW.joinX (τ := Int × Int) (X := Unit) (fun T _ => [(0, V_data0), (1, .int .i64 a), (2, .int .i64 m), (3, .int .i64 b), (4, .func (.func 72) #[] #[]), (18, .int .i64 (IntKind.i64.wrap (ishr .u64 (IntKind.u64.wrap (IntKind.i64.wrap (a + b))) (1 : Int)))), (19, .int .i64 (IntKind.i64.wrap (IntKind.i64.wrap (ishr .u64 (IntKind.u64.wrap (IntKind.i64.wrap (a + b))) (1 : Int)) + m))), (20, .int .i64 T.1), (21, .int .i64 T.2)]) (fun _ _ => [.own V_data0 (lc data)]) ?_ (fun T59 X60 => ?_)
    ·refine TW.cond rfl (fun H61 => ?_) (fun H61 => ?_)
     ·refine TW.seq ?_
      refine TW.region ?_
      refine TO.y (Y.move rfl) rfl rfl rfl ?_
      refine TO.y (Y.move rfl) rfl rfl rfl ?_
      refine TO.y (Y.sub rfl rfl) rfl rfl rfl ?_
      refine TO.y (Y.assign rfl) rfl rfl rfl ?_
      refine TO.nil ?_
      refine TE.next ?_
      refine TW.region ?_
      refine TO.y (Y.move rfl) rfl rfl rfl ?_
      refine TO.y (Y.assign rfl) rfl rfl rfl ?_
      refine TO.nil ?_
      exact TE.jn_go () [0] ⟨rfl, rfl, rfl, rfl, rfl, rfl, rfl, rfl, rfl, trivial⟩ rfl
     refine TW.seq ?_
     refine TW.region ?_
     refine TO.y (Y.move rfl) rfl rfl rfl ?_
     refine TO.y (Y.assign rfl) rfl rfl rfl ?_
     refine TO.nil ?_
     refine TE.next ?_
     refine TW.region ?_
     refine TO.y (Y.move rfl) rfl rfl rfl ?_
     refine TO.y (Y.assign rfl) rfl rfl rfl ?_
     refine TO.nil ?_
     exact TE.jn_go () [0] ⟨rfl, rfl, rfl, rfl, rfl, rfl, rfl, rfl, rfl, trivial⟩ rfl
    refine TE.next ?_
    refine TW.seq ?_
    refine TW.region ?_
    refine TO.y (Y.move rfl) rfl rfl rfl ?_
    refine TO.y (Y.sub rfl rfl) rfl rfl rfl ?_
    refine TO.y (Y.assign rfl) rfl rfl rfl ?_
    refine TO.nil ?_
    refine TE.next ?_
    refine TW.seq ?_
    refine TW.joinX (τ := Int) (X := Unit) (fun T _ => [(0, V_data0), (1, .int .i64 a), (2, .int .i64 m), (3, .int .i64 b), (4, .func (.func 72) #[] #[]), (18, .int .i64 (IntKind.i64.wrap (ishr .u64 (IntKind.u64.wrap (IntKind.i64.wrap (a + b))) (1 : Int)))), (19, .int .i64 (IntKind.i64.wrap (IntKind.i64.wrap (ishr .u64 (IntKind.u64.wrap (IntKind.i64.wrap (a + b))) (1 : Int)) + m))), (20, .int .i64 T)]) (fun _ _ => [.own V_data0 (lc data)]) ?_ (fun T64 X65 => ?_)
    ·refine TW.block ?_
     refine TW.loopX (σ := Int × Int) (X := Unit) (fun T _ => [(0, V_data0), (1, .int .i64 a), (2, .int .i64 m), (3, .int .i64 b), (4, .func (.func 72) #[] #[]), (18, .int .i64 (IntKind.i64.wrap (ishr .u64 (IntKind.u64.wrap (IntKind.i64.wrap (a + b))) (1 : Int)))), (19, .int .i64 (IntKind.i64.wrap (IntKind.i64.wrap (ishr .u64 (IntKind.u64.wrap (IntKind.i64.wrap (a + b))) (1 : Int)) + m))), (20, .int .i64 T.1), (21, .int .i64 T.2), (22, .int .i64 (IntKind.i64.wrap (IntKind.i64.wrap (IntKind.i64.wrap (ishr .u64 (IntKind.u64.wrap (IntKind.i64.wrap (a + b))) (1 : Int)) + m) - (1 : Int))))]) (fun _ _ => [.own V_data0 (lc data)]) () [0] ⟨rfl, rfl, rfl, rfl, rfl, rfl, rfl, rfl, rfl, rfl, trivial⟩ rfl (fun S62 X63 => ?_)
     refine TW.seq ?_
     refine TW.seq ?_
     refine TW.region ?_
     refine TO.y (Y.move rfl) rfl rfl rfl ?_
     refine TO.y (Y.move rfl) rfl rfl rfl ?_
     refine TO.y (Y.lss rfl rfl) rfl rfl rfl ?_
     refine TO.nil ?_
     refine TE.next ?_
     refine TW.cond rfl (fun H66 => ?_) (fun H66 => ?_)
     ·refine TW.skip ?_
      refine TE.next ?_
      refine TW.block ?_
      refine TW.seq ?_
      refine TW.region ?_
      refine TO.y (Y.move rfl) rfl rfl rfl ?_
      refine TO.y (Y.move rfl) rfl rfl rfl ?_
      refine TO.y (Y.add rfl rfl) rfl rfl rfl ?_
      refine TO.y (Y.conv ki3 ki104 rfl) rfl rfl rfl ?_
      refine TO.y (Y.shr (by decide) rfl rfl) rfl rfl rfl ?_
      refine TO.y (Y.conv ki104 ki3 rfl) rfl rfl rfl ?_
      refine TO.y (Y.assign rfl) rfl rfl rfl ?_
      refine TO.nil ?_
      refine TE.next ?_
      refine TW.seq ?_
      refine TW.draw (isH := [.own V_data0 (lc data)]) hMix ?_
      refine TA.y 0 [0] rfl (Y.move rfl) rfl rfl rfl (by kernel_rfl) rfl ?_
      refine TA.y 1 [0] rfl (Y.move rfl) rfl rfl rfl (by kernel_rfl) rfl ?_
      refine TA.y 2 [0] rfl (Y.move rfl) rfl rfl rfl (by kernel_rfl) rfl ?_
      refine TA.y 3 [0] rfl (Y.move rfl) rfl rfl rfl (by kernel_rfl) rfl ?_
      refine TA.y 4 [0] rfl (Y.sub rfl rfl) rfl rfl rfl (by kernel_rfl) rfl ?_
      refine TA.bind fun E67 H68 => ?_
      refine TA.y 5 [0] rfl (Y.index ke28 (Can.own 0 rfl) H68 rfl rfl) rfl rfl rfl (by kernel_rfl) rfl ?_
      refine TA.y 6 [0] rfl (Y.load_el (us := [strV E67.Key, .int .i64 E67.Seq, .bool E67.Del, strV E67.Val]) (u := .agg #[strV E67.Key, .int .i64 E67.Seq, .bool E67.Del, strV E67.Val]) kk51 rfl (Can.own 0 rfl) (idx_get H68).2.2 rfl rfl rfl rfl rfl) rfl rfl rfl (by kernel_rfl) rfl ?_
      refine TA.y 7 [0] rfl (Y.move rfl) rfl rfl rfl (by kernel_rfl) rfl ?_
      refine TA.y 8 [0] rfl (Y.move rfl) rfl rfl rfl (by kernel_rfl) rfl ?_
      refine TA.bind fun E69 H70 => ?_
      refine TA.y 9 [0] rfl (Y.index ke28 (Can.own 0 rfl) H70 rfl rfl) rfl rfl rfl (by kernel_rfl) rfl ?_
      refine TA.y 10 [0] rfl (Y.load_el (us := [strV E69.Key, .int .i64 E69.Seq, .bool E69.Del, strV E69.Val]) (u := .agg #[strV E69.Key, .int .i64 E69.Seq, .bool E69.Del, strV E69.Val]) kk51 rfl (Can.own 0 rfl) (idx_get H70).2.2 rfl rfl rfl rfl rfl) rfl rfl rfl (by kernel_rfl) rfl ?_
      refine TA.bind fun R71 H72 => ?_
      refine TA.one 11 (by kernel_rfl) ?_
      refine TX.ef [0] rfl (Ef.callv (rest := [.own V_data0 (lc data)]) [0] (impl_compareEnts_con E67 E69  R71 H72) kc72 rfl rfl rfl rfl trivial) rfl rfl rfl (fun _ => rfl) (fun _ => ?_)
      refine TA.y 12 [0] rfl (Y.lss rfl rfl) rfl rfl rfl (by kernel_rfl) rfl ?_
      refine TA.y 13 [0] rfl (Y.not rfl) rfl rfl rfl (by kernel_rfl) rfl ?_
      refine TA.nil (by kernel_rfl) ?_
      refine TE.next ?_
      refine TW.joinX (τ := Int × Int) (X := Unit) (fun T _ => [(0, V_data0), (1, .int .i64 a), (2, .int .i64 m), (3, .int .i64 b), (4, .func (.func 72) #[] #[]), (18, .int .i64 (IntKind.i64.wrap (ishr .u64 (IntKind.u64.wrap (IntKind.i64.wrap (a + b))) (1 : Int)))), (19, .int .i64 (IntKind.i64.wrap (IntKind.i64.wrap (ishr .u64 (IntKind.u64.wrap (IntKind.i64.wrap (a + b))) (1 : Int)) + m))), (20, .int .i64 T.1), (21, .int .i64 T.2), (22, .int .i64 (IntKind.i64.wrap (IntKind.i64.wrap (IntKind.i64.wrap (ishr .u64 (IntKind.u64.wrap (IntKind.i64.wrap (a + b))) (1 : Int)) + m) - (1 : Int))))]) (fun _ _ => [.own V_data0 (lc data)]) ?_ (fun T74 X75 => ?_)
      ·refine TW.cond rfl (fun H76 => ?_) (fun H76 => ?_)
       ·refine TW.region ?_
        refine TO.y (Y.move rfl) rfl rfl rfl ?_
        refine TO.y (Y.add rfl rfl) rfl rfl rfl ?_
        refine TO.y (Y.assign rfl) rfl rfl rfl ?_
        refine TO.nil ?_
        exact TE.jn_go () [0] ⟨rfl, rfl, rfl, rfl, rfl, rfl, rfl, rfl, rfl, rfl, trivial⟩ rfl
       refine TW.region ?_
       refine TO.y (Y.move rfl) rfl rfl rfl ?_
       refine TO.y (Y.assign rfl) rfl rfl rfl ?_
       refine TO.nil ?_
       exact TE.jn_go () [0] ⟨rfl, rfl, rfl, rfl, rfl, rfl, rfl, rfl, rfl, rfl, trivial⟩ rfl
      refine TE.block_normal ?_
      exact TE.lp_go () [0] ⟨rfl, rfl, rfl, rfl, rfl, rfl, rfl, rfl, rfl, rfl, trivial⟩ rfl
     refine TW.exit ?_
     refine TE.then_exit ?_
     refine TE.lp_exit ?_
     refine TE.block_exit ?_
     exact TE.jn_go () [0] ⟨rfl, rfl, rfl, rfl, rfl, rfl, rfl, rfl, trivial⟩ rfl
    refine TE.next ?_
    refine TW.seq ?_
    refine TW.region ?_
    refine TO.y (Y.move rfl) rfl rfl rfl ?_
    refine TO.y (Y.move rfl) rfl rfl rfl ?_
    refine TO.y (Y.sub rfl rfl) rfl rfl rfl ?_
    refine TO.y (Y.assign rfl) rfl rfl rfl ?_
    refine TO.nil ?_
    refine TE.next ?_
    refine TW.seq ?_
    refine TW.seq ?_
    refine TW.joinBX (τ := Bool) (X := Unit) (fun T _ => [(0, V_data0), (1, .int .i64 a), (2, .int .i64 m), (3, .int .i64 b), (4, .func (.func 72) #[] #[]), (18, .int .i64 (IntKind.i64.wrap (ishr .u64 (IntKind.u64.wrap (IntKind.i64.wrap (a + b))) (1 : Int)))), (20, .int .i64 T64), (24, .int .i64 (IntKind.i64.wrap (IntKind.i64.wrap (IntKind.i64.wrap (ishr .u64 (IntKind.u64.wrap (IntKind.i64.wrap (a + b))) (1 : Int)) + m) - T64))), (185, .bool T)]) (fun _ _ => [.own V_data0 (lc data)]) ?_ (fun T77 X78 => ?_)
    ·refine TW.region ?_
     refine TO.y (Y.move rfl) rfl rfl rfl ?_
     refine TO.y (Y.move rfl) rfl rfl rfl ?_
     refine TO.y (Y.lss rfl rfl) rfl rfl rfl ?_
     refine TO.y (Y.move rfl) rfl rfl rfl ?_
     refine TO.ite (b := decide (T64 < m)) (fun H79 => ?_) (fun H79 => ?_)
     ·refine TO.y (Y.move rfl) (Gd.at 3 true 181 (decide (T64 < m)) rfl rfl rfl (beq_tt H79)) rfl rfl ?_
      refine TO.y (Y.move rfl) (Gd.at 3 true 181 (decide (T64 < m)) rfl rfl rfl (beq_tt H79)) rfl rfl ?_
      refine TO.y (Y.lss rfl rfl) (Gd.at 3 true 181 (decide (T64 < m)) rfl rfl rfl (beq_tt H79)) rfl rfl ?_
      refine TO.y (Y.pick_t H79 rfl rfl) rfl rfl rfl ?_
      refine TO.nil ?_
      exact TE.jb_go () [0] ⟨rfl, rfl, rfl, rfl, rfl, rfl, rfl, rfl, rfl, trivial⟩ rfl
     refine TO.off (Gd.at 3 true 181 (decide (T64 < m)) rfl rfl rfl (beq_ft H79)) rfl rfl ?_
     refine TO.off (Gd.at 3 true 181 (decide (T64 < m)) rfl rfl rfl (beq_ft H79)) rfl rfl ?_
     refine TO.off (Gd.at 3 true 181 (decide (T64 < m)) rfl rfl rfl (beq_ft H79)) rfl rfl ?_
     refine TO.y (Y.pick_f H79 rfl rfl) rfl rfl rfl ?_
     refine TO.nil ?_
     exact TE.jb_go () [0] ⟨rfl, rfl, rfl, rfl, rfl, rfl, rfl, rfl, rfl, trivial⟩ rfl
    refine TE.next ?_
    refine TW.joinX (τ := List Ent) (X := Unit) (fun _ _ => [(0, V_data0), (1, .int .i64 a), (3, .int .i64 b), (4, .func (.func 72) #[] #[]), (18, .int .i64 (IntKind.i64.wrap (ishr .u64 (IntKind.u64.wrap (IntKind.i64.wrap (a + b))) (1 : Int)))), (20, .int .i64 T64), (24, .int .i64 (IntKind.i64.wrap (IntKind.i64.wrap (IntKind.i64.wrap (ishr .u64 (IntKind.u64.wrap (IntKind.i64.wrap (a + b))) (1 : Int)) + m) - T64)))]) (fun T _ => [.own V_data0 (lc T)]) ?_ (fun T80 X81 => ?_)
    ·refine TW.cond rfl (fun H82 => ?_) (fun H82 => ?_)
     ·refine TW.region ?_
      refine TO.y (Y.move rfl) rfl rfl rfl ?_
      refine TO.y (Y.move rfl) rfl rfl rfl ?_
      refine TO.y (Y.move rfl) rfl rfl rfl ?_
      refine TO.y (Y.move rfl) rfl rfl rfl ?_
      refine TO.y (Y.move rfl) rfl rfl rfl ?_
      refine TO.bind fun R83 H84 => ?_
      refine TO.ef (Ef.call (rest := []) [0] (slices_rotateCmpFunc_57869_at_impl_compareEnts_con data T64 m (IntKind.i64.wrap (IntKind.i64.wrap (IntKind.i64.wrap (ishr .u64 (IntKind.u64.wrap (IntKind.i64.wrap (a + b))) (1 : Int)) + m) - T64)) V_data0 R83 H84) kc107 rfl rfl trivial) rfl rfl rfl (fun _ => ?_)
      refine TO.nil ?_
      exact TE.jn_go () [0] ⟨rfl, rfl, rfl, rfl, rfl, rfl, rfl, trivial⟩ rfl
     refine TW.skip ?_
     exact TE.jn_go () [0] ⟨rfl, rfl, rfl, rfl, rfl, rfl, rfl, trivial⟩ rfl
    refine TE.next ?_
    refine TW.seq ?_
    refine TW.seq ?_
    refine TW.joinBX (τ := Bool) (X := Unit) (fun T _ => [(0, V_data0), (1, .int .i64 a), (3, .int .i64 b), (4, .func (.func 72) #[] #[]), (18, .int .i64 (IntKind.i64.wrap (ishr .u64 (IntKind.u64.wrap (IntKind.i64.wrap (a + b))) (1 : Int)))), (20, .int .i64 T64), (24, .int .i64 (IntKind.i64.wrap (IntKind.i64.wrap (IntKind.i64.wrap (ishr .u64 (IntKind.u64.wrap (IntKind.i64.wrap (a + b))) (1 : Int)) + m) - T64))), (199, .bool T)]) (fun _ _ => [.own V_data0 (lc T80)]) ?_ (fun T86 X87 => ?_)
    ·refine TW.region ?_
     refine TO.y (Y.move rfl) rfl rfl rfl ?_
     refine TO.y (Y.move rfl) rfl rfl rfl ?_
     refine TO.y (Y.lss rfl rfl) rfl rfl rfl ?_
     refine TO.y (Y.move rfl) rfl rfl rfl ?_
     refine TO.ite (b := decide (a < T64)) (fun H88 => ?_) (fun H88 => ?_)
     ·refine TO.y (Y.move rfl) (Gd.at 3 true 195 (decide (a < T64)) rfl rfl rfl (beq_tt H88)) rfl rfl ?_
      refine TO.y (Y.move rfl) (Gd.at 3 true 195 (decide (a < T64)) rfl rfl rfl (beq_tt H88)) rfl rfl ?_
      refine TO.y (Y.lss rfl rfl) (Gd.at 3 true 195 (decide (a < T64)) rfl rfl rfl (beq_tt H88)) rfl rfl ?_
      refine TO.y (Y.pick_t H88 rfl rfl) rfl rfl rfl ?_
      refine TO.nil ?_
      exact TE.jb_go () [0] ⟨rfl, rfl, rfl, rfl, rfl, rfl, rfl, rfl, trivial⟩ rfl
     refine TO.off (Gd.at 3 true 195 (decide (a < T64)) rfl rfl rfl (beq_ft H88)) rfl rfl ?_
     refine TO.off (Gd.at 3 true 195 (decide (a < T64)) rfl rfl rfl (beq_ft H88)) rfl rfl ?_
     refine TO.off (Gd.at 3 true 195 (decide (a < T64)) rfl rfl rfl (beq_ft H88)) rfl rfl ?_
     refine TO.y (Y.pick_f H88 rfl rfl) rfl rfl rfl ?_
     refine TO.nil ?_
     exact TE.jb_go () [0] ⟨rfl, rfl, rfl, rfl, rfl, rfl, rfl, rfl, trivial⟩ rfl
    refine TE.next ?_
    refine TW.joinX (τ := List Ent) (X := Unit) (fun _ _ => [(0, V_data0), (3, .int .i64 b), (4, .func (.func 72) #[] #[]), (18, .int .i64 (IntKind.i64.wrap (ishr .u64 (IntKind.u64.wrap (IntKind.i64.wrap (a + b))) (1 : Int)))), (24, .int .i64 (IntKind.i64.wrap (IntKind.i64.wrap (IntKind.i64.wrap (ishr .u64 (IntKind.u64.wrap (IntKind.i64.wrap (a + b))) (1 : Int)) + m) - T64)))]) (fun T _ => [.own V_data0 (lc T)]) ?_ (fun T89 X90 => ?_)
    ·refine TW.cond rfl (fun H91 => ?_) (fun H91 => ?_)
     ·refine TW.region ?_
      refine TO.y (Y.move rfl) rfl rfl rfl ?_
      refine TO.y (Y.move rfl) rfl rfl rfl ?_
      refine TO.y (Y.move rfl) rfl rfl rfl ?_
      refine TO.y (Y.move rfl) rfl rfl rfl ?_
      refine TO.y (Y.move rfl) rfl rfl rfl ?_
      refine TO.bind fun R92 H93 => ?_
      refine TO.ef (Ef.call (rest := []) [0] (ih_ T80 a T64 (IntKind.i64.wrap (ishr .u64 (IntKind.u64.wrap (IntKind.i64.wrap (a + b))) (1 : Int))) V_data0 R92 H93) kc102 rfl rfl trivial) rfl rfl rfl (fun _ => ?_)
      refine TO.nil ?_
      exact TE.jn_go () [0] ⟨rfl, rfl, rfl, rfl, rfl, trivial⟩ rfl
     refine TW.skip ?_
     exact TE.jn_go () [0] ⟨rfl, rfl, rfl, rfl, rfl, trivial⟩ rfl
    refine TE.next ?_
    refine TW.seq ?_
    refine TW.joinBX (τ := Bool) (X := Unit) (fun T _ => [(0, V_data0), (3, .int .i64 b), (4, .func (.func 72) #[] #[]), (18, .int .i64 (IntKind.i64.wrap (ishr .u64 (IntKind.u64.wrap (IntKind.i64.wrap (a + b))) (1 : Int)))), (24, .int .i64 (IntKind.i64.wrap (IntKind.i64.wrap (IntKind.i64.wrap (ishr .u64 (IntKind.u64.wrap (IntKind.i64.wrap (a + b))) (1 : Int)) + m) - T64))), (213, .bool T)]) (fun _ _ => [.own V_data0 (lc T89)]) ?_ (fun T95 X96 => ?_)
    ·refine TW.region ?_
     refine TO.y (Y.move rfl) rfl rfl rfl ?_
     refine TO.y (Y.move rfl) rfl rfl rfl ?_
     refine TO.y (Y.lss rfl rfl) rfl rfl rfl ?_
     refine TO.y (Y.move rfl) rfl rfl rfl ?_
     refine TO.ite (b := decide (IntKind.i64.wrap (ishr .u64 (IntKind.u64.wrap (IntKind.i64.wrap (a + b))) (1 : Int)) < IntKind.i64.wrap (IntKind.i64.wrap (IntKind.i64.wrap (ishr .u64 (IntKind.u64.wrap (IntKind.i64.wrap (a + b))) (1 : Int)) + m) - T64))) (fun H97 => ?_) (fun H97 => ?_)
     ·refine TO.y (Y.move rfl) (Gd.at 3 true 209 (decide (IntKind.i64.wrap (ishr .u64 (IntKind.u64.wrap (IntKind.i64.wrap (a + b))) (1 : Int)) < IntKind.i64.wrap (IntKind.i64.wrap (IntKind.i64.wrap (ishr .u64 (IntKind.u64.wrap (IntKind.i64.wrap (a + b))) (1 : Int)) + m) - T64))) rfl rfl rfl (beq_tt H97)) rfl rfl ?_
      refine TO.y (Y.move rfl) (Gd.at 3 true 209 (decide (IntKind.i64.wrap (ishr .u64 (IntKind.u64.wrap (IntKind.i64.wrap (a + b))) (1 : Int)) < IntKind.i64.wrap (IntKind.i64.wrap (IntKind.i64.wrap (ishr .u64 (IntKind.u64.wrap (IntKind.i64.wrap (a + b))) (1 : Int)) + m) - T64))) rfl rfl rfl (beq_tt H97)) rfl rfl ?_
      refine TO.y (Y.lss rfl rfl) (Gd.at 3 true 209 (decide (IntKind.i64.wrap (ishr .u64 (IntKind.u64.wrap (IntKind.i64.wrap (a + b))) (1 : Int)) < IntKind.i64.wrap (IntKind.i64.wrap (IntKind.i64.wrap (ishr .u64 (IntKind.u64.wrap (IntKind.i64.wrap (a + b))) (1 : Int)) + m) - T64))) rfl rfl rfl (beq_tt H97)) rfl rfl ?_
      refine TO.y (Y.pick_t H97 rfl rfl) rfl rfl rfl ?_
      refine TO.nil ?_
      exact TE.jb_go () [0] ⟨rfl, rfl, rfl, rfl, rfl, rfl, trivial⟩ rfl
     refine TO.off (Gd.at 3 true 209 (decide (IntKind.i64.wrap (ishr .u64 (IntKind.u64.wrap (IntKind.i64.wrap (a + b))) (1 : Int)) < IntKind.i64.wrap (IntKind.i64.wrap (IntKind.i64.wrap (ishr .u64 (IntKind.u64.wrap (IntKind.i64.wrap (a + b))) (1 : Int)) + m) - T64))) rfl rfl rfl (beq_ft H97)) rfl rfl ?_
     refine TO.off (Gd.at 3 true 209 (decide (IntKind.i64.wrap (ishr .u64 (IntKind.u64.wrap (IntKind.i64.wrap (a + b))) (1 : Int)) < IntKind.i64.wrap (IntKind.i64.wrap (IntKind.i64.wrap (ishr .u64 (IntKind.u64.wrap (IntKind.i64.wrap (a + b))) (1 : Int)) + m) - T64))) rfl rfl rfl (beq_ft H97)) rfl rfl ?_
     refine TO.off (Gd.at 3 true 209 (decide (IntKind.i64.wrap (ishr .u64 (IntKind.u64.wrap (IntKind.i64.wrap (a + b))) (1 : Int)) < IntKind.i64.wrap (IntKind.i64.wrap (IntKind.i64.wrap (ishr .u64 (IntKind.u64.wrap (IntKind.i64.wrap (a + b))) (1 : Int)) + m) - T64))) rfl rfl rfl (beq_ft H97)) rfl rfl ?_
     refine TO.y (Y.pick_f H97 rfl rfl) rfl rfl rfl ?_
     refine TO.nil ?_
     exact TE.jb_go () [0] ⟨rfl, rfl, rfl, rfl, rfl, rfl, trivial⟩ rfl
    refine TE.next ?_
    refine TW.joinX (τ := List Ent) (X := Unit) (fun _ _ => []) (fun T _ => [.own V_data0 (lc T)]) ?_ (fun T98 X99 => ?_)
    ·refine TW.cond rfl (fun H100 => ?_) (fun H100 => ?_)
     ·refine TW.region ?_
      refine TO.y (Y.move rfl) rfl rfl rfl ?_
      refine TO.y (Y.move rfl) rfl rfl rfl ?_
      refine TO.y (Y.move rfl) rfl rfl rfl ?_
      refine TO.y (Y.move rfl) rfl rfl rfl ?_
      refine TO.y (Y.move rfl) rfl rfl rfl ?_
      refine TO.bind fun R101 H102 => ?_
      refine TO.ef (Ef.call (rest := []) [0] (ih_ T89 (IntKind.i64.wrap (ishr .u64 (IntKind.u64.wrap (IntKind.i64.wrap (a + b))) (1 : Int))) (IntKind.i64.wrap (IntKind.i64.wrap (IntKind.i64.wrap (ishr .u64 (IntKind.u64.wrap (IntKind.i64.wrap (a + b))) (1 : Int)) + m) - T64)) b V_data0 R101 H102) kc102 rfl rfl trivial) rfl rfl rfl (fun _ => ?_)
      refine TO.nil ?_
      exact TE.jn_go () [0] trivial rfl
     refine TW.skip ?_
     exact TE.jn_go () [0] trivial rfl
    exact TE.leaf fun _ _ hf_ hs_ => ret_any (rs := []) (vs := []) (.inr rfl) rfl trivial hf_ hs_ ⟨(), rfl, hs_.pulls [0] rfl⟩

noncomputable def slices_symMergeCmpFunc_57869_at_impl_compareEnts (data : List Ent) (a : Int) (m : Int) (b : Int) : Option (List Ent) := slices_symMergeCmpFunc_57869_at_impl_compareEntsF 64 data a m b
theorem slices_symMergeCmpFunc_57869_at_impl_compareEnts_con (data : List Ent) (a : Int) (m : Int) (b : Int) (V_data0 : Value) (r : List Ent) (hm : slices_symMergeCmpFunc_57869_at_impl_compareEnts data a m b = some r) :
    Con Try.prog 102 [V_data0, .int .i64 a, .int .i64 m, .int .i64 b, .func (.func 72) #[] #[]] [.own V_data0 (lc data)] [] (fun _ : Unit => .tuple #[]) (fun _ => [.own V_data0 (lc r)]) := slices_symMergeCmpFunc_57869_at_impl_compareEntsF_con 64 data a m b V_data0 r hm

/-- slices.stableCmpFunc[loop.example/g00950/impl.Ent] -/
noncomputable def slices_stableCmpFunc_57869_at_impl_compareEnts (data : List Ent) (n : Int) : Option (List Ent) :=
  bindC (loopO (fun (S1 : Int × Int × List Ent) => if (decide (S1.2.1 ≤ n)) = true then ((slices_insertionSortCmpFunc_57869_at_impl_compareEnts S1.2.2 S1.1 S1.2.1).bind fun R6 =>
  some (.go (S1.2.1, IntKind.i64.wrap (S1.2.1 + (20 : Int)), R6)))
  else (some (.done (.go (S1.1, S1.2.2)))))
  ((0 : Int), (20 : Int), data))
  (fun (T3 : Int × List Ent) => (slices_insertionSortCmpFunc_57869_at_impl_compareEnts T3.2 T3.1 n).bind fun R9 =>
  bindC (loopO (fun (S12 : Int × List Ent) => if (decide (S12.1 < n)) = true then (bindC (loopO (fun (S17 : Int × Int × List Ent) => if (decide (S17.2.1 ≤ n)) = true then ((slices_symMergeCmpFunc_57869_at_impl_compareEnts S17.2.2 S17.1 (IntKind.i64.wrap (S17.1 + S12.1)) S17.2.1).bind fun R22 =>
  some (.go (S17.2.1, IntKind.i64.wrap (S17.2.1 + (IntKind.i64.wrap ((2 : Int) * S12.1))), R22)))
  else (some (.done (.go (S17.1, S17.2.2)))))
  ((0 : Int), IntKind.i64.wrap ((2 : Int) * S12.1), S12.2))
  (fun (T19 : Int × List Ent) => bindC (if (decide (IntKind.i64.wrap (T19.1 + S12.1) < n)) = true then ((slices_symMergeCmpFunc_57869_at_impl_compareEnts T19.2 T19.1 (IntKind.i64.wrap (T19.1 + S12.1)) n).bind fun R28 =>
  some (.go R28))
  else (some (.go T19.2)))
  (fun (T25 : List Ent) => some (.go (IntKind.i64.wrap (S12.1 * (2 : Int)), T25)))))
  else (some (.done (.go S12.2))))
  ((20 : Int), R9))
  (fun (T14 : List Ent) => some T14))

theorem slices_stableCmpFunc_57869_at_impl_compareEnts_con (data : List Ent) (n : Int) (V_data0 : Value) (r : List Ent) (hm : slices_stableCmpFunc_57869_at_impl_compareEnts data n = some r) :
    Con Try.prog 91 [V_data0, .int .i64 n, .func (.func 72) #[] #[]] [.own V_data0 (lc data)] [] (fun _ : Unit => .tuple #[]) (fun _ => [.own V_data0 (lc r)]) := by
  refine Con.intro (args := [V_data0, .int .i64 n, .func (.func 72) #[] #[]]) (n := 63) (val := fun _ (_ : Unit) => .tuple #[]) (post := fun r _ => [.own V_data0 (lc r)]) (m := slices_stableCmpFunc_57869_at_impl_compareEnts data n) Try.func91 rfl rfl rfl hm ?_
  intro w S _
  unfold slices_stableCmpFunc_57869_at_impl_compareEnts
  refine TW.seq ?_
  refine TW.region ?_
  refine TO.y (Y.assign rfl) rfl rfl rfl ?_
  refine TO.nil ?_
  refine TE.next ?_
  refine TW.seq ?_
  refine TW.region ?_
  refine TO.y (Y.move rfl) rfl rfl rfl ?_
  refine TO.y (Y.assign rfl) rfl rfl rfl ?_
  refine TO.y (Y.assign rfl) rfl rfl rfl ?_
  refine TO.nil ?_
  refine TE.next ?_
  refine TW.seq ?_
  refine TW.joinX (τ := Int × List Ent) (X := Unit) (fun T _ => [(0, V_data0), (1, .int .i64 n), (2, .func (.func 72) #[] #[]), (6, .int .i64 (20 : Int)), (7, .int .i64 T.1)]) (fun T _ => [.own V_data0 (lc T.2)]) ?_ (fun T3 X4 => ?_)
  ·refine TW.block ?_
   refine TW.loopX (σ := Int × Int × List Ent) (X := Unit) (fun T _ => [(0, V_data0), (1, .int .i64 n), (2, .func (.func 72) #[] #[]), (6, .int .i64 (20 : Int)), (7, .int .i64 T.1), (8, .int .i64 T.2.1)]) (fun T _ => [.own V_data0 (lc T.2.2)]) () [0] ⟨rfl, rfl, rfl, rfl, rfl, rfl, trivial⟩ rfl (fun S1 X2 => ?_)
   refine TW.seq ?_
   refine TW.seq ?_
   refine TW.region ?_
   refine TO.y (Y.move rfl) rfl rfl rfl ?_
   refine TO.y (Y.move rfl) rfl rfl rfl ?_
   refine TO.y (Y.leq rfl rfl) rfl rfl rfl ?_
   refine TO.nil ?_
   refine TE.next ?_
   refine TW.cond rfl (fun H5 => ?_) (fun H5 => ?_)
   ·refine TW.skip ?_
    refine TE.next ?_
    refine TW.block ?_
    refine TW.seq ?_
    refine TW.region ?_
    refine TO.y (Y.move rfl) rfl rfl rfl ?_
    refine TO.y (Y.move rfl) rfl rfl rfl ?_
    refine TO.y (Y.move rfl) rfl rfl rfl ?_
    refine TO.y (Y.move rfl) rfl rfl rfl ?_
    refine TO.bind fun R6 H7 => ?_
    refine TO.ef (Ef.call (rest := []) [0] (slices_insertionSortCmpFunc_57869_at_impl_compareEnts_con S1.2.2 S1.1 S1.2.1 V_data0 R6 H7) kc101 rfl rfl trivial) rfl rfl rfl (fun _ => ?_)
    refine TO.nil ?_
    refine TE.next ?_
    refine TW.seq ?_
    refine TW.region ?_
    refine TO.y (Y.move rfl) rfl rfl rfl ?_
    refine TO.y (Y.assign rfl) rfl rfl rfl ?_
    refine TO.nil ?_
    refine TE.next ?_
    refine TW.region ?_
    refine TO.y (Y.move rfl) rfl rfl rfl ?_
    refine TO.y (Y.move rfl) rfl rfl rfl ?_
    refine TO.y (Y.add rfl rfl) rfl rfl rfl ?_
    refine TO.y (Y.assign rfl) rfl rfl rfl ?_
    refine TO.nil ?_
    refine TE.block_normal ?_
    exact TE.lp_go () [0] ⟨rfl, rfl, rfl, rfl, rfl, rfl, trivial⟩ rfl
   refine TW.exit ?_
   refine TE.then_exit ?_
   refine TE.lp_exit ?_
   refine TE.block_exit ?_
   exact TE.jn_go () [0] ⟨rfl, rfl, rfl, rfl, rfl, trivial⟩ rfl
  refine TE.next ?_
  refine TW.seq ?_
  refine TW.region ?_
  refine TO.y (Y.move rfl) rfl rfl rfl ?_
  refine TO.y (Y.move rfl) rfl rfl rfl ?_
  refine TO.y (Y.move rfl) rfl rfl rfl ?_
  refine TO.y (Y.move rfl) rfl rfl rfl ?_
  refine TO.bind fun R9 H10 => ?_
  refine TO.ef (Ef.call (rest := []) [0] (slices_insertionSortCmpFunc_57869_at_impl_compareEnts_con T3.2 T3.1 n V_data0 R9 H10) kc101 rfl rfl trivial) rfl rfl rfl (fun _ => ?_)
  refine TO.nil ?_
  refine TE.next ?_
  refine TW.joinX (τ := List Ent) (X := Unit) (fun _ _ => []) (fun T _ => [.own V_data0 (lc T)]) ?_ (fun T14 X15 => ?_)
  ·refine TW.block ?_
   refine TW.loopX (σ := Int × List Ent) (X := Unit) (fun T _ => [(0, V_data0), (1, .int .i64 n), (2, .func (.func 72) #[] #[]), (6, .int .i64 T.1)]) (fun T _ => [.own V_data0 (lc T.2)]) () [0] ⟨rfl, rfl, rfl, rfl, trivial⟩ rfl (fun S12 X13 => ?_)
   refine TW.seq ?_
   refine TW.seq ?_
   refine TW.region ?_
   refine TO.y (Y.move rfl) rfl rfl rfl ?_
   refine TO.y (Y.move rfl) rfl rfl rfl ?_
   refine TO.y (Y.lss rfl rfl) rfl rfl rfl ?_
   refine TO.nil ?_
   refine TE.next ?_
   refine TW.cond rfl (fun H16 => ?_) (fun H16 => ?_)
   ·refine TW.skip ?_
    refine TE.next ?_
    refine TW.block ?_
    refine TW.seq ?_
    refine TW.region ?_
    refine TO.y (Y.move rfl) rfl rfl rfl ?_
    refine TO.y (Y.mul rfl rfl) rfl rfl rfl ?_
    refine TO.y (Y.assign rfl) rfl rfl rfl ?_
    refine TO.y (Y.assign rfl) rfl rfl rfl ?_
    refine TO.nil ?_
    refine TE.next ?_
    refine TW.seq ?_
    refine TW.joinX (τ := Int × List Ent) (X := Unit) (fun T _ => [(0, V_data0), (1, .int .i64 n), (2, .func (.func 72) #[] #[]), (6, .int .i64 S12.1), (7, .int .i64 T.1)]) (fun T _ => [.own V_data0 (lc T.2)]) ?_ (fun T19 X20 => ?_)
    ·refine TW.block ?_
     refine TW.loopX (σ := Int × Int × List Ent) (X := Unit) (fun T _ => [(0, V_data0), (1, .int .i64 n), (2, .func (.func 72) #[] #[]), (6, .int .i64 S12.1), (7, .int .i64 T.1), (8, .int .i64 T.2.1)]) (fun T _ => [.own V_data0 (lc T.2.2)]) () [0] ⟨rfl, rfl, rfl, rfl, rfl, rfl, trivial⟩ rfl (fun S17 X18 => ?_)
     refine TW.seq ?_
     refine TW.seq ?_
     refine TW.region ?_
     refine TO.y (Y.move rfl) rfl rfl rfl ?_
     refine TO.y (Y.move rfl) rfl rfl rfl ?_
     refine TO.y (Y.leq rfl rfl) rfl rfl rfl ?_
     refine TO.nil ?_
     refine TE.next ?_
     refine TW.cond rfl (fun H21 => ?_) (fun H21 => ?_)
     ·refine TW.skip ?_
      refine TE.next ?_
      refine TW.block ?_
      refine TW.seq ?_
      refine TW.region ?_
      refine TO.y (Y.move rfl) rfl rfl rfl ?_
      refine TO.y (Y.move rfl) rfl rfl rfl ?_
      refine TO.y (Y.move rfl) rfl rfl rfl ?_
      refine TO.y (Y.move rfl) rfl rfl rfl ?_
      refine TO.y (Y.add rfl rfl) rfl rfl rfl ?_
      refine TO.y (Y.move rfl) rfl rfl rfl ?_
      refine TO.y (Y.move rfl) rfl rfl rfl ?_
      refine TO.bind fun R22 H23 => ?_
      refine TO.ef (Ef.call (rest := []) [0] (slices_symMergeCmpFunc_57869_at_impl_compareEnts_con S17.2.2 S17.1 (IntKind.i64.wrap (S17.1 + S12.1)) S17.2.1 V_data0 R22 H23) kc102 rfl rfl trivial) rfl rfl rfl (fun _ => ?_)
      refine TO.nil ?_
      refine TE.next ?_
      refine TW.seq ?_
      refine TW.region ?_
      refine TO.y (Y.move rfl) rfl rfl rfl ?_
      refine TO.y (Y.assign rfl) rfl rfl rfl ?_
      refine TO.nil ?_
      refine TE.next ?_
      refine TW.region ?_
      refine TO.y (Y.move rfl) rfl rfl rfl ?_
      refine TO.y (Y.move rfl) rfl rfl rfl ?_
      refine TO.y (Y.mul rfl rfl) rfl rfl rfl ?_
      refine TO.y (Y.add rfl rfl) rfl rfl rfl ?_
      refine TO.y (Y.assign rfl) rfl rfl rfl ?_
      refine TO.nil ?_
      refine TE.block_normal ?_
      exact TE.lp_go () [0] ⟨rfl, rfl, rfl, rfl, rfl, rfl, trivial⟩ rfl
     refine TW.exit ?_
     refine TE.then_exit ?_
     refine TE.lp_exit ?_
     refine TE.block_exit ?_
     exact TE.jn_go () [0] ⟨rfl, rfl, rfl, rfl, rfl, trivial⟩ rfl
    refine TE.next ?_
    refine TW.seq ?_
    refine TW.seq ?_
    refine TW.region ?_
    refine TO.y (Y.move rfl) rfl rfl rfl ?_
    refine TO.y (Y.move rfl) rfl rfl rfl ?_
    refine TO.y (Y.add rfl rfl) rfl rfl rfl ?_
    refine TO.y (Y.assign rfl) rfl rfl rfl ?_
    refine TO.nil ?_
    refine TE.next ?_
    refine TW.seq ?_
    refine TW.region ?_
    refine TO.y (Y.move rfl) rfl rfl rfl ?_
    refine TO.y (Y.move rfl) rfl rfl rfl ?_
    refine TO.y (Y.lss rfl rfl) rfl rfl rfl ?_
    refine TO.nil ?_
    refine TE.next ?_
    refine TW.joinX (τ := List Ent) (X := Unit) (fun _ _ => [(0, V_data0), (1, .int .i64 n), (2, .func (.func 72) #[] #[]), (6, .int .i64 S12.1)]) (fun T _ => [.own V_data0 (lc T)]) ?_ (fun T25 X26 => ?_)
    ·refine TW.cond rfl (fun H27 => ?_) (fun H27 => ?_)
     ·refine TW.region ?_
      refine TO.y (Y.move rfl) rfl rfl rfl ?_
      refine TO.y (Y.move rfl) rfl rfl rfl ?_
      refine TO.y (Y.move rfl) rfl rfl rfl ?_
      refine TO.y (Y.move rfl) rfl rfl rfl ?_
      refine TO.y (Y.move rfl) rfl rfl rfl ?_
      refine TO.bind fun R28 H29 => ?_
      refine TO.ef (Ef.call (rest := []) [0] (slices_symMergeCmpFunc_57869_at_impl_compareEnts_con T19.2 T19.1 (IntKind.i64.wrap (T19.1 + S12.1)) n V_data0 R28 H29) kc102 rfl rfl trivial) rfl rfl rfl (fun _ => ?_)
      refine TO.nil ?_
      exact TE.jn_go () [0] ⟨rfl, rfl, rfl, rfl, trivial⟩ rfl
     refine TW.skip ?_
     exact TE.jn_go () [0] ⟨rfl, rfl, rfl, rfl, trivial⟩ rfl
    refine TE.next ?_
    refine TW.region ?_
    refine TO.y (Y.move rfl) rfl rfl rfl ?_
    refine TO.y (Y.mul rfl rfl) rfl rfl rfl ?_
    refine TO.y (Y.assign rfl) rfl rfl rfl ?_
    refine TO.nil ?_
    refine TE.block_normal ?_
    exact TE.lp_go () [0] ⟨rfl, rfl, rfl, rfl, trivial⟩ rfl
   refine TW.exit ?_
   refine TE.then_exit ?_
   refine TE.lp_exit ?_
   refine TE.block_exit ?_
   exact TE.jn_go () [0] trivial rfl
  exact TE.leaf fun _ _ hf_ hs_ => ret_any (rs := []) (vs := []) (.inr rfl) rfl trivial hf_ hs_ ⟨(), rfl, hs_.pulls [0] rfl⟩

/-- slices.SortStableFunc[[]loop.example/g00950/impl.Ent,loop.example/g00950/impl.Ent] -/
noncomputable def slices_SortStableFunc_94167_at_impl_compareEnts (x : List Ent) : Option (List Ent) :=
  (slices_stableCmpFunc_57869_at_impl_compareEnts x ((x.length : Nat) : Int)).bind fun R1 =>
  some R1

theorem slices_SortStableFunc_94167_at_impl_compareEnts_con (x : List Ent) (V_x0 : Value) (r : List Ent) (hm : slices_SortStableFunc_94167_at_impl_compareEnts x = some r) :
    Con Try.prog 71 [V_x0, .func (.func 72) #[] #[]] [.own V_x0 (lc x)] [] (fun _ : Unit => .tuple #[]) (fun _ => [.own V_x0 (lc r)]) := by
  refine Con.intro (args := [V_x0, .func (.func 72) #[] #[]]) (n := 9) (val := fun _ (_ : Unit) => .tuple #[]) (post := fun r _ => [.own V_x0 (lc r)]) (m := slices_SortStableFunc_94167_at_impl_compareEnts x) Try.func71 rfl rfl rfl hm ?_
  intro w S _
  unfold slices_SortStableFunc_94167_at_impl_compareEnts
  refine TW.region ?_
  refine TO.y (Y.move rfl) rfl rfl rfl ?_
  refine TO.y (Y.move rfl) rfl rfl rfl ?_
  refine TO.y (Y.len (l := x) ke28 (Can.own 0 rfl) rfl) rfl rfl rfl ?_
  refine TO.y (Y.move rfl) rfl rfl rfl ?_
  refine TO.bind fun R1 H2 => ?_
  refine TO.ef (Ef.call (rest := []) [0] (slices_stableCmpFunc_57869_at_impl_compareEnts_con x ((x.length : Nat) : Int) V_x0 R1 H2) kc91 rfl rfl trivial) rfl rfl rfl (fun _ => ?_)
  refine TO.nil ?_
  exact TE.leaf fun _ _ hf_ hs_ => ret_any (rs := []) (vs := []) (.inr rfl) rfl trivial hf_ hs_ ⟨(), rfl, hs_.pulls [0] rfl⟩

/-- loop.example/g00950/impl.merged$1 -/
noncomputable def impl_merged_1 (a : Ent) (b : Ent) : Option Bool :=
  (if (decide (a.Key = b.Key)) = true then (some (decide (a.Seq = b.Seq)))
  else (some false)).bind (fun (T3 : Bool) =>
  some T3)

theorem impl_merged_1_con (a : Ent) (b : Ent)  (r : Bool) (hm : impl_merged_1 a b = some r) :
    Con Try.prog 75 [.agg #[strV a.Key, .int .i64 a.Seq, .bool a.Del, strV a.Val], .agg #[strV b.Key, .int .i64 b.Seq, .bool b.Del, strV b.Val]] [] [] (fun _ : Unit => .bool r) (fun _ => []) := by
  refine Con.intro (args := [.agg #[strV a.Key, .int .i64 a.Seq, .bool a.Del, strV a.Val], .agg #[strV b.Key, .int .i64 b.Seq, .bool b.Del, strV b.Val]]) (n := 17) (val := fun r (_ : Unit) => .bool r) (post := fun _ _ => []) (m := impl_merged_1 a b) Try.func75 rfl rfl rfl hm ?_
  intro w S _
  unfold impl_merged_1
  refine TW.seq ?_
  refine TW.region ?_
  refine TO.ef (Ef.box rfl (Cel.plain rfl rfl)) rfl rfl rfl (fun B1 => ?_)
  refine TO.ef (Ef.box rfl (Cel.plain rfl rfl)) rfl rfl rfl (fun B2 => ?_)
  refine TO.y (Y.assign rfl) rfl rfl rfl ?_
  refine TO.nil ?_
  refine TE.next ?_
  refine TW.seq ?_
  refine TW.joinBX (τ := Bool) (X := Unit) (fun T _ => [(4, .bool T)]) (fun _ _ => []) ?_ (fun T3 X4 => ?_)
  ·refine TW.region ?_
   refine TO.y (Y.field_box kf51_0 rfl rfl) rfl rfl rfl ?_
   refine TO.y (Y.load_box (v := strV a.Key) 1 kk9 rfl rfl rfl) rfl rfl rfl ?_
   refine TO.y (Y.field_box kf51_0 rfl rfl) rfl rfl rfl ?_
   refine TO.y (Y.load_box (v := strV b.Key) 0 kk9 rfl rfl rfl) rfl rfl rfl ?_
   refine TO.y (Y.seql rfl rfl) rfl rfl rfl ?_
   refine TO.y (Y.move rfl) rfl rfl rfl ?_
   refine TO.ite (b := decide (a.Key = b.Key)) (fun H5 => ?_) (fun H5 => ?_)
   ·refine TO.y (Y.field_box kf51_1 rfl rfl) (Gd.at 5 true 10 (decide (a.Key = b.Key)) rfl rfl rfl (beq_tt H5)) rfl rfl ?_
    refine TO.y (Y.load_box (v := .int .i64 a.Seq) 1 kk3 rfl rfl rfl) (Gd.at 5 true 10 (decide (a.Key = b.Key)) rfl rfl rfl (beq_tt H5)) rfl rfl ?_
    refine TO.y (Y.field_box kf51_1 rfl rfl) (Gd.at 5 true 10 (decide (a.Key = b.Key)) rfl rfl rfl (beq_tt H5)) rfl rfl ?_
    refine TO.y (Y.load_box (v := .int .i64 b.Seq) 0 kk3 rfl rfl rfl) (Gd.at 5 true 10 (decide (a.Key = b.Key)) rfl rfl rfl (beq_tt H5)) rfl rfl ?_
    refine TO.y (Y.eql rfl rfl) (Gd.at 5 true 10 (decide (a.Key = b.Key)) rfl rfl rfl (beq_tt H5)) rfl rfl ?_
    refine TO.y (Y.pick_t H5 rfl rfl) rfl rfl rfl ?_
    refine TO.y (Y.assign rfl) rfl rfl rfl ?_
    refine TO.nil ?_
    exact TE.jb_go () [] ⟨rfl, trivial⟩ rfl
   refine TO.off (Gd.at 5 true 10 (decide (a.Key = b.Key)) rfl rfl rfl (beq_ft H5)) rfl rfl ?_
   refine TO.off (Gd.at 5 true 10 (decide (a.Key = b.Key)) rfl rfl rfl (beq_ft H5)) rfl rfl ?_
   refine TO.off (Gd.at 5 true 10 (decide (a.Key = b.Key)) rfl rfl rfl (beq_ft H5)) rfl rfl ?_
   refine TO.off (Gd.at 5 true 10 (decide (a.Key = b.Key)) rfl rfl rfl (beq_ft H5)) rfl rfl ?_
   refine TO.off (Gd.at 5 true 10 (decide (a.Key = b.Key)) rfl rfl rfl (beq_ft H5)) rfl rfl ?_
   refine TO.y (Y.pick_f H5 rfl rfl) rfl rfl rfl ?_
   refine TO.y (Y.assign rfl) rfl rfl rfl ?_
   refine TO.nil ?_
   exact TE.jb_go () [] ⟨rfl, trivial⟩ rfl
  refine TE.next ?_
  refine TW.ret ?_
  exact TE.leaf fun _ _ hf_ hs_ => ret_any (rs := [.tmp 4]) (vs := [.bool T3]) (.inl rfl) rfl ⟨rfl, trivial⟩ hf_ hs_ ⟨(), rfl, hs_.pulls [] rfl⟩

/-- slices.CompactFunc[[]loop.example/g00950/impl.Ent,loop.example/g00950/impl.Ent] -/
noncomputable def slices_CompactFunc_94167_at_impl_merged_1 (s : List Ent) : Option (List Ent) :=
  if (decide (((s.length : Nat) : Int) < (2 : Int))) = true then (some s)
  else (bindC (loopO (fun (S2 : Int) => if (decide (S2 < ((s.length : Nat) : Int))) = true then ((idx s S2).bind fun E7 =>
  (idx s (IntKind.i64.wrap (S2 - (1 : Int)))).bind fun E9 =>
  (impl_merged_1 E7 E9).bind fun R11 =>
  if R11 = true then ((piece s S2 ((s.length : Nat) : Int)).bind fun E15 =>
  bindC (loopO (fun (S17 : Int × Int × List Ent) => (piece S17.2.2 S2 ((s.length : Nat) : Int)).bind fun E21 =>
  if (decide (S17.2.1 < ((E21.length : Nat) : Int))) = true then ((idx E21 S17.2.1).bind fun E24 =>
  (idx E21 (IntKind.i64.wrap (S17.2.1 - (1 : Int)))).bind fun E26 =>
  (impl_merged_1 E24 E26).bind fun R28 =>
  bindC (if (!R28) = true then ((idx S17.2.2 S17.1).bind fun E34 =>
  some (.go (IntKind.i64.wrap (S17.1 + (1 : Int)), (S17.2.2.set S17.1.toNat E24))))
  else (some (.go (S17.1, S17.2.2))))
  (fun (T31 : Int × List Ent) => some (.go (T31.1, IntKind.i64.wrap (S17.2.1 + (1 : Int)), T31.2))))
  else (some (.done (.go (S17.1, S17.2.2)))))
  (S2, (1 : Int), s))
  (fun (T19 : Int × List Ent) => (piece T19.2 T19.1 ((T19.2.length : Nat) : Int)).bind fun E36 =>
  (piece T19.2 (0 : Int) T19.1).bind fun E38 =>
  some (.done (.done E38))))
  else (some (.go (IntKind.i64.wrap (S2 + (1 : Int))))))
  else (some (.done (.go ()))))
  (1 : Int))
  (fun (T4 : Unit) => some s))

theorem slices_CompactFunc_94167_at_impl_merged_1_con (s : List Ent) (V_s0 : Value) (r : List Ent) (hm : slices_CompactFunc_94167_at_impl_merged_1 s = some r) :
    Con Try.prog 74 [V_s0, .func (.func 75) #[] #[]] [.own V_s0 (lc s)] [] (fun X : Value => X) (fun X => [.own X (lc r)]) := by
  refine Con.intro (args := [V_s0, .func (.func 75) #[] #[]]) (n := 66) (val := fun _ (X : Value) => X) (post := fun r X => [.own X (lc r)]) (m := slices_CompactFunc_94167_at_impl_merged_1 s) Try.func74 rfl rfl rfl hm ?_
  intro w S _
  unfold slices_CompactFunc_94167_at_impl_merged_1
  refine TW.seq ?_
  refine TW.region ?_
  refine TO.y (Y.assign rfl) rfl rfl rfl ?_
  refine TO.nil ?_
  refine TE.next ?_
  refine TW.seq ?_
  refine TW.seq ?_
  refine TW.region ?_
  refine TO.y (Y.move rfl) rfl rfl rfl ?_
  refine TO.y (Y.len (l := s) ke28 (Can.own 0 rfl) rfl) rfl rfl rfl ?_
  refine TO.y (Y.lss rfl rfl) rfl rfl rfl ?_
  refine TO.nil ?_
  refine TE.next ?_
  refine TW.cond rfl (fun H1 => ?_) (fun H1 => ?_)
  ·refine TW.seq ?_
   refine TW.region ?_
   refine TO.y (Y.move rfl) rfl rfl rfl ?_
   refine TO.y (Y.assign rfl) rfl rfl rfl ?_
   refine TO.nil ?_
   refine TE.next ?_
   refine TW.ret ?_
   refine TE.then_ret ?_
   exact TE.leaf fun _ _ hf_ hs_ => ret_any (rs := [.tmp 4]) (vs := [V_s0]) (.inl rfl) rfl ⟨rfl, trivial⟩ hf_ hs_ ⟨V_s0, rfl, hs_.pulls [0] rfl⟩
  refine TW.skip ?_
  refine TE.next ?_
  refine TW.seq ?_
  refine TW.seq ?_
  refine TW.region ?_
  refine TO.y (Y.assign rfl) rfl rfl rfl ?_
  refine TO.nil ?_
  refine TE.next ?_
  refine TW.joinX (τ := Unit) (X := Unit) (fun _ _ => [(0, V_s0)]) (fun _ _ => [.own V_s0 (lc s)]) ?_ (fun T4 X5 => ?_)
  ·refine TW.block ?_
   refine TW.loopX (σ := Int) (X := Unit) (fun T _ => [(0, V_s0), (1, .func (.func 75) #[] #[]), (5, .int .i64 T)]) (fun _ _ => [.own V_s0 (lc s)]) () [0] ⟨rfl, rfl, rfl, trivial⟩ rfl (fun S2 X3 => ?_)
   refine TW.seq ?_
   refine TW.seq ?_
   refine TW.region ?_
   refine TO.y (Y.move rfl) rfl rfl rfl ?_
   refine TO.y (Y.move rfl) rfl rfl rfl ?_
   refine TO.y (Y.len (l := s) ke28 (Can.own 0 rfl) rfl) rfl rfl rfl ?_
   refine TO.y (Y.lss rfl rfl) rfl rfl rfl ?_
   refine TO.nil ?_
   refine TE.next ?_
   refine TW.cond rfl (fun H6 => ?_) (fun H6 => ?_)
   ·refine TW.skip ?_
    refine TE.next ?_
    refine TW.seq ?_
    refine TW.block ?_
    refine TW.seq ?_
    refine TW.draw (isH := [.own V_s0 (lc s)]) hMix ?_
    refine TA.y 0 [0] rfl (Y.move rfl) rfl rfl rfl (by kernel_rfl) rfl ?_
    refine TA.y 1 [0] rfl (Y.move rfl) rfl rfl rfl (by kernel_rfl) rfl ?_
    refine TA.y 2 [0] rfl (Y.move rfl) rfl rfl rfl (by kernel_rfl) rfl ?_
    refine TA.bind fun E7 H8 => ?_
    refine TA.y 3 [0] rfl (Y.index ke28 (Can.own 0 rfl) H8 rfl rfl) rfl rfl rfl (by kernel_rfl) rfl ?_
    refine TA.y 4 [0] rfl (Y.load_el (us := [strV E7.Key, .int .i64 E7.Seq, .bool E7.Del, strV E7.Val]) (u := .agg #[strV E7.Key, .int .i64 E7.Seq, .bool E7.Del, strV E7.Val]) kk51 rfl (Can.own 0 rfl) (idx_get H8).2.2 rfl rfl rfl rfl rfl) rfl rfl rfl (by kernel_rfl) rfl ?_
    refine TA.y 5 [0] rfl (Y.move rfl) rfl rfl rfl (by kernel_rfl) rfl ?_
    refine TA.y 6 [0] rfl (Y.move rfl) rfl rfl rfl (by kernel_rfl) rfl ?_
    refine TA.y 7 [0] rfl (Y.sub rfl rfl) rfl rfl rfl (by kernel_rfl) rfl ?_
    refine TA.bind fun E9 H10 => ?_
    refine TA.y 8 [0] rfl (Y.index ke28 (Can.own 0 rfl) H10 rfl rfl) rfl rfl rfl (by kernel_rfl) rfl ?_
    refine TA.y 9 [0] rfl (Y.load_el (us := [strV E9.Key, .int .i64 E9.Seq, .bool E9.Del, strV E9.Val]) (u := .agg #[strV E9.Key, .int .i64 E9.Seq, .bool E9.Del, strV E9.Val]) kk51 rfl (Can.own 0 rfl) (idx_get H10).2.2 rfl rfl rfl rfl rfl) rfl rfl rfl (by kernel_rfl) rfl ?_
    refine TA.bind fun R11 H12 => ?_
    refine TA.one 10 (by kernel_rfl) ?_
    refine TX.ef [0] rfl (Ef.callv (rest := [.own V_s0 (lc s)]) [0] (impl_merged_1_con E7 E9  R11 H12) kc75 rfl rfl rfl rfl trivial) rfl rfl rfl (fun _ => rfl) (fun _ => ?_)
    refine TA.nil (by kernel_rfl) ?_
    refine TE.next ?_
    refine TW.cond rfl (fun H14 => ?_) (fun H14 => ?_)
    ·refine TW.seq ?_
     refine TW.region ?_
     refine TO.y (Y.move rfl) rfl rfl rfl ?_
     refine TO.y (Y.move rfl) rfl rfl rfl ?_
     refine TO.bind fun E15 H16 => ?_
     refine TO.y (Y.subs H16 ke28 (Can.own 0 rfl) rfl ⟨_, rfl⟩ rfl) rfl rfl rfl ?_
     refine TO.y (Y.assign rfl) rfl rfl rfl ?_
     refine TO.nil ?_
     refine TE.next ?_
     refine TW.seq ?_
     refine TW.seq ?_
     refine TW.region ?_
     refine TO.y (Y.assign rfl) rfl rfl rfl ?_
     refine TO.nil ?_
     refine TE.next ?_
     refine TW.joinX (τ := Int × List Ent) (X := Unit) (fun T _ => [(0, V_s0), (5, .int .i64 T.1)]) (fun T _ => [.own V_s0 (lc T.2)]) ?_ (fun T19 X20 => ?_)
     ·refine TW.block ?_
      refine TW.loopX (σ := Int × Int × List Ent) (X := Unit) (fun T _ => [(0, V_s0), (1, .func (.func 75) #[] #[]), (5, .int .i64 T.1), (6, subV V_s0 4 S2.toNat (((s.length : Nat) : Int).toNat - S2.toNat)), (7, .int .i64 T.2.1)]) (fun T _ => [.own V_s0 (lc T.2.2)]) () [0] ⟨rfl, rfl, rfl, rfl, rfl, trivial⟩ rfl (fun S17 X18 => ?_)
      refine TW.seq ?_
      refine TW.seq ?_
      refine TW.region ?_
      refine TO.y (Y.move rfl) rfl rfl rfl ?_
      refine TO.y (Y.move rfl) rfl rfl rfl ?_
      refine TO.bind fun E21 H22 => ?_
      refine TO.y (Y.len (l := E21) ke28 (Can.sub H22 rfl (Can.own 0 rfl)) rfl) rfl rfl rfl ?_
      refine TO.y (Y.lss rfl rfl) rfl rfl rfl ?_
      refine TO.nil ?_
      refine TE.next ?_
      refine TW.cond rfl (fun H23 => ?_) (fun H23 => ?_)
      ·refine TW.skip ?_
       refine TE.next ?_
       refine TW.seq ?_
       refine TW.block ?_
       refine TW.seq ?_
       refine TW.draw (isH := [.own V_s0 (lc S17.2.2)]) hMix ?_
       refine TA.y 0 [0] rfl (Y.move rfl) rfl rfl rfl (by kernel_rfl) rfl ?_
       refine TA.y 1 [0] rfl (Y.move rfl) rfl rfl rfl (by kernel_rfl) rfl ?_
       refine TA.y 2 [0] rfl (Y.move rfl) rfl rfl rfl (by kernel_rfl) rfl ?_
       refine TA.bind fun E24 H25 => ?_
       refine TA.y 3 [0] rfl (Y.index ke28 (Can.sub H22 rfl (Can.own 0 rfl)) H25 rfl rfl) rfl rfl rfl (by kernel_rfl) rfl ?_
       refine TA.y 4 [0] rfl (Y.load_el (us := [strV E24.Key, .int .i64 E24.Seq, .bool E24.Del, strV E24.Val]) (u := .agg #[strV E24.Key, .int .i64 E24.Seq, .bool E24.Del, strV E24.Val]) kk51 rfl (Can.sub H22 rfl (Can.own 0 rfl)) (idx_get H25).2.2 rfl rfl rfl rfl rfl) rfl rfl rfl (by kernel_rfl) rfl ?_
       refine TA.y 5 [0] rfl (Y.move rfl) rfl rfl rfl (by kernel_rfl) rfl ?_
       refine TA.y 6 [0] rfl (Y.move rfl) rfl rfl rfl (by kernel_rfl) rfl ?_
       refine TA.y 7 [0] rfl (Y.sub rfl rfl) rfl rfl rfl (by kernel_rfl) rfl ?_
       refine TA.bind fun E26 H27 => ?_
       refine TA.y 8 [0] rfl (Y.index ke28 (Can.sub H22 rfl (Can.own 0 rfl)) H27 rfl rfl) rfl rfl rfl (by kernel_rfl) rfl ?_
       refine TA.y 9 [0] rfl (Y.load_el (us := [strV E26.Key, .int .i64 E26.Seq, .bool E26.Del, strV E26.Val]) (u := .agg #[strV E26.Key, .int .i64 E26.Seq, .bool E26.Del, strV E26.Val]) kk51 rfl (Can.sub H22 rfl (Can.own 0 rfl)) (idx_get H27).2.2 rfl rfl rfl rfl rfl) rfl rfl rfl (by kernel_rfl) rfl ?_
       refine TA.bind fun R28 H29 => ?_
       refine TA.one 10 (by kernel_rfl) ?_
       refine TX.ef [0] rfl (Ef.callv (rest := [.own V_s0 (lc S17.2.2)]) [0] (impl_merged_1_con E24 E26  R28 H29) kc75 rfl rfl rfl rfl trivial) rfl rfl rfl (fun _ => rfl) (fun _ => ?_)
       refine TA.y 11 [0] rfl (Y.not rfl) rfl rfl rfl (by kernel_rfl) rfl ?_
       refine TA.nil (by kernel_rfl) ?_
       refine TE.next ?_
       refine TW.joinX (τ := Int × List Ent) (X := Unit) (fun T _ => [(0, V_s0), (1, .func (.func 75) #[] #[]), (5, .int .i64 T.1), (6, subV V_s0 4 S2.toNat (((s.length : Nat) : Int).toNat - S2.toNat)), (7, .int .i64 S17.2.1)]) (fun T _ => [.own V_s0 (lc T.2)]) ?_ (fun T31 X32 => ?_)
       ·refine TW.cond rfl (fun H33 => ?_) (fun H33 => ?_)
        ·refine TW.seq ?_
         refine TW.region ?_
         refine TO.y (Y.move rfl) rfl rfl rfl ?_
         refine TO.y (Y.move rfl) rfl rfl rfl ?_
         refine TO.y (Y.move rfl) rfl rfl rfl ?_
         refine TO.y (Y.move rfl) rfl rfl rfl ?_
         refine TO.y (Y.index ke28 (Can.sub H22 rfl (Can.own 0 rfl)) H25 rfl rfl) rfl rfl rfl ?_
         refine TO.y (Y.load_el (us := [strV E24.Key, .int .i64 E24.Seq, .bool E24.Del, strV E24.Val]) (u := .agg #[strV E24.Key, .int .i64 E24.Seq, .bool E24.Del, strV E24.Val]) kk51 rfl (Can.sub H22 rfl (Can.own 0 rfl)) (idx_get H25).2.2 rfl rfl rfl rfl rfl) rfl rfl rfl ?_
         refine TO.bind fun E34 H35 => ?_
         refine TO.y (Y.index ke28 (Can.own 0 rfl) H35 rfl rfl) rfl rfl rfl ?_
         refine TO.ef0 (Ef.store_el (us := [strV E24.Key, .int .i64 E24.Seq, .bool E24.Del, strV E24.Val]) (is' := [.own V_s0 (lc (S17.2.2.set S17.1.toNat E24))]) E24 0 kk51 rfl rfl (idx_get H35).2.2 rfl rfl (Cel.plain rfl rfl) rfl rfl rfl rfl) rfl rfl (fun _ => ?_)
         refine TO.nil ?_
         refine TE.next ?_
         refine TW.region ?_
         refine TO.y (Y.move rfl) rfl rfl rfl ?_
         refine TO.y (Y.add rfl rfl) rfl rfl rfl ?_
         refine TO.y (Y.assign rfl) rfl rfl rfl ?_
         refine TO.nil ?_
         exact TE.jn_go () [0] ⟨rfl, rfl, rfl, rfl, rfl, trivial⟩ rfl
        refine TW.skip ?_
        exact TE.jn_go () [0] ⟨rfl, rfl, rfl, rfl, rfl, trivial⟩ rfl
       refine TE.block_normal ?_
       refine TE.next ?_
       refine TW.region ?_
       refine TO.y (Y.move rfl) rfl rfl rfl ?_
       refine TO.y (Y.add rfl rfl) rfl rfl rfl ?_
       refine TO.y (Y.assign rfl) rfl rfl rfl ?_
       refine TO.nil ?_
       exact TE.lp_go () [0] ⟨rfl, rfl, rfl, rfl, rfl, trivial⟩ rfl
      refine TW.exit ?_
      refine TE.then_exit ?_
      refine TE.lp_exit ?_
      refine TE.block_exit ?_
      exact TE.jn_go () [0] ⟨rfl, rfl, trivial⟩ rfl
     refine TE.next ?_
     refine TW.seq ?_
     refine TW.region ?_
     refine TO.y (Y.move rfl) rfl rfl rfl ?_
     refine TO.y (Y.move rfl) rfl rfl rfl ?_
     refine TO.bind fun E36 H37 => ?_
     refine TO.y (Y.subs H37 ke28 (Can.own 0 rfl) rfl ⟨_, rfl⟩ rfl) rfl rfl rfl ?_
     refine TO.bind fun E38 H39 => ?_
     refine TO.ef0 (Ef.clearView (i := 0) (is' := [.own (subV V_s0 4 (0 : Int).toNat (T19.1.toNat - (0 : Int).toNat)) (lc E38)]) H39 ke28 kz51 rfl rfl rfl rfl rfl rfl) rfl rfl (fun _ => ?_)
     refine TO.nil ?_
     refine TE.next ?_
     refine TW.seq ?_
     refine TW.region ?_
     refine TO.y (Y.move rfl) rfl rfl rfl ?_
     refine TO.y (Y.move rfl) rfl rfl rfl ?_
     refine TO.y (Y.sub_again (i := 0) rfl (piece_eq H39).2.1 ke28 rfl rfl) rfl rfl rfl ?_
     refine TO.y (Y.assign rfl) rfl rfl rfl ?_
     refine TO.nil ?_
     refine TE.next ?_
     refine TW.ret ?_
     refine TE.block_ret ?_
     refine TE.then_ret ?_
     refine TE.lp_ret ?_
     refine TE.block_ret ?_
     refine TE.jn_done ?_
     refine TE.then_ret ?_
     exact TE.leaf fun _ _ hf_ hs_ => ret_any (rs := [.tmp 4]) (vs := [subV V_s0 4 (0 : Int).toNat (T19.1.toNat - (0 : Int).toNat)]) (.inl rfl) rfl ⟨rfl, trivial⟩ hf_ hs_ ⟨(subV V_s0 4 (0 : Int).toNat (T19.1.toNat - (0 : Int).toNat)), rfl, hs_.pulls [0] rfl⟩
    refine TW.skip ?_
    refine TE.block_normal ?_
    refine TE.next ?_
    refine TW.region ?_
    refine TO.y (Y.move rfl) rfl rfl rfl ?_
    refine TO.y (Y.add rfl rfl) rfl rfl rfl ?_
    refine TO.y (Y.assign rfl) rfl rfl rfl ?_
    refine TO.nil ?_
    exact TE.lp_go () [0] ⟨rfl, rfl, rfl, trivial⟩ rfl
   refine TW.exit ?_
   refine TE.then_exit ?_
   refine TE.lp_exit ?_
   refine TE.block_exit ?_
   exact TE.jn_go () [0] ⟨rfl, trivial⟩ rfl
  refine TE.next ?_
  refine TW.seq ?_
  refine TW.region ?_
  refine TO.y (Y.move rfl) rfl rfl rfl ?_
  refine TO.y (Y.assign rfl) rfl rfl rfl ?_
  refine TO.nil ?_
  refine TE.next ?_
  refine TW.ret ?_
  exact TE.leaf fun _ _ hf_ hs_ => ret_any (rs := [.tmp 4]) (vs := [V_s0]) (.inl rfl) rfl ⟨rfl, trivial⟩ hf_ hs_ ⟨V_s0, rfl, hs_.pulls [0] rfl⟩

/-- loop.example/g00950/impl.merged -/
noncomputable def impl_merged (l : List (List Ent)) : Option (List Ent) :=
  (slices_Concat_94167 l).bind fun R1 =>
  (slices_SortStableFunc_94167_at_impl_compareEnts R1).bind fun R4 =>
  (slices_CompactFunc_94167_at_impl_merged_1 R4).bind fun R7 =>
  (slices_Clip_94167 R7).bind fun R10 =>
  some R10

theorem impl_merged_con (l : List (List Ent)) (V_l0 : Value) (r : List Ent) (hm : impl_merged l = some r) :
    Con Try.prog 49 [V_l0] [] [(V_l0, lc l)] (fun X : Value => X) (fun X => [.own X (lc r)]) := by
  refine Con.intro (args := [V_l0]) (n := 11) (val := fun _ (X : Value) => X) (post := fun r X => [.own X (lc r)]) (m := impl_merged l) Try.func49 rfl rfl rfl hm ?_
  intro w S hrd
  have HB_V_l0 := hrd _ (.head _)
  clear hrd
  unfold impl_merged
  refine TW.seq ?_
  refine TW.region ?_
  refine TO.y (Y.assign rfl) rfl rfl rfl ?_
  refine TO.nil ?_
  refine TE.next ?_
  refine TW.seq ?_
  refine TW.region ?_
  refine TO.y (Y.move rfl) rfl rfl rfl ?_
  refine TO.bind fun R1 H2 => ?_
  refine TO.ef (Ef.call (rest := []) [] (slices_Concat_94167_con l V_l0 R1 H2) kc70 rfl rfl ⟨(Base.can HB_V_l0), trivial⟩) rfl rfl rfl (fun Y3 => ?_)
  refine TO.y (Y.assign rfl) rfl rfl rfl ?_
  refine TO.nil ?_
  refine TE.next ?_
  refine TW.seq ?_
  refine TW.region ?_
  refine TO.y (Y.move rfl) rfl rfl rfl ?_
  refine TO.bind fun R4 H5 => ?_
  refine TO.ef (Ef.call (rest := []) [0] (slices_SortStableFunc_94167_at_impl_compareEnts_con R1 Y3 R4 H5) kc71 rfl rfl trivial) rfl rfl rfl (fun _ => ?_)
  refine TO.nil ?_
  refine TE.next ?_
  refine TW.seq ?_
  refine TW.region ?_
  refine TO.y (Y.move rfl) rfl rfl rfl ?_
  refine TO.bind fun R7 H8 => ?_
  refine TO.ef (Ef.call (rest := []) [0] (slices_CompactFunc_94167_at_impl_merged_1_con R4 Y3 R7 H8) kc74 rfl rfl trivial) rfl rfl rfl (fun Y9 => ?_)
  refine TO.bind fun R10 H11 => ?_
  refine TO.ef (Ef.call (rest := []) [0] (slices_Clip_94167_con R7 Y9 R10 H11) kc73 rfl rfl trivial) rfl rfl rfl (fun Y12 => ?_)
  refine TO.y (Y.assign rfl) rfl rfl rfl ?_
  refine TO.nil ?_
  refine TE.next ?_
  refine TW.ret ?_
  exact TE.leaf fun _ _ hf_ hs_ => ret_any (rs := [.tmp 2]) (vs := [Y12]) (.inl rfl) rfl ⟨rfl, trivial⟩ hf_ hs_ ⟨Y12, rfl, hs_.pulls [0] rfl⟩

end Go.Proofs.Ytjodikomidlhjaa
