/-
  The functions that a law reaches, each as a pure function, with the proof that the program computes it, and the step from a pure law to the given statement. Conditions: none.
-/
import Derived.Test.YtjodikomidlhjaaT1
set_option linter.unusedVariables false
set_option maxRecDepth 100000
set_option maxHeartbeats 4000000
namespace Go.Proofs.Ytjodikomidlhjaa
open Go Sl

/-- loop.example/g00950/spec.MergeEnts -/
noncomputable def spec_MergeEnts (l : List (List Ent)) : Option (List Ent) :=
  bindC (loopO (fun (S2 : Int × List Ent) => if (decide (S2.1 < ((l.length : Nat) : Int))) = true then (((idx l S2.1).bind fun E9 =>
  (spec_l9Ents E9).bind fun R12 =>
  if (!R12) = true then (some true)
  else (if (decide (((E9.length : Nat) : Int) > (400 : Int))) = true then (some true)
  else (some (decide (((S2.2.length : Nat) : Int) > (400 : Int)))))).bind (fun (T7 : Bool) =>
  if T7 = true then (some (.done (.done ([] : List Ent))))
  else ((idx l S2.1).bind fun E21 =>
  (app 48 ([] : List Ent) E21).bind fun E25 =>
  bindC (loopO (fun (S28 : Int × Int × List Ent) => if (decide (S28.2.1 < ((S2.2.length : Nat) : Int))) = true then (bindC (loopO (fun (S33 : Int × List Ent) => (if (decide (S33.1 < ((E25.length : Nat) : Int))) = true then ((idx E25 S33.1).bind fun E40 =>
  (idx S2.2 S28.2.1).bind fun E42 =>
  (spec_l9Ahead E40 E42).bind fun R44 =>
  some R44)
  else (some false)).bind (fun (T37 : Bool) =>
  if T37 = true then ((idx E25 S33.1).bind fun E48 =>
  (app 48 S33.2 ([E48])).bind fun E52 =>
  some (.go (IntKind.i64.wrap (S33.1 + (1 : Int)), E52)))
  else (some (.done (.go (S33.1, S33.2))))))
  (S28.1, S28.2.2))
  (fun (T35 : Int × List Ent) => (if (decide (T35.1 < ((E25.length : Nat) : Int))) = true then ((idx S2.2 S28.2.1).bind fun E57 =>
  (idx E25 T35.1).bind fun E59 =>
  (spec_l9Ahead E57 E59).bind fun R61 =>
  some (!R61))
  else (some false)).bind (fun (T54 : Bool) =>
  bindC (if T54 = true then (some (.go (IntKind.i64.wrap (T35.1 + (1 : Int)))))
  else (some (.go T35.1)))
  (fun (T64 : Int) => (idx S2.2 S28.2.1).bind fun E67 =>
  (app 48 T35.2 ([E67])).bind fun E71 =>
  some (.go (T64, IntKind.i64.wrap (S28.2.1 + (1 : Int)), E71))))))
  else (some (.done (.go (S28.1, S28.2.2)))))
  ((0 : Int), (0 : Int), ([] : List Ent)))
  (fun (T30 : Int × List Ent) => (piece E25 T30.1 ((E25.length : Nat) : Int)).bind fun E73 =>
  (app 48 T30.2 E73).bind fun E76 =>
  some (.go (IntKind.i64.wrap (S2.1 + (1 : Int)), E76))))))
  else (some (.done (.go S2.2))))
  ((0 : Int), ([] : List Ent)))
  (fun (T4 : List Ent) => bindC (loopO (fun (S78 : Int × Int) => if (decide (S78.2 < ((l.length : Nat) : Int))) = true then ((idx l S78.2).bind fun E83 =>
  some (.go (IntKind.i64.wrap (S78.1 + ((E83.length : Nat) : Int)), IntKind.i64.wrap (S78.2 + (1 : Int)))))
  else (some (.done (.go S78.1))))
  ((0 : Int), (0 : Int)))
  (fun (T80 : Int) => if (decide (T80 > (400 : Int))) = true then (some ([] : List Ent))
  else (some T4)))

theorem spec_MergeEnts_con (l : List (List Ent)) (V_l0 : Value) (r : List Ent) (hm : spec_MergeEnts l = some r) :
    Con Try.prog 17 [V_l0] [] [(V_l0, lc l)] (fun X : Value => X) (fun X => [.own X (lc r)]) := by
  refine Con.intro (args := [V_l0]) (n := 122) (val := fun _ (X : Value) => X) (post := fun r X => [.own X (lc r)]) (m := spec_MergeEnts l) Try.func17 rfl rfl rfl hm ?_
  intro w S hrd
  have HB_V_l0 := hrd _ (.head _)
  clear hrd
  unfold spec_MergeEnts
  refine TW.seq ?_
  refine TW.region ?_
  refine TO.y (Y.assign rfl) rfl rfl rfl ?_
  refine TO.nil ?_
  refine TE.next ?_
  refine TW.seq ?_
  refine TW.region ?_
  refine TO.ef (Ef.buildSlice (α := Ent) (Vs := []) ([] : List Ent) ke28 kz51 rfl rfl rfl rfl rfl) rfl rfl rfl (fun B1 => ?_)
  refine TO.y (Y.assign rfl) rfl rfl rfl ?_
  refine TO.nil ?_
  refine TE.next ?_
  refine TW.seq ?_
  refine TW.seq ?_
  refine TW.region ?_
  refine TO.y (Y.assign rfl) rfl rfl rfl ?_
  refine TO.nil ?_
  refine TE.next ?_
  refine TW.joinX (τ := List Ent) (X := Value) (fun _ X => [(0, V_l0), (3, X)]) (fun T X => [.own X (lc T)]) ?_ (fun T4 X5 => ?_)
  ·refine TW.block ?_
   refine TW.loopX (σ := Int × List Ent) (X := Value) (fun T X => [(0, V_l0), (3, X), (4, .int .i64 T.1)]) (fun T X => [.own X (lc T.2)]) (.slice (some ⟨B1, 0, none⟩) 0 0) [0] ⟨rfl, rfl, rfl, trivial⟩ rfl (fun S2 X3 => ?_)
   refine TW.seq ?_
   refine TW.seq ?_
   refine TW.region ?_
   refine TO.y (Y.move rfl) rfl rfl rfl ?_
   refine TO.y (Y.move rfl) rfl rfl rfl ?_
   refine TO.y (Y.len (l := l) ke29 (Base.can HB_V_l0) rfl) rfl rfl rfl ?_
   refine TO.y (Y.lss rfl rfl) rfl rfl rfl ?_
   refine TO.nil ?_
   refine TE.next ?_
   refine TW.cond rfl (fun H6 => ?_) (fun H6 => ?_)
   ·refine TW.skip ?_
    refine TE.next ?_
    refine TW.seq ?_
    refine TW.block ?_
    refine TW.seq ?_
    refine TW.seq ?_
    refine TW.joinBX (τ := Bool) (X := Unit) (fun T _ => [(0, V_l0), (3, X3), (4, .int .i64 S2.1), (36, .bool T)]) (fun _ _ => [.own X3 (lc S2.2)]) ?_ (fun T7 X8 => ?_)
    ·refine TW.region ?_
     refine TO.y (Y.move rfl) rfl rfl rfl ?_
     refine TO.y (Y.move rfl) rfl rfl rfl ?_
     refine TO.bind fun E9 H10 => ?_
     refine TO.y (Y.index ke29 (Base.can HB_V_l0) H10 rfl rfl) rfl rfl rfl ?_
     have Q11 : Base w S (elv w V_l0 (S2.1.toNat * 1 + 0)) (lc E9) := Base.el HB_V_l0 (idx_get H10).2.2 rfl rfl
     refine TO.y (Y.load_base (α := List Ent) (u := (elv w V_l0 (S2.1.toNat * 1 + 0))) kk28 rfl HB_V_l0 (idx_get H10).2.2 rfl rfl rfl rfl rfl) rfl rfl rfl ?_
     refine TO.bind fun R12 H13 => ?_
     refine TO.ef (Ef.call (rest := [.own X3 (lc S2.2)]) [0] (spec_l9Ents_con E9 (elv w V_l0 (S2.1.toNat * 1 + 0)) R12 H13) kc45 rfl rfl ⟨(Base.can Q11), trivial⟩) rfl rfl rfl (fun _ => ?_)
     refine TO.y (Y.not rfl) rfl rfl rfl ?_
     refine TO.y (Y.move rfl) rfl rfl rfl ?_
     refine TO.ite (b := !R12) (fun H15 => ?_) (fun H15 => ?_)
     ·refine TO.off (Gd.at 6 false 24 (!R12) rfl rfl rfl (beq_tf H15)) rfl rfl ?_
      refine TO.off (Gd.at 6 false 24 (!R12) rfl rfl rfl (beq_tf H15)) rfl rfl ?_
      refine TO.off (Gd.at 6 false 24 (!R12) rfl rfl rfl (beq_tf H15)) rfl rfl ?_
      refine TO.off (Gd.at 6 false 24 (!R12) rfl rfl rfl (beq_tf H15)) rfl rfl ?_
      refine TO.off (Gd.at 6 false 24 (!R12) rfl rfl rfl (beq_tf H15)) rfl rfl ?_
      refine TO.off (Gd.at 6 false 24 (!R12) rfl rfl rfl (beq_tf H15)) rfl rfl ?_
      refine TO.y (Y.pick_t H15 rfl rfl) rfl rfl rfl ?_
      refine TO.y (Y.move rfl) rfl rfl rfl ?_
      refine TO.off (Gd.at 14 false 32 true rfl rfl rfl rfl) rfl rfl ?_
      refine TO.off (Gd.at 14 false 32 true rfl rfl rfl rfl) rfl rfl ?_
      refine TO.off (Gd.at 14 false 32 true rfl rfl rfl rfl) rfl rfl ?_
      refine TO.y (Y.pick_t rfl rfl rfl) rfl rfl rfl ?_
      refine TO.nil ?_
      exact TE.jb_go () [0] ⟨rfl, rfl, rfl, rfl, trivial⟩ rfl
     refine TO.y (Y.move rfl) (Gd.at 6 false 24 (!R12) rfl rfl rfl (beq_ff H15)) rfl rfl ?_
     refine TO.y (Y.move rfl) (Gd.at 6 false 24 (!R12) rfl rfl rfl (beq_ff H15)) rfl rfl ?_
     refine TO.y (Y.index ke29 (Base.can HB_V_l0) H10 rfl rfl) (Gd.at 6 false 24 (!R12) rfl rfl rfl (beq_ff H15)) rfl rfl ?_
     have Q16 : Base w S (elv w V_l0 (S2.1.toNat * 1 + 0)) (lc E9) := Base.el HB_V_l0 (idx_get H10).2.2 rfl rfl
     refine TO.y (Y.load_base (α := List Ent) (u := (elv w V_l0 (S2.1.toNat * 1 + 0))) kk28 rfl HB_V_l0 (idx_get H10).2.2 rfl rfl rfl rfl rfl) (Gd.at 6 false 24 (!R12) rfl rfl rfl (beq_ff H15)) rfl rfl ?_
     refine TO.y (Y.len (l := E9) ke28 (Base.can Q16) rfl) (Gd.at 6 false 24 (!R12) rfl rfl rfl (beq_ff H15)) rfl rfl ?_
     refine TO.y (Y.gtr rfl rfl) (Gd.at 6 false 24 (!R12) rfl rfl rfl (beq_ff H15)) rfl rfl ?_
     refine TO.y (Y.pick_f H15 rfl rfl) rfl rfl rfl ?_
     refine TO.y (Y.move rfl) rfl rfl rfl ?_
     refine TO.ite (b := decide (((E9.length : Nat) : Int) > (400 : Int))) (fun H17 => ?_) (fun H17 => ?_)
     ·refine TO.off (Gd.at 14 false 32 (decide (((E9.length : Nat) : Int) > (400 : Int))) rfl rfl rfl (beq_tf H17)) rfl rfl ?_
      refine TO.off (Gd.at 14 false 32 (decide (((E9.length : Nat) : Int) > (400 : Int))) rfl rfl rfl (beq_tf H17)) rfl rfl ?_
      refine TO.off (Gd.at 14 false 32 (decide (((E9.length : Nat) : Int) > (400 : Int))) rfl rfl rfl (beq_tf H17)) rfl rfl ?_
      refine TO.y (Y.pick_t H17 rfl rfl) rfl rfl rfl ?_
      refine TO.nil ?_
      exact TE.jb_go () [0] ⟨rfl, rfl, rfl, rfl, trivial⟩ rfl
     refine TO.y (Y.move rfl) (Gd.at 14 false 32 (decide (((E9.length : Nat) : Int) > (400 : Int))) rfl rfl rfl (beq_ff H17)) rfl rfl ?_
     refine TO.y (Y.len (l := S2.2) ke28 (Can.own 0 rfl) rfl) (Gd.at 14 false 32 (decide (((E9.length : Nat) : Int) > (400 : Int))) rfl rfl rfl (beq_ff H17)) rfl rfl ?_
     refine TO.y (Y.gtr rfl rfl) (Gd.at 14 false 32 (decide (((E9.length : Nat) : Int) > (400 : Int))) rfl rfl rfl (beq_ff H17)) rfl rfl ?_
     refine TO.y (Y.pick_f H17 rfl rfl) rfl rfl rfl ?_
     refine TO.nil ?_
     exact TE.jb_go () [0] ⟨rfl, rfl, rfl, rfl, trivial⟩ rfl
    refine TE.next ?_
    refine TW.cond rfl (fun H18 => ?_) (fun H18 => ?_)
    ·refine TW.seq ?_
     refine TW.region ?_
     refine TO.ef (Ef.buildSlice (α := Ent) (Vs := []) ([] : List Ent) ke28 kz51 rfl rfl rfl rfl rfl) rfl rfl rfl (fun B19 => ?_)
     refine TO.y (Y.assign rfl) rfl rfl rfl ?_
     refine TO.nil ?_
     refine TE.next ?_
     refine TW.ret ?_
     refine TE.then_ret ?_
     refine TE.block_ret ?_
     refine TE.then_ret ?_
     refine TE.lp_ret ?_
     refine TE.block_ret ?_
     refine TE.jn_done ?_
     refine TE.then_ret ?_
     exact TE.leaf fun _ _ hf_ hs_ => ret_any (rs := [.tmp 2]) (vs := [.slice (some ⟨B19, 0, none⟩) 0 0]) (.inl rfl) rfl ⟨rfl, trivial⟩ hf_ hs_ ⟨(.slice (some ⟨B19, 0, none⟩) 0 0), rfl, hs_.pulls [0] rfl⟩
    refine TW.skip ?_
    refine TE.next ?_
    refine TW.seq ?_
    refine TW.region ?_
    refine TO.ef (Ef.buildSlice (α := Ent) (Vs := []) ([] : List Ent) ke28 kz51 rfl rfl rfl rfl rfl) rfl rfl rfl (fun B20 => ?_)
    refine TO.y (Y.move rfl) rfl rfl rfl ?_
    refine TO.y (Y.move rfl) rfl rfl rfl ?_
    refine TO.bind fun E21 H22 => ?_
    refine TO.y (Y.index ke29 (Base.can HB_V_l0) H22 rfl rfl) rfl rfl rfl ?_
    have Q23 : Base w S (elv w V_l0 (S2.1.toNat * 1 + 0)) (lc E21) := Base.el HB_V_l0 (idx_get H22).2.2 rfl rfl
    refine TO.y (Y.load_base (α := List Ent) (u := (elv w V_l0 (S2.1.toNat * 1 + 0))) kk28 rfl HB_V_l0 (idx_get H22).2.2 rfl rfl rfl rfl rfl) rfl rfl rfl ?_
    refine TO.bind fun E25 H26 => ?_
    refine TO.ef (Ef.append (α := Ent) (is' := [.own X3 (lc S2.2)]) [0, 0] H26 ke28 kz51 rfl rfl rfl rfl rfl (Base.can Q23)) rfl rfl rfl (fun V24 => ?_)
    refine TO.y (Y.assign rfl) rfl rfl rfl ?_
    refine TO.nil ?_
    refine TE.next ?_
    refine TW.seq ?_
    refine TW.region ?_
    refine TO.ef (Ef.buildSlice (α := Ent) (Vs := []) ([] : List Ent) ke28 kz51 rfl rfl rfl rfl rfl) rfl rfl rfl (fun B27 => ?_)
    refine TO.y (Y.assign rfl) rfl rfl rfl ?_
    refine TO.nil ?_
    refine TE.next ?_
    refine TW.seq ?_
    refine TW.region ?_
    refine TO.y (Y.assign rfl) rfl rfl rfl ?_
    refine TO.nil ?_
    refine TE.next ?_
    refine TW.seq ?_
    refine TW.seq ?_
    refine TW.region ?_
    refine TO.y (Y.assign rfl) rfl rfl rfl ?_
    refine TO.nil ?_
    refine TE.next ?_
    refine TW.joinX (τ := Int × List Ent) (X := Value) (fun T X => [(0, V_l0), (4, .int .i64 S2.1), (5, V24), (6, X), (7, .int .i64 T.1)]) (fun T X => [.own V24 (lc E25), .own X (lc T.2)]) ?_ (fun T30 X31 => ?_)
    ·refine TW.block ?_
     refine TW.loopX (σ := Int × Int × List Ent) (X := Value) (fun T X => [(0, V_l0), (3, X3), (4, .int .i64 S2.1), (5, V24), (6, X), (7, .int .i64 T.1), (8, .int .i64 T.2.1)]) (fun T X => [.own X3 (lc S2.2), .own V24 (lc E25), .own X (lc T.2.2)]) (.slice (some ⟨B27, 0, none⟩) 0 0) [2, 1, 0] ⟨rfl, rfl, rfl, rfl, rfl, rfl, rfl, trivial⟩ rfl (fun S28 X29 => ?_)
     refine TW.seq ?_
     refine TW.seq ?_
     refine TW.region ?_
     refine TO.y (Y.move rfl) rfl rfl rfl ?_
     refine TO.y (Y.move rfl) rfl rfl rfl ?_
     refine TO.y (Y.len (l := S2.2) ke28 (Can.own 0 rfl) rfl) rfl rfl rfl ?_
     refine TO.y (Y.lss rfl rfl) rfl rfl rfl ?_
     refine TO.nil ?_
     refine TE.next ?_
     refine TW.cond rfl (fun H32 => ?_) (fun H32 => ?_)
     ·refine TW.skip ?_
      refine TE.next ?_
      refine TW.seq ?_
      refine TW.block ?_
      refine TW.seq ?_
      refine TW.joinX (τ := Int × List Ent) (X := Value) (fun T X => [(0, V_l0), (3, X3), (4, .int .i64 S2.1), (5, V24), (6, X), (7, .int .i64 T.1), (8, .int .i64 S28.2.1)]) (fun T X => [.own X3 (lc S2.2), .own V24 (lc E25), .own X (lc T.2)]) ?_ (fun T35 X36 => ?_)
      ·refine TW.block ?_
       refine TW.loopX (σ := Int × List Ent) (X := Value) (fun T X => [(0, V_l0), (3, X3), (4, .int .i64 S2.1), (5, V24), (6, X), (7, .int .i64 T.1), (8, .int .i64 S28.2.1)]) (fun T X => [.own X3 (lc S2.2), .own V24 (lc E25), .own X (lc T.2)]) X29 [0, 0, 0] ⟨rfl, rfl, rfl, rfl, rfl, rfl, rfl, trivial⟩ rfl (fun S33 X34 => ?_)
       refine TW.seq ?_
       refine TW.seq ?_
       refine TW.joinBX (τ := Bool) (X := Unit) (fun T _ => [(0, V_l0), (3, X3), (4, .int .i64 S2.1), (5, V24), (6, X34), (7, .int .i64 S33.1), (8, .int .i64 S28.2.1), (65, .bool T)]) (fun _ _ => [.own X3 (lc S2.2), .own V24 (lc E25), .own X34 (lc S33.2)]) ?_ (fun T37 X38 => ?_)
       ·refine TW.draw (isH := [.own X3 (lc S2.2), .own V24 (lc E25), .own X34 (lc S33.2)]) hMix ?_
        refine TA.y 0 [0, 0, 0] rfl (Y.move rfl) rfl rfl rfl (by kernel_rfl) rfl ?_
        refine TA.y 1 [0, 0, 0] rfl (Y.move rfl) rfl rfl rfl (by kernel_rfl) rfl ?_
        refine TA.y 2 [0, 0, 0] rfl (Y.len (l := E25) ke28 (Can.own 1 rfl) rfl) rfl rfl rfl (by kernel_rfl) rfl ?_
        refine TA.y 3 [0, 0, 0] rfl (Y.lss rfl rfl) rfl rfl rfl (by kernel_rfl) rfl ?_
        refine TA.y 4 [0, 0, 0] rfl (Y.move rfl) rfl rfl rfl (by kernel_rfl) rfl ?_
        refine TA.ite (b := decide (S33.1 < ((E25.length : Nat) : Int))) (fun H39 => ?_) (fun H39 => ?_)
        ·refine TA.y 5 [0, 0, 0] rfl (Y.move rfl) (Gd.at 4 true 55 (decide (S33.1 < ((E25.length : Nat) : Int))) rfl rfl rfl (beq_tt H39)) rfl rfl (by kernel_rfl) rfl ?_
         refine TA.y 6 [0, 0, 0] rfl (Y.move rfl) (Gd.at 4 true 55 (decide (S33.1 < ((E25.length : Nat) : Int))) rfl rfl rfl (beq_tt H39)) rfl rfl (by kernel_rfl) rfl ?_
         refine TA.bind fun E40 H41 => ?_
         refine TA.y 7 [0, 0, 0] rfl (Y.index ke28 (Can.own 1 rfl) H41 rfl rfl) (Gd.at 4 true 55 (decide (S33.1 < ((E25.length : Nat) : Int))) rfl rfl rfl (beq_tt H39)) rfl rfl (by kernel_rfl) rfl ?_
         refine TA.y 8 [0, 0, 0] rfl (Y.load_el (us := [strV E40.Key, .int .i64 E40.Seq, .bool E40.Del, strV E40.Val]) (u := .agg #[strV E40.Key, .int .i64 E40.Seq, .bool E40.Del, strV E40.Val]) kk51 rfl (Can.own 1 rfl) (idx_get H41).2.2 rfl rfl rfl rfl rfl) (Gd.at 4 true 55 (decide (S33.1 < ((E25.length : Nat) : Int))) rfl rfl rfl (beq_tt H39)) rfl rfl (by kernel_rfl) rfl ?_
         refine TA.y 9 [0, 0, 0] rfl (Y.move rfl) (Gd.at 4 true 55 (decide (S33.1 < ((E25.length : Nat) : Int))) rfl rfl rfl (beq_tt H39)) rfl rfl (by kernel_rfl) rfl ?_
         refine TA.y 10 [0, 0, 0] rfl (Y.move rfl) (Gd.at 4 true 55 (decide (S33.1 < ((E25.length : Nat) : Int))) rfl rfl rfl (beq_tt H39)) rfl rfl (by kernel_rfl) rfl ?_
         refine TA.bind fun E42 H43 => ?_
         refine TA.y 11 [0, 0, 0] rfl (Y.index ke28 (Can.own 0 rfl) H43 rfl rfl) (Gd.at 4 true 55 (decide (S33.1 < ((E25.length : Nat) : Int))) rfl rfl rfl (beq_tt H39)) rfl rfl (by kernel_rfl) rfl ?_
         refine TA.y 12 [0, 0, 0] rfl (Y.load_el (us := [strV E42.Key, .int .i64 E42.Seq, .bool E42.Del, strV E42.Val]) (u := .agg #[strV E42.Key, .int .i64 E42.Seq, .bool E42.Del, strV E42.Val]) kk51 rfl (Can.own 0 rfl) (idx_get H43).2.2 rfl rfl rfl rfl rfl) (Gd.at 4 true 55 (decide (S33.1 < ((E25.length : Nat) : Int))) rfl rfl rfl (beq_tt H39)) rfl rfl (by kernel_rfl) rfl ?_
         refine TA.bind fun R44 H45 => ?_
         refine TA.one 13 (by kernel_rfl) ?_
         refine TX.ef [0, 0, 0] rfl (Ef.call (rest := [.own X3 (lc S2.2), .own V24 (lc E25), .own X34 (lc S33.2)]) [0, 0, 0] (spec_l9Ahead_con E40 E42  R44 H45) kc46 rfl rfl trivial) (Gd.at 4 true 55 (decide (S33.1 < ((E25.length : Nat) : Int))) rfl rfl rfl (beq_tt H39)) rfl rfl (fun _ => rfl) (fun _ => ?_)
         refine TA.y 14 [0, 0, 0] rfl (Y.pick_t H39 rfl rfl) rfl rfl rfl (by kernel_rfl) rfl ?_
         refine TA.nil (by kernel_rfl) ?_
         exact TE.jb_go () [0, 0, 0] ⟨rfl, rfl, rfl, rfl, rfl, rfl, rfl, rfl, trivial⟩ rfl
        refine TA.off 5 [0, 0, 0] rfl (Gd.at 4 true 55 (decide (S33.1 < ((E25.length : Nat) : Int))) rfl rfl rfl (beq_ft H39)) rfl rfl (by kernel_rfl) rfl ?_
        refine TA.off 6 [0, 0, 0] rfl (Gd.at 4 true 55 (decide (S33.1 < ((E25.length : Nat) : Int))) rfl rfl rfl (beq_ft H39)) rfl rfl (by kernel_rfl) rfl ?_
        refine TA.off 7 [0, 0, 0] rfl (Gd.at 4 true 55 (decide (S33.1 < ((E25.length : Nat) : Int))) rfl rfl rfl (beq_ft H39)) rfl rfl (by kernel_rfl) rfl ?_
        refine TA.off 8 [0, 0, 0] rfl (Gd.at 4 true 55 (decide (S33.1 < ((E25.length : Nat) : Int))) rfl rfl rfl (beq_ft H39)) rfl rfl (by kernel_rfl) rfl ?_
        refine TA.off 9 [0, 0, 0] rfl (Gd.at 4 true 55 (decide (S33.1 < ((E25.length : Nat) : Int))) rfl rfl rfl (beq_ft H39)) rfl rfl (by kernel_rfl) rfl ?_
        refine TA.off 10 [0, 0, 0] rfl (Gd.at 4 true 55 (decide (S33.1 < ((E25.length : Nat) : Int))) rfl rfl rfl (beq_ft H39)) rfl rfl (by kernel_rfl) rfl ?_
        refine TA.off 11 [0, 0, 0] rfl (Gd.at 4 true 55 (decide (S33.1 < ((E25.length : Nat) : Int))) rfl rfl rfl (beq_ft H39)) rfl rfl (by kernel_rfl) rfl ?_
        refine TA.off 12 [0, 0, 0] rfl (Gd.at 4 true 55 (decide (S33.1 < ((E25.length : Nat) : Int))) rfl rfl rfl (beq_ft H39)) rfl rfl (by kernel_rfl) rfl ?_
        refine TA.off 13 [0, 0, 0] rfl (Gd.at 4 true 55 (decide (S33.1 < ((E25.length : Nat) : Int))) rfl rfl rfl (beq_ft H39)) rfl rfl (by kernel_rfl) rfl ?_
        refine TA.y 14 [0, 0, 0] rfl (Y.pick_f H39 rfl rfl) rfl rfl rfl (by kernel_rfl) rfl ?_
        refine TA.nil (by kernel_rfl) ?_
        exact TE.jb_go () [0, 0, 0] ⟨rfl, rfl, rfl, rfl, rfl, rfl, rfl, rfl, trivial⟩ rfl
       refine TE.next ?_
       refine TW.cond rfl (fun H47 => ?_) (fun H47 => ?_)
       ·refine TW.skip ?_
        refine TE.next ?_
        refine TW.block ?_
        refine TW.seq ?_
        refine TW.region ?_
        refine TO.y (Y.move rfl) rfl rfl rfl ?_
        refine TO.y (Y.move rfl) rfl rfl rfl ?_
        refine TO.y (Y.move rfl) rfl rfl rfl ?_
        refine TO.bind fun E48 H49 => ?_
        refine TO.y (Y.index ke28 (Can.own 1 rfl) H49 rfl rfl) rfl rfl rfl ?_
        refine TO.y (Y.load_el (us := [strV E48.Key, .int .i64 E48.Seq, .bool E48.Del, strV E48.Val]) (u := .agg #[strV E48.Key, .int .i64 E48.Seq, .bool E48.Del, strV E48.Val]) kk51 rfl (Can.own 1 rfl) (idx_get H49).2.2 rfl rfl rfl rfl rfl) rfl rfl rfl ?_
        refine TO.ef (Ef.buildSlice (α := Ent) (Vs := [.agg #[strV E48.Key, .int .i64 E48.Seq, .bool E48.Del, strV E48.Val]]) [E48] ke28 kz51 rfl rfl rfl rfl rfl) rfl rfl rfl (fun B50 => ?_)
        refine TO.bind fun E52 H53 => ?_
        refine TO.ef (Ef.append (α := Ent) (is' := [.own (.slice (some ⟨B50, 0, none⟩) 1 1) (lc ([E48])), .own X3 (lc S2.2), .own V24 (lc E25)]) [3, 0, 0, 0] H53 ke28 kz51 rfl rfl rfl rfl rfl (Can.own 0 rfl)) rfl rfl rfl (fun V51 => ?_)
        refine TO.y (Y.assign rfl) rfl rfl rfl ?_
        refine TO.nil ?_
        refine TE.next ?_
        refine TW.region ?_
        refine TO.y (Y.move rfl) rfl rfl rfl ?_
        refine TO.y (Y.add rfl rfl) rfl rfl rfl ?_
        refine TO.y (Y.assign rfl) rfl rfl rfl ?_
        refine TO.nil ?_
        refine TE.block_normal ?_
        exact TE.lp_go V51 [2, 2, 0] ⟨rfl, rfl, rfl, rfl, rfl, rfl, rfl, trivial⟩ rfl
       refine TW.exit ?_
       refine TE.then_exit ?_
       refine TE.lp_exit ?_
       refine TE.block_exit ?_
       exact TE.jn_go X34 [0, 0, 0] ⟨rfl, rfl, rfl, rfl, rfl, rfl, rfl, trivial⟩ rfl
      refine TE.next ?_
      refine TW.seq ?_
      refine TW.seq ?_
      refine TW.joinBX (τ := Bool) (X := Unit) (fun T _ => [(0, V_l0), (3, X3), (4, .int .i64 S2.1), (5, V24), (6, X36), (7, .int .i64 T35.1), (8, .int .i64 S28.2.1), (90, .bool T)]) (fun _ _ => [.own X3 (lc S2.2), .own V24 (lc E25), .own X36 (lc T35.2)]) ?_ (fun T54 X55 => ?_)
      ·refine TW.draw (isH := [.own X3 (lc S2.2), .own V24 (lc E25), .own X36 (lc T35.2)]) hMix ?_
       refine TA.y 0 [0, 0, 0] rfl (Y.move rfl) rfl rfl rfl (by kernel_rfl) rfl ?_
       refine TA.y 1 [0, 0, 0] rfl (Y.move rfl) rfl rfl rfl (by kernel_rfl) rfl ?_
       refine TA.y 2 [0, 0, 0] rfl (Y.len (l := E25) ke28 (Can.own 1 rfl) rfl) rfl rfl rfl (by kernel_rfl) rfl ?_
       refine TA.y 3 [0, 0, 0] rfl (Y.lss rfl rfl) rfl rfl rfl (by kernel_rfl) rfl ?_
       refine TA.y 4 [0, 0, 0] rfl (Y.move rfl) rfl rfl rfl (by kernel_rfl) rfl ?_
       refine TA.ite (b := decide (T35.1 < ((E25.length : Nat) : Int))) (fun H56 => ?_) (fun H56 => ?_)
       ·refine TA.y 5 [0, 0, 0] rfl (Y.move rfl) (Gd.at 4 true 79 (decide (T35.1 < ((E25.length : Nat) : Int))) rfl rfl rfl (beq_tt H56)) rfl rfl (by kernel_rfl) rfl ?_
        refine TA.y 6 [0, 0, 0] rfl (Y.move rfl) (Gd.at 4 true 79 (decide (T35.1 < ((E25.length : Nat) : Int))) rfl rfl rfl (beq_tt H56)) rfl rfl (by kernel_rfl) rfl ?_
        refine TA.bind fun E57 H58 => ?_
        refine TA.y 7 [0, 0, 0] rfl (Y.index ke28 (Can.own 0 rfl) H58 rfl rfl) (Gd.at 4 true 79 (decide (T35.1 < ((E25.length : Nat) : Int))) rfl rfl rfl (beq_tt H56)) rfl rfl (by kernel_rfl) rfl ?_
        refine TA.y 8 [0, 0, 0] rfl (Y.load_el (us := [strV E57.Key, .int .i64 E57.Seq, .bool E57.Del, strV E57.Val]) (u := .agg #[strV E57.Key, .int .i64 E57.Seq, .bool E57.Del, strV E57.Val]) kk51 rfl (Can.own 0 rfl) (idx_get H58).2.2 rfl rfl rfl rfl rfl) (Gd.at 4 true 79 (decide (T35.1 < ((E25.length : Nat) : Int))) rfl rfl rfl (beq_tt H56)) rfl rfl (by kernel_rfl) rfl ?_
        refine TA.y 9 [0, 0, 0] rfl (Y.move rfl) (Gd.at 4 true 79 (decide (T35.1 < ((E25.length : Nat) : Int))) rfl rfl rfl (beq_tt H56)) rfl rfl (by kernel_rfl) rfl ?_
        refine TA.y 10 [0, 0, 0] rfl (Y.move rfl) (Gd.at 4 true 79 (decide (T35.1 < ((E25.length : Nat) : Int))) rfl rfl rfl (beq_tt H56)) rfl rfl (by kernel_rfl) rfl ?_
        refine TA.bind fun E59 H60 => ?_
        refine TA.y 11 [0, 0, 0] rfl (Y.index ke28 (Can.own 1 rfl) H60 rfl rfl) (Gd.at 4 true 79 (decide (T35.1 < ((E25.length : Nat) : Int))) rfl rfl rfl (beq_tt H56)) rfl rfl (by kernel_rfl) rfl ?_
        refine TA.y 12 [0, 0, 0] rfl (Y.load_el (us := [strV E59.Key, .int .i64 E59.Seq, .bool E59.Del, strV E59.Val]) (u := .agg #[strV E59.Key, .int .i64 E59.Seq, .bool E59.Del, strV E59.Val]) kk51 rfl (Can.own 1 rfl) (idx_get H60).2.2 rfl rfl rfl rfl rfl) (Gd.at 4 true 79 (decide (T35.1 < ((E25.length : Nat) : Int))) rfl rfl rfl (beq_tt H56)) rfl rfl (by kernel_rfl) rfl ?_
        refine TA.bind fun R61 H62 => ?_
        refine TA.one 13 (by kernel_rfl) ?_
        refine TX.ef [0, 0, 0] rfl (Ef.call (rest := [.own X3 (lc S2.2), .own V24 (lc E25), .own X36 (lc T35.2)]) [0, 0, 0] (spec_l9Ahead_con E57 E59  R61 H62) kc46 rfl rfl trivial) (Gd.at 4 true 79 (decide (T35.1 < ((E25.length : Nat) : Int))) rfl rfl rfl (beq_tt H56)) rfl rfl (fun _ => rfl) (fun _ => ?_)
        refine TA.y 14 [0, 0, 0] rfl (Y.not rfl) (Gd.at 4 true 79 (decide (T35.1 < ((E25.length : Nat) : Int))) rfl rfl rfl (beq_tt H56)) rfl rfl (by kernel_rfl) rfl ?_
        refine TA.y 15 [0, 0, 0] rfl (Y.pick_t H56 rfl rfl) rfl rfl rfl (by kernel_rfl) rfl ?_
        refine TA.nil (by kernel_rfl) ?_
        exact TE.jb_go () [0, 0, 0] ⟨rfl, rfl, rfl, rfl, rfl, rfl, rfl, rfl, trivial⟩ rfl
       refine TA.off 5 [0, 0, 0] rfl (Gd.at 4 true 79 (decide (T35.1 < ((E25.length : Nat) : Int))) rfl rfl rfl (beq_ft H56)) rfl rfl (by kernel_rfl) rfl ?_
       refine TA.off 6 [0, 0, 0] rfl (Gd.at 4 true 79 (decide (T35.1 < ((E25.length : Nat) : Int))) rfl rfl rfl (beq_ft H56)) rfl rfl (by kernel_rfl) rfl ?_
       refine TA.off 7 [0, 0, 0] rfl (Gd.at 4 true 79 (decide (T35.1 < ((E25.length : Nat) : Int))) rfl rfl rfl (beq_ft H56)) rfl rfl (by kernel_rfl) rfl ?_
       refine TA.off 8 [0, 0, 0] rfl (Gd.at 4 true 79 (decide (T35.1 < ((E25.length : Nat) : Int))) rfl rfl rfl (beq_ft H56)) rfl rfl (by kernel_rfl) rfl ?_
       refine TA.off 9 [0, 0, 0] rfl (Gd.at 4 true 79 (decide (T35.1 < ((E25.length : Nat) : Int))) rfl rfl rfl (beq_ft H56)) rfl rfl (by kernel_rfl) rfl ?_
       refine TA.off 10 [0, 0, 0] rfl (Gd.at 4 true 79 (decide (T35.1 < ((E25.length : Nat) : Int))) rfl rfl rfl (beq_ft H56)) rfl rfl (by kernel_rfl) rfl ?_
       refine TA.off 11 [0, 0, 0] rfl (Gd.at 4 true 79 (decide (T35.1 < ((E25.length : Nat) : Int))) rfl rfl rfl (beq_ft H56)) rfl rfl (by kernel_rfl) rfl ?_
       refine TA.off 12 [0, 0, 0] rfl (Gd.at 4 true 79 (decide (T35.1 < ((E25.length : Nat) : Int))) rfl rfl rfl (beq_ft H56)) rfl rfl (by kernel_rfl) rfl ?_
       refine TA.off 13 [0, 0, 0] rfl (Gd.at 4 true 79 (decide (T35.1 < ((E25.length : Nat) : Int))) rfl rfl rfl (beq_ft H56)) rfl rfl (by kernel_rfl) rfl ?_
       refine TA.off 14 [0, 0, 0] rfl (Gd.at 4 true 79 (decide (T35.1 < ((E25.length : Nat) : Int))) rfl rfl rfl (beq_ft H56)) rfl rfl (by kernel_rfl) rfl ?_
       refine TA.y 15 [0, 0, 0] rfl (Y.pick_f H56 rfl rfl) rfl rfl rfl (by kernel_rfl) rfl ?_
       refine TA.nil (by kernel_rfl) ?_
       exact TE.jb_go () [0, 0, 0] ⟨rfl, rfl, rfl, rfl, rfl, rfl, rfl, rfl, trivial⟩ rfl
      refine TE.next ?_
      refine TW.joinX (τ := Int) (X := Unit) (fun T _ => [(0, V_l0), (3, X3), (4, .int .i64 S2.1), (5, V24), (6, X36), (7, .int .i64 T), (8, .int .i64 S28.2.1)]) (fun _ _ => [.own X3 (lc S2.2), .own V24 (lc E25), .own X36 (lc T35.2)]) ?_ (fun T64 X65 => ?_)
      ·refine TW.cond rfl (fun H66 => ?_) (fun H66 => ?_)
       ·refine TW.region ?_
        refine TO.y (Y.move rfl) rfl rfl rfl ?_
        refine TO.y (Y.add rfl rfl) rfl rfl rfl ?_
        refine TO.y (Y.assign rfl) rfl rfl rfl ?_
        refine TO.nil ?_
        exact TE.jn_go () [0, 0, 0] ⟨rfl, rfl, rfl, rfl, rfl, rfl, rfl, trivial⟩ rfl
       refine TW.skip ?_
       exact TE.jn_go () [0, 0, 0] ⟨rfl, rfl, rfl, rfl, rfl, rfl, rfl, trivial⟩ rfl
      refine TE.next ?_
      refine TW.region ?_
      refine TO.y (Y.move rfl) rfl rfl rfl ?_
      refine TO.y (Y.move rfl) rfl rfl rfl ?_
      refine TO.y (Y.move rfl) rfl rfl rfl ?_
      refine TO.bind fun E67 H68 => ?_
      refine TO.y (Y.index ke28 (Can.own 0 rfl) H68 rfl rfl) rfl rfl rfl ?_
      refine TO.y (Y.load_el (us := [strV E67.Key, .int .i64 E67.Seq, .bool E67.Del, strV E67.Val]) (u := .agg #[strV E67.Key, .int .i64 E67.Seq, .bool E67.Del, strV E67.Val]) kk51 rfl (Can.own 0 rfl) (idx_get H68).2.2 rfl rfl rfl rfl rfl) rfl rfl rfl ?_
      refine TO.ef (Ef.buildSlice (α := Ent) (Vs := [.agg #[strV E67.Key, .int .i64 E67.Seq, .bool E67.Del, strV E67.Val]]) [E67] ke28 kz51 rfl rfl rfl rfl rfl) rfl rfl rfl (fun B69 => ?_)
      refine TO.bind fun E71 H72 => ?_
      refine TO.ef (Ef.append (α := Ent) (is' := [.own (.slice (some ⟨B69, 0, none⟩) 1 1) (lc ([E67])), .own X3 (lc S2.2), .own V24 (lc E25)]) [3, 0, 0, 0] H72 ke28 kz51 rfl rfl rfl rfl rfl (Can.own 0 rfl)) rfl rfl rfl (fun V70 => ?_)
      refine TO.y (Y.assign rfl) rfl rfl rfl ?_
      refine TO.nil ?_
      refine TE.block_normal ?_
      refine TE.next ?_
      refine TW.region ?_
      refine TO.y (Y.move rfl) rfl rfl rfl ?_
      refine TO.y (Y.add rfl rfl) rfl rfl rfl ?_
      refine TO.y (Y.assign rfl) rfl rfl rfl ?_
      refine TO.nil ?_
      exact TE.lp_go V70 [2, 2, 0] ⟨rfl, rfl, rfl, rfl, rfl, rfl, rfl, trivial⟩ rfl
     refine TW.exit ?_
     refine TE.then_exit ?_
     refine TE.lp_exit ?_
     refine TE.block_exit ?_
     exact TE.jn_go X29 [1, 1] ⟨rfl, rfl, rfl, rfl, rfl, trivial⟩ rfl
    refine TE.next ?_
    refine TW.region ?_
    refine TO.y (Y.move rfl) rfl rfl rfl ?_
    refine TO.y (Y.move rfl) rfl rfl rfl ?_
    refine TO.y (Y.move rfl) rfl rfl rfl ?_
    refine TO.bind fun E73 H74 => ?_
    refine TO.y (Y.subs H74 ke28 (Can.own 0 rfl) rfl ⟨_, rfl⟩ rfl) rfl rfl rfl ?_
    refine TO.bind fun E76 H77 => ?_
    refine TO.ef (Ef.append (α := Ent) (is' := [.own V24 (lc E25)]) [1, 0] H77 ke28 kz51 rfl rfl rfl rfl rfl (Can.sub H74 rfl (Can.own 0 rfl))) rfl rfl rfl (fun V75 => ?_)
    refine TO.y (Y.assign rfl) rfl rfl rfl ?_
    refine TO.nil ?_
    refine TE.block_normal ?_
    refine TE.next ?_
    refine TW.region ?_
    refine TO.y (Y.move rfl) rfl rfl rfl ?_
    refine TO.y (Y.add rfl rfl) rfl rfl rfl ?_
    refine TO.y (Y.assign rfl) rfl rfl rfl ?_
    refine TO.nil ?_
    exact TE.lp_go V75 [0] ⟨rfl, rfl, rfl, trivial⟩ rfl
   refine TW.exit ?_
   refine TE.then_exit ?_
   refine TE.lp_exit ?_
   refine TE.block_exit ?_
   exact TE.jn_go X3 [0] ⟨rfl, rfl, trivial⟩ rfl
  refine TE.next ?_
  refine TW.seq ?_
  refine TW.region ?_
  refine TO.y (Y.assign rfl) rfl rfl rfl ?_
  refine TO.nil ?_
  refine TE.next ?_
  refine TW.seq ?_
  refine TW.seq ?_
  refine TW.region ?_
  refine TO.y (Y.assign rfl) rfl rfl rfl ?_
  refine TO.nil ?_
  refine TE.next ?_
  refine TW.joinX (τ := Int) (X := Unit) (fun T _ => [(3, X5), (9, .int .i64 T)]) (fun _ _ => [.own X5 (lc T4)]) ?_ (fun T80 X81 => ?_)
  ·refine TW.block ?_
   refine TW.loopX (σ := Int × Int) (X := Unit) (fun T _ => [(0, V_l0), (3, X5), (9, .int .i64 T.1), (10, .int .i64 T.2)]) (fun _ _ => [.own X5 (lc T4)]) () [0] ⟨rfl, rfl, rfl, rfl, trivial⟩ rfl (fun S78 X79 => ?_)
   refine TW.seq ?_
   refine TW.seq ?_
   refine TW.region ?_
   refine TO.y (Y.move rfl) rfl rfl rfl ?_
   refine TO.y (Y.move rfl) rfl rfl rfl ?_
   refine TO.y (Y.len (l := l) ke29 (Base.can HB_V_l0) rfl) rfl rfl rfl ?_
   refine TO.y (Y.lss rfl rfl) rfl rfl rfl ?_
   refine TO.nil ?_
   refine TE.next ?_
   refine TW.cond rfl (fun H82 => ?_) (fun H82 => ?_)
   ·refine TW.skip ?_
    refine TE.next ?_
    refine TW.seq ?_
    refine TW.block ?_
    refine TW.region ?_
    refine TO.y (Y.move rfl) rfl rfl rfl ?_
    refine TO.y (Y.move rfl) rfl rfl rfl ?_
    refine TO.y (Y.move rfl) rfl rfl rfl ?_
    refine TO.bind fun E83 H84 => ?_
    refine TO.y (Y.index ke29 (Base.can HB_V_l0) H84 rfl rfl) rfl rfl rfl ?_
    have Q85 : Base w S (elv w V_l0 (S78.2.toNat * 1 + 0)) (lc E83) := Base.el HB_V_l0 (idx_get H84).2.2 rfl rfl
    refine TO.y (Y.load_base (α := List Ent) (u := (elv w V_l0 (S78.2.toNat * 1 + 0))) kk28 rfl HB_V_l0 (idx_get H84).2.2 rfl rfl rfl rfl rfl) rfl rfl rfl ?_
    refine TO.y (Y.len (l := E83) ke28 (Base.can Q85) rfl) rfl rfl rfl ?_
    refine TO.y (Y.add rfl rfl) rfl rfl rfl ?_
    refine TO.y (Y.assign rfl) rfl rfl rfl ?_
    refine TO.nil ?_
    refine TE.block_normal ?_
    refine TE.next ?_
    refine TW.region ?_
    refine TO.y (Y.move rfl) rfl rfl rfl ?_
    refine TO.y (Y.add rfl rfl) rfl rfl rfl ?_
    refine TO.y (Y.assign rfl) rfl rfl rfl ?_
    refine TO.nil ?_
    exact TE.lp_go () [0] ⟨rfl, rfl, rfl, rfl, trivial⟩ rfl
   refine TW.exit ?_
   refine TE.then_exit ?_
   refine TE.lp_exit ?_
   refine TE.block_exit ?_
   exact TE.jn_go () [0] ⟨rfl, rfl, trivial⟩ rfl
  refine TE.next ?_
  refine TW.seq ?_
  refine TW.seq ?_
  refine TW.region ?_
  refine TO.y (Y.move rfl) rfl rfl rfl ?_
  refine TO.y (Y.gtr rfl rfl) rfl rfl rfl ?_
  refine TO.nil ?_
  refine TE.next ?_
  refine TW.cond rfl (fun H86 => ?_) (fun H86 => ?_)
  ·refine TW.seq ?_
   refine TW.region ?_
   refine TO.ef (Ef.buildSlice (α := Ent) (Vs := []) ([] : List Ent) ke28 kz51 rfl rfl rfl rfl rfl) rfl rfl rfl (fun B87 => ?_)
   refine TO.y (Y.assign rfl) rfl rfl rfl ?_
   refine TO.nil ?_
   refine TE.next ?_
   refine TW.ret ?_
   refine TE.then_ret ?_
   exact TE.leaf fun _ _ hf_ hs_ => ret_any (rs := [.tmp 2]) (vs := [.slice (some ⟨B87, 0, none⟩) 0 0]) (.inl rfl) rfl ⟨rfl, trivial⟩ hf_ hs_ ⟨(.slice (some ⟨B87, 0, none⟩) 0 0), rfl, hs_.pulls [0] rfl⟩
  refine TW.skip ?_
  refine TE.next ?_
  refine TW.seq ?_
  refine TW.region ?_
  refine TO.y (Y.move rfl) rfl rfl rfl ?_
  refine TO.y (Y.assign rfl) rfl rfl rfl ?_
  refine TO.nil ?_
  refine TE.next ?_
  refine TW.ret ?_
  exact TE.leaf fun _ _ hf_ hs_ => ret_any (rs := [.tmp 2]) (vs := [X5]) (.inl rfl) rfl ⟨rfl, trivial⟩ hf_ hs_ ⟨X5, rfl, hs_.pulls [0] rfl⟩

/-- loop.example/g00950/spec.l15Last -/
noncomputable def spec_l15Last (l : List Ent) (at_ : Int) : Option Int :=
  bindC (loopO (fun (S1 : Int) => (if (decide (S1 < ((l.length : Nat) : Int))) = true then ((idx l S1).bind fun E8 =>
  (idx l at_).bind fun E10 =>
  some (decide (E8.Key = E10.Key)))
  else (some false)).bind (fun (T5 : Bool) =>
  if T5 = true then (some (.go (IntKind.i64.wrap (S1 + (1 : Int)))))
  else (some (.done (.go S1)))))
  at_)
  (fun (T3 : Int) => some T3)

theorem spec_l15Last_con (l : List Ent) (at_ : Int) (V_l0 : Value) (r : Int) (hm : spec_l15Last l at_ = some r) :
    Con Try.prog 58 [V_l0, .int .i64 at_] [] [(V_l0, lc l)] (fun _ : Unit => .int .i64 r) (fun _ => []) := by
  refine Con.intro (args := [V_l0, .int .i64 at_]) (n := 27) (val := fun r (_ : Unit) => .int .i64 r) (post := fun _ _ => []) (m := spec_l15Last l at_) Try.func58 rfl rfl rfl hm ?_
  intro w S hrd
  have HB_V_l0 := hrd _ (.head _)
  clear hrd
  unfold spec_l15Last
  refine TW.seq ?_
  refine TW.region ?_
  refine TO.y (Y.assign rfl) rfl rfl rfl ?_
  refine TO.nil ?_
  refine TE.next ?_
  refine TW.seq ?_
  refine TW.region ?_
  refine TO.y (Y.move rfl) rfl rfl rfl ?_
  refine TO.y (Y.assign rfl) rfl rfl rfl ?_
  refine TO.nil ?_
  refine TE.next ?_
  refine TW.seq ?_
  refine TW.joinX (τ := Int) (X := Unit) (fun T _ => [(5, .int .i64 T)]) (fun _ _ => []) ?_ (fun T3 X4 => ?_)
  ·refine TW.block ?_
   refine TW.loopX (σ := Int) (X := Unit) (fun T _ => [(0, V_l0), (1, .int .i64 at_), (5, .int .i64 T)]) (fun _ _ => []) () [] ⟨rfl, rfl, rfl, trivial⟩ rfl (fun S1 X2 => ?_)
   refine TW.seq ?_
   refine TW.seq ?_
   refine TW.joinBX (τ := Bool) (X := Unit) (fun T _ => [(0, V_l0), (1, .int .i64 at_), (5, .int .i64 S1), (23, .bool T)]) (fun _ _ => []) ?_ (fun T5 X6 => ?_)
   ·refine TW.draw (isH := []) hMix ?_
    refine TA.y 0 [] rfl (Y.move rfl) rfl rfl rfl (by kernel_rfl) rfl ?_
    refine TA.y 1 [] rfl (Y.move rfl) rfl rfl rfl (by kernel_rfl) rfl ?_
    refine TA.y 2 [] rfl (Y.len (l := l) ke28 (Base.can HB_V_l0) rfl) rfl rfl rfl (by kernel_rfl) rfl ?_
    refine TA.y 3 [] rfl (Y.lss rfl rfl) rfl rfl rfl (by kernel_rfl) rfl ?_
    refine TA.y 4 [] rfl (Y.move rfl) rfl rfl rfl (by kernel_rfl) rfl ?_
    refine TA.ite (b := decide (S1 < ((l.length : Nat) : Int))) (fun H7 => ?_) (fun H7 => ?_)
    ·refine TA.y 5 [] rfl (Y.move rfl) (Gd.at 4 true 11 (decide (S1 < ((l.length : Nat) : Int))) rfl rfl rfl (beq_tt H7)) rfl rfl (by kernel_rfl) rfl ?_
     refine TA.y 6 [] rfl (Y.move rfl) (Gd.at 4 true 11 (decide (S1 < ((l.length : Nat) : Int))) rfl rfl rfl (beq_tt H7)) rfl rfl (by kernel_rfl) rfl ?_
     refine TA.bind fun E8 H9 => ?_
     refine TA.y 7 [] rfl (Y.index ke28 (Base.can HB_V_l0) H9 rfl rfl) (Gd.at 4 true 11 (decide (S1 < ((l.length : Nat) : Int))) rfl rfl rfl (beq_tt H7)) rfl rfl (by kernel_rfl) rfl ?_
     refine TA.y 8 [] rfl (Y.field_el kf51_0 (Base.can HB_V_l0) (idx_get H9).2.2 rfl rfl) (Gd.at 4 true 11 (decide (S1 < ((l.length : Nat) : Int))) rfl rfl rfl (beq_tt H7)) rfl rfl (by kernel_rfl) rfl ?_
     refine TA.y 9 [] rfl (Y.load_el (us := [strV E8.Key]) (u := strV E8.Key) kk9 rfl (Base.can HB_V_l0) (idx_get H9).2.2 rfl rfl rfl rfl rfl) (Gd.at 4 true 11 (decide (S1 < ((l.length : Nat) : Int))) rfl rfl rfl (beq_tt H7)) rfl rfl (by kernel_rfl) rfl ?_
     refine TA.y 10 [] rfl (Y.move rfl) (Gd.at 4 true 11 (decide (S1 < ((l.length : Nat) : Int))) rfl rfl rfl (beq_tt H7)) rfl rfl (by kernel_rfl) rfl ?_
     refine TA.y 11 [] rfl (Y.move rfl) (Gd.at 4 true 11 (decide (S1 < ((l.length : Nat) : Int))) rfl rfl rfl (beq_tt H7)) rfl rfl (by kernel_rfl) rfl ?_
     refine TA.bind fun E10 H11 => ?_
     refine TA.y 12 [] rfl (Y.index ke28 (Base.can HB_V_l0) H11 rfl rfl) (Gd.at 4 true 11 (decide (S1 < ((l.length : Nat) : Int))) rfl rfl rfl (beq_tt H7)) rfl rfl (by kernel_rfl) rfl ?_
     refine TA.y 13 [] rfl (Y.field_el kf51_0 (Base.can HB_V_l0) (idx_get H11).2.2 rfl rfl) (Gd.at 4 true 11 (decide (S1 < ((l.length : Nat) : Int))) rfl rfl rfl (beq_tt H7)) rfl rfl (by kernel_rfl) rfl ?_
     refine TA.y 14 [] rfl (Y.load_el (us := [strV E10.Key]) (u := strV E10.Key) kk9 rfl (Base.can HB_V_l0) (idx_get H11).2.2 rfl rfl rfl rfl rfl) (Gd.at 4 true 11 (decide (S1 < ((l.length : Nat) : Int))) rfl rfl rfl (beq_tt H7)) rfl rfl (by kernel_rfl) rfl ?_
     refine TA.y 15 [] rfl (Y.seql rfl rfl) (Gd.at 4 true 11 (decide (S1 < ((l.length : Nat) : Int))) rfl rfl rfl (beq_tt H7)) rfl rfl (by kernel_rfl) rfl ?_
     refine TA.y 16 [] rfl (Y.pick_t H7 rfl rfl) rfl rfl rfl (by kernel_rfl) rfl ?_
     refine TA.nil (by kernel_rfl) ?_
     exact TE.jb_go () [] ⟨rfl, rfl, rfl, rfl, trivial⟩ rfl
    refine TA.off 5 [] rfl (Gd.at 4 true 11 (decide (S1 < ((l.length : Nat) : Int))) rfl rfl rfl (beq_ft H7)) rfl rfl (by kernel_rfl) rfl ?_
    refine TA.off 6 [] rfl (Gd.at 4 true 11 (decide (S1 < ((l.length : Nat) : Int))) rfl rfl rfl (beq_ft H7)) rfl rfl (by kernel_rfl) rfl ?_
    refine TA.off 7 [] rfl (Gd.at 4 true 11 (decide (S1 < ((l.length : Nat) : Int))) rfl rfl rfl (beq_ft H7)) rfl rfl (by kernel_rfl) rfl ?_
    refine TA.off 8 [] rfl (Gd.at 4 true 11 (decide (S1 < ((l.length : Nat) : Int))) rfl rfl rfl (beq_ft H7)) rfl rfl (by kernel_rfl) rfl ?_
    refine TA.off 9 [] rfl (Gd.at 4 true 11 (decide (S1 < ((l.length : Nat) : Int))) rfl rfl rfl (beq_ft H7)) rfl rfl (by kernel_rfl) rfl ?_
    refine TA.off 10 [] rfl (Gd.at 4 true 11 (decide (S1 < ((l.length : Nat) : Int))) rfl rfl rfl (beq_ft H7)) rfl rfl (by kernel_rfl) rfl ?_
    refine TA.off 11 [] rfl (Gd.at 4 true 11 (decide (S1 < ((l.length : Nat) : Int))) rfl rfl rfl (beq_ft H7)) rfl rfl (by kernel_rfl) rfl ?_
    refine TA.off 12 [] rfl (Gd.at 4 true 11 (decide (S1 < ((l.length : Nat) : Int))) rfl rfl rfl (beq_ft H7)) rfl rfl (by kernel_rfl) rfl ?_
    refine TA.off 13 [] rfl (Gd.at 4 true 11 (decide (S1 < ((l.length : Nat) : Int))) rfl rfl rfl (beq_ft H7)) rfl rfl (by kernel_rfl) rfl ?_
    refine TA.off 14 [] rfl (Gd.at 4 true 11 (decide (S1 < ((l.length : Nat) : Int))) rfl rfl rfl (beq_ft H7)) rfl rfl (by kernel_rfl) rfl ?_
    refine TA.off 15 [] rfl (Gd.at 4 true 11 (decide (S1 < ((l.length : Nat) : Int))) rfl rfl rfl (beq_ft H7)) rfl rfl (by kernel_rfl) rfl ?_
    refine TA.y 16 [] rfl (Y.pick_f H7 rfl rfl) rfl rfl rfl (by kernel_rfl) rfl ?_
    refine TA.nil (by kernel_rfl) ?_
    exact TE.jb_go () [] ⟨rfl, rfl, rfl, rfl, trivial⟩ rfl
   refine TE.next ?_
   refine TW.cond rfl (fun H12 => ?_) (fun H12 => ?_)
   ·refine TW.skip ?_
    refine TE.next ?_
    refine TW.block ?_
    refine TW.region ?_
    refine TO.y (Y.move rfl) rfl rfl rfl ?_
    refine TO.y (Y.add rfl rfl) rfl rfl rfl ?_
    refine TO.y (Y.assign rfl) rfl rfl rfl ?_
    refine TO.nil ?_
    refine TE.block_normal ?_
    exact TE.lp_go () [] ⟨rfl, rfl, rfl, trivial⟩ rfl
   refine TW.exit ?_
   refine TE.then_exit ?_
   refine TE.lp_exit ?_
   refine TE.block_exit ?_
   exact TE.jn_go () [] ⟨rfl, trivial⟩ rfl
  refine TE.next ?_
  refine TW.seq ?_
  refine TW.region ?_
  refine TO.y (Y.move rfl) rfl rfl rfl ?_
  refine TO.y (Y.assign rfl) rfl rfl rfl ?_
  refine TO.nil ?_
  refine TE.next ?_
  refine TW.ret ?_
  exact TE.leaf fun _ _ hf_ hs_ => ret_any (rs := [.tmp 4]) (vs := [.int .i64 T3]) (.inl rfl) rfl ⟨rfl, trivial⟩ hf_ hs_ ⟨(), rfl, hs_.pulls [] rfl⟩

/-- loop.example/g00950/spec.l9Get -/
noncomputable def spec_l9Get (l : List Ent) (key : List UInt8) (seq : Int) : Option (Ent × Bool) :=
  bindC (loopO (fun (S2 : Int) => if (decide (S2 < ((l.length : Nat) : Int))) = true then (((idx l S2).bind fun E9 =>
  if (decide (E9.Key = key)) = true then (some (decide (E9.Seq ≤ seq)))
  else (some false)).bind (fun (T7 : Bool) =>
  if T7 = true then ((idx l S2).bind fun E13 =>
  some (.done (.done (E13, true))))
  else (some (.go (IntKind.i64.wrap (S2 + (1 : Int)))))))
  else (some (.done (.go ()))))
  (0 : Int))
  (fun (T4 : Unit) => some ({ Key := [], Seq := (0 : Int), Del := false, Val := [] : Ent }, false))

theorem spec_l9Get_con (l : List Ent) (key : List UInt8) (seq : Int) (V_l0 : Value) (r : Ent × Bool) (hm : spec_l9Get l key seq = some r) :
    Con Try.prog 81 [V_l0, strV key, .int .i64 seq] [] [(V_l0, lc l)] (fun _ : Unit => .tuple #[.agg #[strV r.1.Key, .int .i64 r.1.Seq, .bool r.1.Del, strV r.1.Val], .bool r.2]) (fun _ => []) := by
  refine Con.intro (args := [V_l0, strV key, .int .i64 seq]) (n := 36) (val := fun r (_ : Unit) => .tuple #[.agg #[strV r.1.Key, .int .i64 r.1.Seq, .bool r.1.Del, strV r.1.Val], .bool r.2]) (post := fun _ _ => []) (m := spec_l9Get l key seq) Try.func81 rfl rfl rfl hm ?_
  intro w S hrd
  have HB_V_l0 := hrd _ (.head _)
  clear hrd
  unfold spec_l9Get
  refine TW.seq ?_
  refine TW.region ?_
  refine TO.ef (Ef.alloc kz51 rfl) rfl rfl rfl (fun B1 => ?_)
  refine TO.y (Y.assign rfl) rfl rfl rfl ?_
  refine TO.nil ?_
  refine TE.next ?_
  refine TW.seq ?_
  refine TW.seq ?_
  refine TW.region ?_
  refine TO.y (Y.assign rfl) rfl rfl rfl ?_
  refine TO.nil ?_
  refine TE.next ?_
  refine TW.joinX (τ := Unit) (X := Unit) (fun _ _ => [(6, .pointer (some ⟨B1, 0, none⟩))]) (fun _ _ => [.box B1 51 [strV ([]), .int .i64 (0 : Int), .bool false, strV ([])]]) ?_ (fun T4 X5 => ?_)
  ·refine TW.block ?_
   refine TW.loopX (σ := Int) (X := Unit) (fun T _ => [(0, V_l0), (1, strV key), (2, .int .i64 seq), (6, .pointer (some ⟨B1, 0, none⟩)), (8, .int .i64 T)]) (fun _ _ => [.box B1 51 [strV ([]), .int .i64 (0 : Int), .bool false, strV ([])]]) () [0] ⟨rfl, rfl, rfl, rfl, rfl, trivial⟩ rfl (fun S2 X3 => ?_)
   refine TW.seq ?_
   refine TW.seq ?_
   refine TW.region ?_
   refine TO.y (Y.move rfl) rfl rfl rfl ?_
   refine TO.y (Y.move rfl) rfl rfl rfl ?_
   refine TO.y (Y.len (l := l) ke28 (Base.can HB_V_l0) rfl) rfl rfl rfl ?_
   refine TO.y (Y.lss rfl rfl) rfl rfl rfl ?_
   refine TO.nil ?_
   refine TE.next ?_
   refine TW.cond rfl (fun H6 => ?_) (fun H6 => ?_)
   ·refine TW.skip ?_
    refine TE.next ?_
    refine TW.seq ?_
    refine TW.block ?_
    refine TW.seq ?_
    refine TW.joinBX (τ := Bool) (X := Unit) (fun T _ => [(0, V_l0), (1, strV key), (2, .int .i64 seq), (6, .pointer (some ⟨B1, 0, none⟩)), (8, .int .i64 S2), (30, .bool T)]) (fun _ _ => [.box B1 51 [strV ([]), .int .i64 (0 : Int), .bool false, strV ([])]]) ?_ (fun T7 X8 => ?_)
    ·refine TW.region ?_
     refine TO.y (Y.move rfl) rfl rfl rfl ?_
     refine TO.y (Y.move rfl) rfl rfl rfl ?_
     refine TO.bind fun E9 H10 => ?_
     refine TO.y (Y.index ke28 (Base.can HB_V_l0) H10 rfl rfl) rfl rfl rfl ?_
     refine TO.y (Y.field_el kf51_0 (Base.can HB_V_l0) (idx_get H10).2.2 rfl rfl) rfl rfl rfl ?_
     refine TO.y (Y.load_el (us := [strV E9.Key]) (u := strV E9.Key) kk9 rfl (Base.can HB_V_l0) (idx_get H10).2.2 rfl rfl rfl rfl rfl) rfl rfl rfl ?_
     refine TO.y (Y.move rfl) rfl rfl rfl ?_
     refine TO.y (Y.seql rfl rfl) rfl rfl rfl ?_
     refine TO.y (Y.move rfl) rfl rfl rfl ?_
     refine TO.ite (b := decide (E9.Key = key)) (fun H11 => ?_) (fun H11 => ?_)
     ·refine TO.y (Y.move rfl) (Gd.at 7 true 22 (decide (E9.Key = key)) rfl rfl rfl (beq_tt H11)) rfl rfl ?_
      refine TO.y (Y.move rfl) (Gd.at 7 true 22 (decide (E9.Key = key)) rfl rfl rfl (beq_tt H11)) rfl rfl ?_
      refine TO.y (Y.index ke28 (Base.can HB_V_l0) H10 rfl rfl) (Gd.at 7 true 22 (decide (E9.Key = key)) rfl rfl rfl (beq_tt H11)) rfl rfl ?_
      refine TO.y (Y.field_el kf51_1 (Base.can HB_V_l0) (idx_get H10).2.2 rfl rfl) (Gd.at 7 true 22 (decide (E9.Key = key)) rfl rfl rfl (beq_tt H11)) rfl rfl ?_
      refine TO.y (Y.load_el (us := [.int .i64 E9.Seq]) (u := .int .i64 E9.Seq) kk3 rfl (Base.can HB_V_l0) (idx_get H10).2.2 rfl rfl rfl rfl rfl) (Gd.at 7 true 22 (decide (E9.Key = key)) rfl rfl rfl (beq_tt H11)) rfl rfl ?_
      refine TO.y (Y.move rfl) (Gd.at 7 true 22 (decide (E9.Key = key)) rfl rfl rfl (beq_tt H11)) rfl rfl ?_
      refine TO.y (Y.leq rfl rfl) (Gd.at 7 true 22 (decide (E9.Key = key)) rfl rfl rfl (beq_tt H11)) rfl rfl ?_
      refine TO.y (Y.pick_t H11 rfl rfl) rfl rfl rfl ?_
      refine TO.nil ?_
      exact TE.jb_go () [0] ⟨rfl, rfl, rfl, rfl, rfl, rfl, trivial⟩ rfl
     refine TO.off (Gd.at 7 true 22 (decide (E9.Key = key)) rfl rfl rfl (beq_ft H11)) rfl rfl ?_
     refine TO.off (Gd.at 7 true 22 (decide (E9.Key = key)) rfl rfl rfl (beq_ft H11)) rfl rfl ?_
     refine TO.off (Gd.at 7 true 22 (decide (E9.Key = key)) rfl rfl rfl (beq_ft H11)) rfl rfl ?_
     refine TO.off (Gd.at 7 true 22 (decide (E9.Key = key)) rfl rfl rfl (beq_ft H11)) rfl rfl ?_
     refine TO.off (Gd.at 7 true 22 (decide (E9.Key = key)) rfl rfl rfl (beq_ft H11)) rfl rfl ?_
     refine TO.off (Gd.at 7 true 22 (decide (E9.Key = key)) rfl rfl rfl (beq_ft H11)) rfl rfl ?_
     refine TO.off (Gd.at 7 true 22 (decide (E9.Key = key)) rfl rfl rfl (beq_ft H11)) rfl rfl ?_
     refine TO.y (Y.pick_f H11 rfl rfl) rfl rfl rfl ?_
     refine TO.nil ?_
     exact TE.jb_go () [0] ⟨rfl, rfl, rfl, rfl, rfl, rfl, trivial⟩ rfl
    refine TE.next ?_
    refine TW.cond rfl (fun H12 => ?_) (fun H12 => ?_)
    ·refine TW.seq ?_
     refine TW.region ?_
     refine TO.y (Y.move rfl) rfl rfl rfl ?_
     refine TO.y (Y.move rfl) rfl rfl rfl ?_
     refine TO.bind fun E13 H14 => ?_
     refine TO.y (Y.index ke28 (Base.can HB_V_l0) H14 rfl rfl) rfl rfl rfl ?_
     refine TO.y (Y.load_el (us := [strV E13.Key, .int .i64 E13.Seq, .bool E13.Del, strV E13.Val]) (u := .agg #[strV E13.Key, .int .i64 E13.Seq, .bool E13.Del, strV E13.Val]) kk51 rfl (Base.can HB_V_l0) (idx_get H14).2.2 rfl rfl rfl rfl rfl) rfl rfl rfl ?_
     refine TO.ef0 (Ef.store_box (us := [strV E13.Key, .int .i64 E13.Seq, .bool E13.Del, strV E13.Val]) (vs' := [strV E13.Key, .int .i64 E13.Seq, .bool E13.Del, strV E13.Val]) (is' := [.box B1 51 [strV E13.Key, .int .i64 E13.Seq, .bool E13.Del, strV E13.Val]]) 0 kk51 rfl rfl rfl (Cel.plain rfl rfl) rfl rfl rfl rfl) rfl rfl (fun _ => ?_)
     refine TO.y (Y.assign rfl) rfl rfl rfl ?_
     refine TO.nil ?_
     refine TE.next ?_
     refine TW.ret ?_
     refine TE.block_ret ?_
     refine TE.then_ret ?_
     refine TE.lp_ret ?_
     refine TE.block_ret ?_
     refine TE.jn_done ?_
     refine TE.then_ret ?_
     exact TE.leaf fun _ _ hf_ hs_ => ret_any (rs := [.cell 6 51, .tmp 7]) (vs := [.agg #[strV E13.Key, .int .i64 E13.Seq, .bool E13.Del, strV E13.Val], .bool true]) (.inl rfl) rfl (RV.cell 0 rfl rfl kk51 rfl ⟨rfl, trivial⟩) hf_ hs_ ⟨(), rfl, hs_.pulls [] rfl⟩
    refine TW.skip ?_
    refine TE.block_normal ?_
    refine TE.next ?_
    refine TW.region ?_
    refine TO.y (Y.move rfl) rfl rfl rfl ?_
    refine TO.y (Y.add rfl rfl) rfl rfl rfl ?_
    refine TO.y (Y.assign rfl) rfl rfl rfl ?_
    refine TO.nil ?_
    exact TE.lp_go () [0] ⟨rfl, rfl, rfl, rfl, rfl, trivial⟩ rfl
   refine TW.exit ?_
   refine TE.then_exit ?_
   refine TE.lp_exit ?_
   refine TE.block_exit ?_
   exact TE.jn_go () [0] ⟨rfl, trivial⟩ rfl
  refine TE.next ?_
  refine TW.seq ?_
  refine TW.region ?_
  refine TO.y (Y.build (cells := [strV ([]), .int .i64 (0 : Int), .bool false, strV ([])]) [] kp51 kz51 trivial rfl) rfl rfl rfl ?_
  refine TO.ef0 (Ef.store_box (us := [strV ([]), .int .i64 (0 : Int), .bool false, strV ([])]) (vs' := [strV ([]), .int .i64 (0 : Int), .bool false, strV ([])]) (is' := [.box B1 51 [strV ([]), .int .i64 (0 : Int), .bool false, strV ([])]]) 0 kk51 rfl rfl rfl (Cel.plain rfl rfl) rfl rfl rfl rfl) rfl rfl (fun _ => ?_)
  refine TO.y (Y.assign rfl) rfl rfl rfl ?_
  refine TO.nil ?_
  refine TE.next ?_
  refine TW.ret ?_
  exact TE.leaf fun _ _ hf_ hs_ => ret_any (rs := [.cell 6 51, .tmp 7]) (vs := [.agg #[strV ([]), .int .i64 (0 : Int), .bool false, strV ([])], .bool false]) (.inl rfl) rfl (RV.cell 0 rfl rfl kk51 rfl ⟨rfl, trivial⟩) hf_ hs_ ⟨(), rfl, hs_.pulls [] rfl⟩

/-- loop.example/g00950/spec.l15Key -/
noncomputable def spec_l15Key (l : List Ent) (snaps : List Int) (bottom : Bool) : Option (List Ent) :=
  bindC (loopO (fun (S2 : Int × List Ent) => if (decide (S2.1 < ((l.length : Nat) : Int))) = true then (bindC (loopO (fun (S7 : Bool × Int) => if (decide (S7.2 < ((snaps.length : Nat) : Int))) = true then ((idx l S2.1).bind fun E12 =>
  (idx snaps S7.2).bind fun E14 =>
  (spec_l9Get l E12.Key E14).bind fun R16 =>
  (if S7.1 = true then (some true)
  else (if R16.2 = true then (some (decide (R16.1.Seq = E12.Seq)))
  else (some false))).bind (fun (T25 : Bool) =>
  some (.go (T25, IntKind.i64.wrap (S7.2 + (1 : Int))))))
  else (some (.done (.go S7.1))))
  (decide (S2.1 = (0 : Int)), (0 : Int)))
  (fun (T9 : Bool) => bindC (if T9 = true then ((idx l S2.1).bind fun E32 =>
  (app 48 S2.2 ([E32])).bind fun E36 =>
  some (.go E36))
  else (some (.go S2.2)))
  (fun (T29 : List Ent) => some (.go (IntKind.i64.wrap (S2.1 + (1 : Int)), T29)))))
  else (some (.done (.go S2.2))))
  ((0 : Int), ([] : List Ent)))
  (fun (T4 : List Ent) => bindC (loopO (fun (S38 : List Ent) => (if bottom = true then (if (decide (((S38.length : Nat) : Int) > (0 : Int))) = true then ((idx S38 (IntKind.i64.wrap (((S38.length : Nat) : Int) - (1 : Int)))).bind fun E46 =>
  some E46.Del)
  else (some false))
  else (some false)).bind (fun (T42 : Bool) =>
  if T42 = true then ((piece S38 (0 : Int) (IntKind.i64.wrap (((S38.length : Nat) : Int) - (1 : Int)))).bind fun E50 =>
  (app 48 ([] : List Ent) E50).bind fun E53 =>
  some (.go E53))
  else (some (.done (.go S38)))))
  T4)
  (fun (T40 : List Ent) => some T40))

theorem spec_l15Key_con (l : List Ent) (snaps : List Int) (bottom : Bool) (V_l0 : Value) (V_snaps0 : Value) (r : List Ent) (hm : spec_l15Key l snaps bottom = some r) :
    Con Try.prog 59 [V_l0, V_snaps0, .bool bottom] [] [(V_l0, lc l), (V_snaps0, lc snaps)] (fun X : Value => X) (fun X => [.own X (lc r)]) := by
  refine Con.intro (args := [V_l0, V_snaps0, .bool bottom]) (n := 87) (val := fun _ (X : Value) => X) (post := fun r X => [.own X (lc r)]) (m := spec_l15Key l snaps bottom) Try.func59 rfl rfl rfl hm ?_
  intro w S hrd
  have HB_V_l0 := hrd _ (.head _)
  have HB_V_snaps0 := hrd _ (.tail _ (.head _))
  clear hrd
  unfold spec_l15Key
  refine TW.seq ?_
  refine TW.region ?_
  refine TO.y (Y.assign rfl) rfl rfl rfl ?_
  refine TO.nil ?_
  refine TE.next ?_
  refine TW.seq ?_
  refine TW.region ?_
  refine TO.ef (Ef.buildSlice (α := Ent) (Vs := []) ([] : List Ent) ke28 kz51 rfl rfl rfl rfl rfl) rfl rfl rfl (fun B1 => ?_)
  refine TO.y (Y.assign rfl) rfl rfl rfl ?_
  refine TO.nil ?_
  refine TE.next ?_
  refine TW.seq ?_
  refine TW.seq ?_
  refine TW.region ?_
  refine TO.y (Y.assign rfl) rfl rfl rfl ?_
  refine TO.nil ?_
  refine TE.next ?_
  refine TW.joinX (τ := List Ent) (X := Value) (fun _ X => [(2, .bool bottom), (7, X)]) (fun T X => [.own X (lc T)]) ?_ (fun T4 X5 => ?_)
  ·refine TW.block ?_
   refine TW.loopX (σ := Int × List Ent) (X := Value) (fun T X => [(0, V_l0), (1, V_snaps0), (2, .bool bottom), (7, X), (8, .int .i64 T.1)]) (fun T X => [.own X (lc T.2)]) (.slice (some ⟨B1, 0, none⟩) 0 0) [0] ⟨rfl, rfl, rfl, rfl, rfl, trivial⟩ rfl (fun S2 X3 => ?_)
   refine TW.seq ?_
   refine TW.seq ?_
   refine TW.region ?_
   refine TO.y (Y.move rfl) rfl rfl rfl ?_
   refine TO.y (Y.move rfl) rfl rfl rfl ?_
   refine TO.y (Y.len (l := l) ke28 (Base.can HB_V_l0) rfl) rfl rfl rfl ?_
   refine TO.y (Y.lss rfl rfl) rfl rfl rfl ?_
   refine TO.nil ?_
   refine TE.next ?_
   refine TW.cond rfl (fun H6 => ?_) (fun H6 => ?_)
   ·refine TW.skip ?_
    refine TE.next ?_
    refine TW.seq ?_
    refine TW.block ?_
    refine TW.seq ?_
    refine TW.region ?_
    refine TO.y (Y.move rfl) rfl rfl rfl ?_
    refine TO.y (Y.eql rfl rfl) rfl rfl rfl ?_
    refine TO.y (Y.assign rfl) rfl rfl rfl ?_
    refine TO.nil ?_
    refine TE.next ?_
    refine TW.seq ?_
    refine TW.seq ?_
    refine TW.region ?_
    refine TO.y (Y.assign rfl) rfl rfl rfl ?_
    refine TO.nil ?_
    refine TE.next ?_
    refine TW.joinX (τ := Bool) (X := Unit) (fun T _ => [(0, V_l0), (1, V_snaps0), (2, .bool bottom), (7, X3), (8, .int .i64 S2.1), (9, .bool T)]) (fun _ _ => [.own X3 (lc S2.2)]) ?_ (fun T9 X10 => ?_)
    ·refine TW.block ?_
     refine TW.loopX (σ := Bool × Int) (X := Unit) (fun T _ => [(0, V_l0), (1, V_snaps0), (2, .bool bottom), (7, X3), (8, .int .i64 S2.1), (9, .bool T.1), (10, .int .i64 T.2)]) (fun _ _ => [.own X3 (lc S2.2)]) () [0] ⟨rfl, rfl, rfl, rfl, rfl, rfl, rfl, trivial⟩ rfl (fun S7 X8 => ?_)
     refine TW.seq ?_
     refine TW.seq ?_
     refine TW.region ?_
     refine TO.y (Y.move rfl) rfl rfl rfl ?_
     refine TO.y (Y.move rfl) rfl rfl rfl ?_
     refine TO.y (Y.len (l := snaps) ke24 (Base.can HB_V_snaps0) rfl) rfl rfl rfl ?_
     refine TO.y (Y.lss rfl rfl) rfl rfl rfl ?_
     refine TO.nil ?_
     refine TE.next ?_
     refine TW.cond rfl (fun H11 => ?_) (fun H11 => ?_)
     ·refine TW.skip ?_
      refine TE.next ?_
      refine TW.seq ?_
      refine TW.block ?_
      refine TW.seq ?_
      refine TW.bind fun E12 H13 => ?_
      refine TW.bind fun E14 H15 => ?_
      refine TW.bind fun R16 H17 => ?_
      refine TW.joinU (X := Nat) (fun _ X => [(0, V_l0), (1, V_snaps0), (2, .bool bottom), (7, X3), (8, .int .i64 S2.1), (9, .bool S7.1), (10, .int .i64 S7.2), (11, .pointer (some ⟨X, 0, none⟩)), (12, .bool R16.2)]) (fun _ X => [.box X 51 [strV R16.1.Key, .int .i64 R16.1.Seq, .bool R16.1.Del, strV R16.1.Val], .own X3 (lc S2.2)]) ?_ (fun _ X22 => ?_)
      ·refine TW.draw (isH := [.own X3 (lc S2.2)]) hMix ?_
       refine TA.y 0 [0] rfl (Y.move rfl) rfl rfl rfl (by kernel_rfl) rfl ?_
       refine TA.y 1 [0] rfl (Y.move rfl) rfl rfl rfl (by kernel_rfl) rfl ?_
       refine TA.y 2 [0] rfl (Y.move rfl) rfl rfl rfl (by kernel_rfl) rfl ?_
       refine TA.y 3 [0] rfl (Y.index ke28 (Base.can HB_V_l0) H13 rfl rfl) rfl rfl rfl (by kernel_rfl) rfl ?_
       refine TA.y 4 [0] rfl (Y.field_el kf51_0 (Base.can HB_V_l0) (idx_get H13).2.2 rfl rfl) rfl rfl rfl (by kernel_rfl) rfl ?_
       refine TA.y 5 [0] rfl (Y.load_el (us := [strV E12.Key]) (u := strV E12.Key) kk9 rfl (Base.can HB_V_l0) (idx_get H13).2.2 rfl rfl rfl rfl rfl) rfl rfl rfl (by kernel_rfl) rfl ?_
       refine TA.y 6 [0] rfl (Y.move rfl) rfl rfl rfl (by kernel_rfl) rfl ?_
       refine TA.y 7 [0] rfl (Y.move rfl) rfl rfl rfl (by kernel_rfl) rfl ?_
       refine TA.y 8 [0] rfl (Y.index ke24 (Base.can HB_V_snaps0) H15 rfl rfl) rfl rfl rfl (by kernel_rfl) rfl ?_
       refine TA.y 9 [0] rfl (Y.load_el (us := [.int .i64 E14]) (u := .int .i64 E14) kk3 rfl (Base.can HB_V_snaps0) (idx_get H15).2.2 rfl rfl rfl rfl rfl) rfl rfl rfl (by kernel_rfl) rfl ?_
       refine TA.two 10 14 (by kernel_rfl) ?_ ?_
       ·refine TX.ef [0] rfl (Ef.call (rest := [.own X3 (lc S2.2)]) [0] (spec_l9Get_con l E12.Key E14 V_l0 R16 H17) kc81 rfl rfl ⟨(Base.can HB_V_l0), trivial⟩) rfl rfl rfl (fun _ => rfl) (fun _ => ?_)
        refine TA.y 11 [0] rfl (Y.move rfl) rfl rfl rfl (by kernel_rfl) rfl ?_
        refine TA.y 12 [0] rfl (Y.extract rfl rfl) rfl rfl rfl (by kernel_rfl) rfl ?_
        refine TA.y 13 [0] rfl (Y.extract rfl rfl) rfl rfl rfl (by kernel_rfl) rfl ?_
        refine TA.one 14 (by kernel_rfl) ?_
        refine TX.ef [1] rfl (Ef.alloc kz51 rfl) rfl rfl rfl (fun _ => rfl) (fun B25 => ?_)
        refine TA.one 15 (by kernel_rfl) ?_
        refine TX.ef0 [1] rfl (Ef.store_box (us := [strV R16.1.Key, .int .i64 R16.1.Seq, .bool R16.1.Del, strV R16.1.Val]) (vs' := [strV R16.1.Key, .int .i64 R16.1.Seq, .bool R16.1.Del, strV R16.1.Val]) (is' := [.box B25 51 [strV R16.1.Key, .int .i64 R16.1.Seq, .bool R16.1.Del, strV R16.1.Val], .own X3 (lc S2.2)]) 0 kk51 rfl rfl rfl (Cel.plain rfl rfl) rfl rfl rfl rfl) rfl rfl (fun _ => rfl) (fun _ => ?_)
        refine TA.y 16 [1] rfl (Y.assign rfl) rfl rfl rfl (by kernel_rfl) rfl ?_
        refine TA.nil (by kernel_rfl) ?_
        exact TE.jb_go B25 [0, 0] ⟨rfl, rfl, rfl, rfl, rfl, rfl, rfl, rfl, rfl, trivial⟩ rfl
       refine TX.ef [1] rfl (Ef.alloc kz51 rfl) rfl rfl rfl (fun _ => rfl) (fun B24 => ?_)
       refine TA.one 10 (by kernel_rfl) ?_
       refine TX.ef [1] rfl (Ef.call (rest := [.box B24 51 [strV ([]), .int .i64 (0 : Int), .bool false, strV ([])], .own X3 (lc S2.2)]) [0, 0] (spec_l9Get_con l E12.Key E14 V_l0 R16 H17) kc81 rfl rfl ⟨(Base.can HB_V_l0), trivial⟩) rfl rfl rfl (fun _ => rfl) (fun _ => ?_)
       refine TA.y 11 [1] rfl (Y.move rfl) rfl rfl rfl (by kernel_rfl) rfl ?_
       refine TA.y 12 [1] rfl (Y.extract rfl rfl) rfl rfl rfl (by kernel_rfl) rfl ?_
       refine TA.y 13 [1] rfl (Y.extract rfl rfl) rfl rfl rfl (by kernel_rfl) rfl ?_
       refine TA.one 15 (by kernel_rfl) ?_
       refine TX.ef0 [1] rfl (Ef.store_box (us := [strV R16.1.Key, .int .i64 R16.1.Seq, .bool R16.1.Del, strV R16.1.Val]) (vs' := [strV R16.1.Key, .int .i64 R16.1.Seq, .bool R16.1.Del, strV R16.1.Val]) (is' := [.box B24 51 [strV R16.1.Key, .int .i64 R16.1.Seq, .bool R16.1.Del, strV R16.1.Val], .own X3 (lc S2.2)]) 0 kk51 rfl rfl rfl (Cel.plain rfl rfl) rfl rfl rfl rfl) rfl rfl (fun _ => rfl) (fun _ => ?_)
       refine TA.y 16 [1] rfl (Y.assign rfl) rfl rfl rfl (by kernel_rfl) rfl ?_
       refine TA.nil (by kernel_rfl) ?_
       exact TE.jb_go B24 [0, 0] ⟨rfl, rfl, rfl, rfl, rfl, rfl, rfl, rfl, rfl, trivial⟩ rfl
      refine TE.next ?_
      refine TW.joinBX (τ := Bool) (X := Unit) (fun T _ => [(0, V_l0), (1, V_snaps0), (2, .bool bottom), (7, X3), (8, .int .i64 S2.1), (9, .bool T), (10, .int .i64 S7.2)]) (fun _ _ => [.own X3 (lc S2.2)]) ?_ (fun T25 X26 => ?_)
      ·refine TW.draw (isH := [.box X22 51 [strV R16.1.Key, .int .i64 R16.1.Seq, .bool R16.1.Del, strV R16.1.Val], .own X3 (lc S2.2)]) hMix ?_
       refine TA.y 0 [0, 0] rfl (Y.move rfl) rfl rfl rfl (by kernel_rfl) rfl ?_
       refine TA.y 1 [0, 0] rfl (Y.move rfl) rfl rfl rfl (by kernel_rfl) rfl ?_
       refine TA.ite (b := S7.1) (fun H27 => ?_) (fun H27 => ?_)
       ·refine TA.off 2 [0, 0] rfl (Gd.at 1 false 43 S7.1 rfl rfl rfl (beq_tf H27)) rfl rfl (by kernel_rfl) rfl ?_
        refine TA.off 3 [0, 0] rfl (Gd.at 1 false 43 S7.1 rfl rfl rfl (beq_tf H27)) rfl rfl (by kernel_rfl) rfl ?_
        refine TA.off 4 [0, 0] rfl (Gd.un 3 true 45 rfl rfl rfl) rfl rfl (by kernel_rfl) rfl ?_
        refine TA.off 5 [0, 0] rfl (Gd.un 3 true 45 rfl rfl rfl) rfl rfl (by kernel_rfl) rfl ?_
        refine TA.off 6 [0, 0] rfl (Gd.un 3 true 45 rfl rfl rfl) rfl rfl (by kernel_rfl) rfl ?_
        refine TA.off 7 [0, 0] rfl (Gd.un 3 true 45 rfl rfl rfl) rfl rfl (by kernel_rfl) rfl ?_
        refine TA.off 8 [0, 0] rfl (Gd.un 3 true 45 rfl rfl rfl) rfl rfl (by kernel_rfl) rfl ?_
        refine TA.off 9 [0, 0] rfl (Gd.un 3 true 45 rfl rfl rfl) rfl rfl (by kernel_rfl) rfl ?_
        refine TA.off 10 [0, 0] rfl (Gd.un 3 true 45 rfl rfl rfl) rfl rfl (by kernel_rfl) rfl ?_
        refine TA.off 11 [0, 0] rfl (Gd.un 3 true 45 rfl rfl rfl) rfl rfl (by kernel_rfl) rfl ?_
        refine TA.off 12 [0, 0] rfl (Gd.at 1 false 43 S7.1 rfl rfl rfl (beq_tf H27)) rfl rfl (by kernel_rfl) rfl ?_
        refine TA.y 13 [0, 0] rfl (Y.pick_t H27 rfl rfl) rfl rfl rfl (by kernel_rfl) rfl ?_
        refine TA.y 14 [0, 0] rfl (Y.assign rfl) rfl rfl rfl (by kernel_rfl) rfl ?_
        refine TA.nil (by kernel_rfl) ?_
        exact TE.jb_go () [1] ⟨rfl, rfl, rfl, rfl, rfl, rfl, rfl, trivial⟩ rfl
       refine TA.y 2 [0, 0] rfl (Y.move rfl) (Gd.at 1 false 43 S7.1 rfl rfl rfl (beq_ff H27)) rfl rfl (by kernel_rfl) rfl ?_
       refine TA.y 3 [0, 0] rfl (Y.move rfl) (Gd.at 1 false 43 S7.1 rfl rfl rfl (beq_ff H27)) rfl rfl (by kernel_rfl) rfl ?_
       refine TA.ite (b := R16.2) (fun H28 => ?_) (fun H28 => ?_)
       ·refine TA.y 4 [0, 0] rfl (Y.field_box kf51_1 rfl rfl) (Gd.at 3 true 45 R16.2 rfl rfl rfl (beq_tt H28)) rfl rfl (by kernel_rfl) rfl ?_
        refine TA.y 5 [0, 0] rfl (Y.load_box (v := .int .i64 R16.1.Seq) 0 kk3 rfl rfl rfl) (Gd.at 3 true 45 R16.2 rfl rfl rfl (beq_tt H28)) rfl rfl (by kernel_rfl) rfl ?_
        refine TA.y 6 [0, 0] rfl (Y.move rfl) (Gd.at 3 true 45 R16.2 rfl rfl rfl (beq_tt H28)) rfl rfl (by kernel_rfl) rfl ?_
        refine TA.y 7 [0, 0] rfl (Y.move rfl) (Gd.at 3 true 45 R16.2 rfl rfl rfl (beq_tt H28)) rfl rfl (by kernel_rfl) rfl ?_
        refine TA.y 8 [0, 0] rfl (Y.index ke28 (Base.can HB_V_l0) H13 rfl rfl) (Gd.at 3 true 45 R16.2 rfl rfl rfl (beq_tt H28)) rfl rfl (by kernel_rfl) rfl ?_
        refine TA.y 9 [0, 0] rfl (Y.field_el kf51_1 (Base.can HB_V_l0) (idx_get H13).2.2 rfl rfl) (Gd.at 3 true 45 R16.2 rfl rfl rfl (beq_tt H28)) rfl rfl (by kernel_rfl) rfl ?_
        refine TA.y 10 [0, 0] rfl (Y.load_el (us := [.int .i64 E12.Seq]) (u := .int .i64 E12.Seq) kk3 rfl (Base.can HB_V_l0) (idx_get H13).2.2 rfl rfl rfl rfl rfl) (Gd.at 3 true 45 R16.2 rfl rfl rfl (beq_tt H28)) rfl rfl (by kernel_rfl) rfl ?_
        refine TA.y 11 [0, 0] rfl (Y.eql rfl rfl) (Gd.at 3 true 45 R16.2 rfl rfl rfl (beq_tt H28)) rfl rfl (by kernel_rfl) rfl ?_
        refine TA.y 12 [0, 0] rfl (Y.pick_t H28 rfl rfl) (Gd.at 1 false 43 S7.1 rfl rfl rfl (beq_ff H27)) rfl rfl (by kernel_rfl) rfl ?_
        refine TA.y 13 [0, 0] rfl (Y.pick_f H27 rfl rfl) rfl rfl rfl (by kernel_rfl) rfl ?_
        refine TA.y 14 [0, 0] rfl (Y.assign rfl) rfl rfl rfl (by kernel_rfl) rfl ?_
        refine TA.nil (by kernel_rfl) ?_
        exact TE.jb_go () [1] ⟨rfl, rfl, rfl, rfl, rfl, rfl, rfl, trivial⟩ rfl
       refine TA.off 4 [0, 0] rfl (Gd.at 3 true 45 R16.2 rfl rfl rfl (beq_ft H28)) rfl rfl (by kernel_rfl) rfl ?_
       refine TA.off 5 [0, 0] rfl (Gd.at 3 true 45 R16.2 rfl rfl rfl (beq_ft H28)) rfl rfl (by kernel_rfl) rfl ?_
       refine TA.off 6 [0, 0] rfl (Gd.at 3 true 45 R16.2 rfl rfl rfl (beq_ft H28)) rfl rfl (by kernel_rfl) rfl ?_
       refine TA.off 7 [0, 0] rfl (Gd.at 3 true 45 R16.2 rfl rfl rfl (beq_ft H28)) rfl rfl (by kernel_rfl) rfl ?_
       refine TA.off 8 [0, 0] rfl (Gd.at 3 true 45 R16.2 rfl rfl rfl (beq_ft H28)) rfl rfl (by kernel_rfl) rfl ?_
       refine TA.off 9 [0, 0] rfl (Gd.at 3 true 45 R16.2 rfl rfl rfl (beq_ft H28)) rfl rfl (by kernel_rfl) rfl ?_
       refine TA.off 10 [0, 0] rfl (Gd.at 3 true 45 R16.2 rfl rfl rfl (beq_ft H28)) rfl rfl (by kernel_rfl) rfl ?_
       refine TA.off 11 [0, 0] rfl (Gd.at 3 true 45 R16.2 rfl rfl rfl (beq_ft H28)) rfl rfl (by kernel_rfl) rfl ?_
       refine TA.y 12 [0, 0] rfl (Y.pick_f H28 rfl rfl) (Gd.at 1 false 43 S7.1 rfl rfl rfl (beq_ff H27)) rfl rfl (by kernel_rfl) rfl ?_
       refine TA.y 13 [0, 0] rfl (Y.pick_f H27 rfl rfl) rfl rfl rfl (by kernel_rfl) rfl ?_
       refine TA.y 14 [0, 0] rfl (Y.assign rfl) rfl rfl rfl (by kernel_rfl) rfl ?_
       refine TA.nil (by kernel_rfl) ?_
       exact TE.jb_go () [1] ⟨rfl, rfl, rfl, rfl, rfl, rfl, rfl, trivial⟩ rfl
      refine TE.block_normal ?_
      refine TE.next ?_
      refine TW.region ?_
      refine TO.y (Y.move rfl) rfl rfl rfl ?_
      refine TO.y (Y.add rfl rfl) rfl rfl rfl ?_
      refine TO.y (Y.assign rfl) rfl rfl rfl ?_
      refine TO.nil ?_
      exact TE.lp_go () [0] ⟨rfl, rfl, rfl, rfl, rfl, rfl, rfl, trivial⟩ rfl
     refine TW.exit ?_
     refine TE.then_exit ?_
     refine TE.lp_exit ?_
     refine TE.block_exit ?_
     exact TE.jn_go () [0] ⟨rfl, rfl, rfl, rfl, rfl, rfl, trivial⟩ rfl
    refine TE.next ?_
    refine TW.seq ?_
    refine TW.region ?_
    refine TO.y (Y.move rfl) rfl rfl rfl ?_
    refine TO.nil ?_
    refine TE.next ?_
    refine TW.joinX (τ := List Ent) (X := Value) (fun _ X => [(0, V_l0), (1, V_snaps0), (2, .bool bottom), (7, X), (8, .int .i64 S2.1)]) (fun T X => [.own X (lc T)]) ?_ (fun T29 X30 => ?_)
    ·refine TW.cond rfl (fun H31 => ?_) (fun H31 => ?_)
     ·refine TW.region ?_
      refine TO.y (Y.move rfl) rfl rfl rfl ?_
      refine TO.y (Y.move rfl) rfl rfl rfl ?_
      refine TO.y (Y.move rfl) rfl rfl rfl ?_
      refine TO.bind fun E32 H33 => ?_
      refine TO.y (Y.index ke28 (Base.can HB_V_l0) H33 rfl rfl) rfl rfl rfl ?_
      refine TO.y (Y.load_el (us := [strV E32.Key, .int .i64 E32.Seq, .bool E32.Del, strV E32.Val]) (u := .agg #[strV E32.Key, .int .i64 E32.Seq, .bool E32.Del, strV E32.Val]) kk51 rfl (Base.can HB_V_l0) (idx_get H33).2.2 rfl rfl rfl rfl rfl) rfl rfl rfl ?_
      refine TO.ef (Ef.buildSlice (α := Ent) (Vs := [.agg #[strV E32.Key, .int .i64 E32.Seq, .bool E32.Del, strV E32.Val]]) [E32] ke28 kz51 rfl rfl rfl rfl rfl) rfl rfl rfl (fun B34 => ?_)
      refine TO.bind fun E36 H37 => ?_
      refine TO.ef (Ef.append (α := Ent) (is' := [.own (.slice (some ⟨B34, 0, none⟩) 1 1) (lc ([E32]))]) [1, 0] H37 ke28 kz51 rfl rfl rfl rfl rfl (Can.own 0 rfl)) rfl rfl rfl (fun V35 => ?_)
      refine TO.y (Y.assign rfl) rfl rfl rfl ?_
      refine TO.nil ?_
      exact TE.jn_go V35 [0] ⟨rfl, rfl, rfl, rfl, rfl, trivial⟩ rfl
     refine TW.skip ?_
     exact TE.jn_go X3 [0] ⟨rfl, rfl, rfl, rfl, rfl, trivial⟩ rfl
    refine TE.block_normal ?_
    refine TE.next ?_
    refine TW.region ?_
    refine TO.y (Y.move rfl) rfl rfl rfl ?_
    refine TO.y (Y.add rfl rfl) rfl rfl rfl ?_
    refine TO.y (Y.assign rfl) rfl rfl rfl ?_
    refine TO.nil ?_
    exact TE.lp_go X30 [0] ⟨rfl, rfl, rfl, rfl, rfl, trivial⟩ rfl
   refine TW.exit ?_
   refine TE.then_exit ?_
   refine TE.lp_exit ?_
   refine TE.block_exit ?_
   exact TE.jn_go X3 [0] ⟨rfl, rfl, trivial⟩ rfl
  refine TE.next ?_
  refine TW.seq ?_
  refine TW.joinX (τ := List Ent) (X := Value) (fun _ X => [(7, X)]) (fun T X => [.own X (lc T)]) ?_ (fun T40 X41 => ?_)
  ·refine TW.block ?_
   refine TW.loopX (σ := List Ent) (X := Value) (fun _ X => [(2, .bool bottom), (7, X)]) (fun T X => [.own X (lc T)]) X5 [0] ⟨rfl, rfl, trivial⟩ rfl (fun S38 X39 => ?_)
   refine TW.seq ?_
   refine TW.seq ?_
   refine TW.joinBX (τ := Bool) (X := Unit) (fun T _ => [(2, .bool bottom), (7, X39), (78, .bool T)]) (fun _ _ => [.own X39 (lc S38)]) ?_ (fun T42 X43 => ?_)
   ·refine TW.region ?_
    refine TO.y (Y.move rfl) rfl rfl rfl ?_
    refine TO.y (Y.move rfl) rfl rfl rfl ?_
    refine TO.ite (b := bottom) (fun H44 => ?_) (fun H44 => ?_)
    ·refine TO.y (Y.move rfl) (Gd.at 1 true 65 bottom rfl rfl rfl (beq_tt H44)) rfl rfl ?_
     refine TO.y (Y.len (l := S38) ke28 (Can.own 0 rfl) rfl) (Gd.at 1 true 65 bottom rfl rfl rfl (beq_tt H44)) rfl rfl ?_
     refine TO.y (Y.gtr rfl rfl) (Gd.at 1 true 65 bottom rfl rfl rfl (beq_tt H44)) rfl rfl ?_
     refine TO.y (Y.pick_t H44 rfl rfl) rfl rfl rfl ?_
     refine TO.y (Y.move rfl) rfl rfl rfl ?_
     refine TO.ite (b := decide (((S38.length : Nat) : Int) > (0 : Int))) (fun H45 => ?_) (fun H45 => ?_)
     ·refine TO.y (Y.move rfl) (Gd.at 6 true 70 (decide (((S38.length : Nat) : Int) > (0 : Int))) rfl rfl rfl (beq_tt H45)) rfl rfl ?_
      refine TO.y (Y.move rfl) (Gd.at 6 true 70 (decide (((S38.length : Nat) : Int) > (0 : Int))) rfl rfl rfl (beq_tt H45)) rfl rfl ?_
      refine TO.y (Y.len (l := S38) ke28 (Can.own 0 rfl) rfl) (Gd.at 6 true 70 (decide (((S38.length : Nat) : Int) > (0 : Int))) rfl rfl rfl (beq_tt H45)) rfl rfl ?_
      refine TO.y (Y.sub rfl rfl) (Gd.at 6 true 70 (decide (((S38.length : Nat) : Int) > (0 : Int))) rfl rfl rfl (beq_tt H45)) rfl rfl ?_
      refine TO.bind fun E46 H47 => ?_
      refine TO.y (Y.index ke28 (Can.own 0 rfl) H47 rfl rfl) (Gd.at 6 true 70 (decide (((S38.length : Nat) : Int) > (0 : Int))) rfl rfl rfl (beq_tt H45)) rfl rfl ?_
      refine TO.y (Y.field_el kf51_2 (Can.own 0 rfl) (idx_get H47).2.2 rfl rfl) (Gd.at 6 true 70 (decide (((S38.length : Nat) : Int) > (0 : Int))) rfl rfl rfl (beq_tt H45)) rfl rfl ?_
      refine TO.y (Y.load_el (us := [.bool E46.Del]) (u := .bool E46.Del) kk4 rfl (Can.own 0 rfl) (idx_get H47).2.2 rfl rfl rfl rfl rfl) (Gd.at 6 true 70 (decide (((S38.length : Nat) : Int) > (0 : Int))) rfl rfl rfl (beq_tt H45)) rfl rfl ?_
      refine TO.y (Y.pick_t H45 rfl rfl) rfl rfl rfl ?_
      refine TO.nil ?_
      exact TE.jb_go () [0] ⟨rfl, rfl, rfl, trivial⟩ rfl
     refine TO.off (Gd.at 6 true 70 (decide (((S38.length : Nat) : Int) > (0 : Int))) rfl rfl rfl (beq_ft H45)) rfl rfl ?_
     refine TO.off (Gd.at 6 true 70 (decide (((S38.length : Nat) : Int) > (0 : Int))) rfl rfl rfl (beq_ft H45)) rfl rfl ?_
     refine TO.off (Gd.at 6 true 70 (decide (((S38.length : Nat) : Int) > (0 : Int))) rfl rfl rfl (beq_ft H45)) rfl rfl ?_
     refine TO.off (Gd.at 6 true 70 (decide (((S38.length : Nat) : Int) > (0 : Int))) rfl rfl rfl (beq_ft H45)) rfl rfl ?_
     refine TO.off (Gd.at 6 true 70 (decide (((S38.length : Nat) : Int) > (0 : Int))) rfl rfl rfl (beq_ft H45)) rfl rfl ?_
     refine TO.off (Gd.at 6 true 70 (decide (((S38.length : Nat) : Int) > (0 : Int))) rfl rfl rfl (beq_ft H45)) rfl rfl ?_
     refine TO.off (Gd.at 6 true 70 (decide (((S38.length : Nat) : Int) > (0 : Int))) rfl rfl rfl (beq_ft H45)) rfl rfl ?_
     refine TO.y (Y.pick_f H45 rfl rfl) rfl rfl rfl ?_
     refine TO.nil ?_
     exact TE.jb_go () [0] ⟨rfl, rfl, rfl, trivial⟩ rfl
    refine TO.off (Gd.at 1 true 65 bottom rfl rfl rfl (beq_ft H44)) rfl rfl ?_
    refine TO.off (Gd.at 1 true 65 bottom rfl rfl rfl (beq_ft H44)) rfl rfl ?_
    refine TO.off (Gd.at 1 true 65 bottom rfl rfl rfl (beq_ft H44)) rfl rfl ?_
    refine TO.y (Y.pick_f H44 rfl rfl) rfl rfl rfl ?_
    refine TO.y (Y.move rfl) rfl rfl rfl ?_
    refine TO.off (Gd.at 6 true 70 false rfl rfl rfl rfl) rfl rfl ?_
    refine TO.off (Gd.at 6 true 70 false rfl rfl rfl rfl) rfl rfl ?_
    refine TO.off (Gd.at 6 true 70 false rfl rfl rfl rfl) rfl rfl ?_
    refine TO.off (Gd.at 6 true 70 false rfl rfl rfl rfl) rfl rfl ?_
    refine TO.off (Gd.at 6 true 70 false rfl rfl rfl rfl) rfl rfl ?_
    refine TO.off (Gd.at 6 true 70 false rfl rfl rfl rfl) rfl rfl ?_
    refine TO.off (Gd.at 6 true 70 false rfl rfl rfl rfl) rfl rfl ?_
    refine TO.y (Y.pick_f rfl rfl rfl) rfl rfl rfl ?_
    refine TO.nil ?_
    exact TE.jb_go () [0] ⟨rfl, rfl, rfl, trivial⟩ rfl
   refine TE.next ?_
   refine TW.cond rfl (fun H48 => ?_) (fun H48 => ?_)
   ·refine TW.skip ?_
    refine TE.next ?_
    refine TW.block ?_
    refine TW.region ?_
    refine TO.ef (Ef.buildSlice (α := Ent) (Vs := []) ([] : List Ent) ke28 kz51 rfl rfl rfl rfl rfl) rfl rfl rfl (fun B49 => ?_)
    refine TO.y (Y.move rfl) rfl rfl rfl ?_
    refine TO.y (Y.move rfl) rfl rfl rfl ?_
    refine TO.y (Y.len (l := S38) ke28 (Can.own 1 rfl) rfl) rfl rfl rfl ?_
    refine TO.y (Y.sub rfl rfl) rfl rfl rfl ?_
    refine TO.bind fun E50 H51 => ?_
    refine TO.y (Y.subs H51 ke28 (Can.own 1 rfl) rfl rfl ⟨_, rfl⟩) rfl rfl rfl ?_
    refine TO.bind fun E53 H54 => ?_
    refine TO.ef (Ef.append (α := Ent) (is' := [.own X39 (lc S38)]) [0, 0] H54 ke28 kz51 rfl rfl rfl rfl rfl (Can.sub H51 rfl (Can.own 1 rfl))) rfl rfl rfl (fun V52 => ?_)
    refine TO.y (Y.assign rfl) rfl rfl rfl ?_
    refine TO.nil ?_
    refine TE.block_normal ?_
    exact TE.lp_go V52 [0] ⟨rfl, rfl, trivial⟩ rfl
   refine TW.exit ?_
   refine TE.then_exit ?_
   refine TE.lp_exit ?_
   refine TE.block_exit ?_
   exact TE.jn_go X39 [0] ⟨rfl, trivial⟩ rfl
  refine TE.next ?_
  refine TW.seq ?_
  refine TW.region ?_
  refine TO.y (Y.move rfl) rfl rfl rfl ?_
  refine TO.y (Y.assign rfl) rfl rfl rfl ?_
  refine TO.nil ?_
  refine TE.next ?_
  refine TW.ret ?_
  exact TE.leaf fun _ _ hf_ hs_ => ret_any (rs := [.tmp 6]) (vs := [X41]) (.inl rfl) rfl ⟨rfl, trivial⟩ hf_ hs_ ⟨X41, rfl, hs_.pulls [0] rfl⟩

/-- loop.example/g00950/spec.CompactEnts -/
noncomputable def spec_CompactEnts (l : List Ent) (snaps : List Int) (bottom : Bool) : Option (List Ent) :=
  (if (decide (((l.length : Nat) : Int) > (400 : Int))) = true then (some true)
  else ((spec_l9Ents l).bind fun R5 =>
  some (!R5))).bind (fun (T2 : Bool) =>
  if T2 = true then (some ([] : List Ent))
  else (bindC (loopO (fun (S9 : Int × List Ent) => if (decide (S9.1 < ((l.length : Nat) : Int))) = true then ((spec_l15Last l S9.1).bind fun R14 =>
  (piece l S9.1 R14).bind fun E17 =>
  (spec_l15Key E17 snaps bottom).bind fun R20 =>
  (app 48 S9.2 R20).bind fun E24 =>
  some (.go (R14, E24)))
  else (some (.done (.go S9.2))))
  ((0 : Int), ([] : List Ent)))
  (fun (T11 : List Ent) => some T11)))

theorem spec_CompactEnts_con (l : List Ent) (snaps : List Int) (bottom : Bool) (V_l0 : Value) (V_snaps0 : Value) (r : List Ent) (hm : spec_CompactEnts l snaps bottom = some r) :
    Con Try.prog 33 [V_l0, V_snaps0, .bool bottom] [] [(V_l0, lc l), (V_snaps0, lc snaps)] (fun X : Value => X) (fun X => [.own X (lc r)]) := by
  refine Con.intro (args := [V_l0, V_snaps0, .bool bottom]) (n := 38) (val := fun _ (X : Value) => X) (post := fun r X => [.own X (lc r)]) (m := spec_CompactEnts l snaps bottom) Try.func33 rfl rfl rfl hm ?_
  intro w S hrd
  have HB_V_l0 := hrd _ (.head _)
  have HB_V_snaps0 := hrd _ (.tail _ (.head _))
  clear hrd
  unfold spec_CompactEnts
  refine TW.seq ?_
  refine TW.region ?_
  refine TO.y (Y.assign rfl) rfl rfl rfl ?_
  refine TO.nil ?_
  refine TE.next ?_
  refine TW.seq ?_
  refine TW.region ?_
  refine TO.ef (Ef.buildSlice (α := Ent) (Vs := []) ([] : List Ent) ke28 kz51 rfl rfl rfl rfl rfl) rfl rfl rfl (fun B1 => ?_)
  refine TO.y (Y.assign rfl) rfl rfl rfl ?_
  refine TO.nil ?_
  refine TE.next ?_
  refine TW.seq ?_
  refine TW.seq ?_
  refine TW.joinBX (τ := Bool) (X := Unit) (fun T _ => [(0, V_l0), (1, V_snaps0), (2, .bool bottom), (7, .slice (some ⟨B1, 0, none⟩) 0 0), (17, .bool T)]) (fun _ _ => [.own (.slice (some ⟨B1, 0, none⟩) 0 0) (lc ([] : List Ent))]) ?_ (fun T2 X3 => ?_)
  ·refine TW.region ?_
   refine TO.y (Y.move rfl) rfl rfl rfl ?_
   refine TO.y (Y.len (l := l) ke28 (Base.can HB_V_l0) rfl) rfl rfl rfl ?_
   refine TO.y (Y.gtr rfl rfl) rfl rfl rfl ?_
   refine TO.y (Y.move rfl) rfl rfl rfl ?_
   refine TO.ite (b := decide (((l.length : Nat) : Int) > (400 : Int))) (fun H4 => ?_) (fun H4 => ?_)
   ·refine TO.off (Gd.at 3 false 13 (decide (((l.length : Nat) : Int) > (400 : Int))) rfl rfl rfl (beq_tf H4)) rfl rfl ?_
    refine TO.off (Gd.at 3 false 13 (decide (((l.length : Nat) : Int) > (400 : Int))) rfl rfl rfl (beq_tf H4)) rfl rfl ?_
    refine TO.off (Gd.at 3 false 13 (decide (((l.length : Nat) : Int) > (400 : Int))) rfl rfl rfl (beq_tf H4)) rfl rfl ?_
    refine TO.y (Y.pick_t H4 rfl rfl) rfl rfl rfl ?_
    refine TO.nil ?_
    exact TE.jb_go () [0] ⟨rfl, rfl, rfl, rfl, rfl, trivial⟩ rfl
   refine TO.y (Y.move rfl) (Gd.at 3 false 13 (decide (((l.length : Nat) : Int) > (400 : Int))) rfl rfl rfl (beq_ff H4)) rfl rfl ?_
   refine TO.bind fun R5 H6 => ?_
   refine TO.ef (Ef.call (rest := [.own (.slice (some ⟨B1, 0, none⟩) 0 0) (lc ([] : List Ent))]) [0] (spec_l9Ents_con l V_l0 R5 H6) kc45 rfl rfl ⟨(Base.can HB_V_l0), trivial⟩) (Gd.at 3 false 13 (decide (((l.length : Nat) : Int) > (400 : Int))) rfl rfl rfl (beq_ff H4)) rfl rfl (fun _ => ?_)
   refine TO.y (Y.not rfl) (Gd.at 3 false 13 (decide (((l.length : Nat) : Int) > (400 : Int))) rfl rfl rfl (beq_ff H4)) rfl rfl ?_
   refine TO.y (Y.pick_f H4 rfl rfl) rfl rfl rfl ?_
   refine TO.nil ?_
   exact TE.jb_go () [0] ⟨rfl, rfl, rfl, rfl, rfl, trivial⟩ rfl
  refine TE.next ?_
  refine TW.cond rfl (fun H8 => ?_) (fun H8 => ?_)
  ·refine TW.seq ?_
   refine TW.region ?_
   refine TO.y (Y.move rfl) rfl rfl rfl ?_
   refine TO.y (Y.assign rfl) rfl rfl rfl ?_
   refine TO.nil ?_
   refine TE.next ?_
   refine TW.ret ?_
   refine TE.then_ret ?_
   exact TE.leaf fun _ _ hf_ hs_ => ret_any (rs := [.tmp 6]) (vs := [.slice (some ⟨B1, 0, none⟩) 0 0]) (.inl rfl) rfl ⟨rfl, trivial⟩ hf_ hs_ ⟨(.slice (some ⟨B1, 0, none⟩) 0 0), rfl, hs_.pulls [0] rfl⟩
  refine TW.skip ?_
  refine TE.next ?_
  refine TW.seq ?_
  refine TW.seq ?_
  refine TW.region ?_
  refine TO.y (Y.assign rfl) rfl rfl rfl ?_
  refine TO.nil ?_
  refine TE.next ?_
  refine TW.joinX (τ := List Ent) (X := Value) (fun _ X => [(7, X)]) (fun T X => [.own X (lc T)]) ?_ (fun T11 X12 => ?_)
  ·refine TW.block ?_
   refine TW.loopX (σ := Int × List Ent) (X := Value) (fun T X => [(0, V_l0), (1, V_snaps0), (2, .bool bottom), (7, X), (8, .int .i64 T.1)]) (fun T X => [.own X (lc T.2)]) (.slice (some ⟨B1, 0, none⟩) 0 0) [0] ⟨rfl, rfl, rfl, rfl, rfl, trivial⟩ rfl (fun S9 X10 => ?_)
   refine TW.seq ?_
   refine TW.seq ?_
   refine TW.region ?_
   refine TO.y (Y.move rfl) rfl rfl rfl ?_
   refine TO.y (Y.move rfl) rfl rfl rfl ?_
   refine TO.y (Y.len (l := l) ke28 (Base.can HB_V_l0) rfl) rfl rfl rfl ?_
   refine TO.y (Y.lss rfl rfl) rfl rfl rfl ?_
   refine TO.nil ?_
   refine TE.next ?_
   refine TW.cond rfl (fun H13 => ?_) (fun H13 => ?_)
   ·refine TW.skip ?_
    refine TE.next ?_
    refine TW.seq ?_
    refine TW.block ?_
    refine TW.region ?_
    refine TO.y (Y.move rfl) rfl rfl rfl ?_
    refine TO.y (Y.move rfl) rfl rfl rfl ?_
    refine TO.y (Y.move rfl) rfl rfl rfl ?_
    refine TO.y (Y.move rfl) rfl rfl rfl ?_
    refine TO.y (Y.move rfl) rfl rfl rfl ?_
    refine TO.bind fun R14 H15 => ?_
    refine TO.ef (Ef.call (rest := [.own X10 (lc S9.2)]) [0] (spec_l15Last_con l S9.1 V_l0 R14 H15) kc58 rfl rfl ⟨(Base.can HB_V_l0), trivial⟩) rfl rfl rfl (fun _ => ?_)
    refine TO.bind fun E17 H18 => ?_
    have Q19 := Base.sub (sz := 4) H18 rfl HB_V_l0
    refine TO.y (Y.subs H18 ke28 (Base.can HB_V_l0) rfl ⟨_, rfl⟩ ⟨_, rfl⟩) rfl rfl rfl ?_
    refine TO.y (Y.move rfl) rfl rfl rfl ?_
    refine TO.y (Y.move rfl) rfl rfl rfl ?_
    refine TO.bind fun R20 H21 => ?_
    refine TO.ef (Ef.call (rest := [.own X10 (lc S9.2)]) [0] (spec_l15Key_con E17 snaps bottom (subV V_l0 4 S9.1.toNat (R14.toNat - S9.1.toNat)) V_snaps0 R20 H21) kc59 rfl rfl ⟨(Base.can Q19), (Base.can HB_V_snaps0), trivial⟩) rfl rfl rfl (fun Y22 => ?_)
    refine TO.bind fun E24 H25 => ?_
    refine TO.ef (Ef.append (α := Ent) (is' := [.own Y22 (lc R20)]) [1, 0] H25 ke28 kz51 rfl rfl rfl rfl rfl (Can.own 0 rfl)) rfl rfl rfl (fun V23 => ?_)
    refine TO.y (Y.assign rfl) rfl rfl rfl ?_
    refine TO.nil ?_
    refine TE.block_normal ?_
    refine TE.next ?_
    refine TW.region ?_
    refine TO.y (Y.move rfl) rfl rfl rfl ?_
    refine TO.y (Y.move rfl) rfl rfl rfl ?_
    refine TO.ef (Ef.call (rest := [.own V23 (lc E24), .own Y22 (lc R20)]) [0, 0] (spec_l15Last_con l S9.1 V_l0 R14 H15) kc58 rfl rfl ⟨(Base.can HB_V_l0), trivial⟩) rfl rfl rfl (fun _ => ?_)
    refine TO.y (Y.assign rfl) rfl rfl rfl ?_
    refine TO.nil ?_
    exact TE.lp_go V23 [0] ⟨rfl, rfl, rfl, rfl, rfl, trivial⟩ rfl
   refine TW.exit ?_
   refine TE.then_exit ?_
   refine TE.lp_exit ?_
   refine TE.block_exit ?_
   exact TE.jn_go X10 [0] ⟨rfl, trivial⟩ rfl
  refine TE.next ?_
  refine TW.seq ?_
  refine TW.region ?_
  refine TO.y (Y.move rfl) rfl rfl rfl ?_
  refine TO.y (Y.assign rfl) rfl rfl rfl ?_
  refine TO.nil ?_
  refine TE.next ?_
  refine TW.ret ?_
  exact TE.leaf fun _ _ hf_ hs_ => ret_any (rs := [.tmp 6]) (vs := [X12]) (.inl rfl) rfl ⟨rfl, trivial⟩ hf_ hs_ ⟨X12, rfl, hs_.pulls [0] rfl⟩

/-- loop.example/g00950/spec.EngMerge -/
noncomputable def spec_EngMerge (e : Eng) : Option (Eng × Bool) :=
  (spec_EngOk e).bind fun R3 =>
  if (!R3) = true then (some ({ Mem := ([] : List Ent), Tables := ([] : List (List Ent)), Seq := (0 : Int), Snaps := ([] : List Int) : Eng }, false))
  else ((spec_l20Copy e).bind fun R10 =>
  if (decide (((R10.Tables.length : Nat) : Int) = (0 : Int))) = true then (some (R10, false))
  else ((spec_MergeEnts R10.Tables).bind fun R15 =>
  (spec_CompactEnts R15 R10.Snaps true).bind fun R18 =>
  bindC (if (decide (((R18.length : Nat) : Int) > (0 : Int))) = true then ((app 24 ([] : List (List Ent)) ([R18])).bind fun E27 =>
  some (.go E27))
  else (some (.go ([] : List (List Ent)))))
  (fun (T22 : List (List Ent)) => some ({ Mem := R10.Mem, Tables := T22, Seq := R10.Seq, Snaps := R10.Snaps : Eng }, true))))

theorem spec_EngMerge_con (e : Eng) (V_e0 : Value) (V_e1 : Value) (V_e3 : Value) (r : Eng × Bool) (hm : spec_EngMerge e = some r) :
    Con Try.prog 8 [.agg #[V_e0, V_e1, .int .i64 e.Seq, V_e3]] [] [(V_e0, lc e.Mem), (V_e1, lc e.Tables), (V_e3, lc e.Snaps)] (fun X : Value × Value × Value => .tuple #[.agg #[X.1, X.2.1, .int .i64 r.1.Seq, X.2.2], .bool r.2]) (fun X => [.own X.1 (lc r.1.Mem), .own X.2.1 (lc r.1.Tables), .own X.2.2 (lc r.1.Snaps)]) := by
  refine Con.intro (args := [.agg #[V_e0, V_e1, .int .i64 e.Seq, V_e3]]) (n := 35) (val := fun r (X : Value × Value × Value) => .tuple #[.agg #[X.1, X.2.1, .int .i64 r.1.Seq, X.2.2], .bool r.2]) (post := fun r X => [.own X.1 (lc r.1.Mem), .own X.2.1 (lc r.1.Tables), .own X.2.2 (lc r.1.Snaps)]) (m := spec_EngMerge e) Try.func8 rfl rfl rfl hm ?_
  intro w S hrd
  have HB_V_e0 := hrd _ (.head _)
  have HB_V_e1 := hrd _ (.tail _ (.head _))
  have HB_V_e3 := hrd _ (.tail _ (.tail _ (.head _)))
  clear hrd
  unfold spec_EngMerge
  refine TW.seq ?_
  refine TW.region ?_
  refine TO.ef (Ef.box rfl (Cel.agg ⟨(One.can (Base.can HB_V_e0)), (One.can (Base.can HB_V_e1)), (One.plain rfl), (One.can (Base.can HB_V_e3)), trivial⟩)) rfl rfl rfl (fun B1 => ?_)
  refine TO.ef (Ef.alloc kz31 rfl) rfl rfl rfl (fun B2 => ?_)
  refine TO.y (Y.assign rfl) rfl rfl rfl ?_
  refine TO.nil ?_
  refine TE.next ?_
  refine TW.seq ?_
  refine TW.seq ?_
  refine TW.region ?_
  refine TO.y (Y.load_box (v := .agg #[V_e0, V_e1, .int .i64 e.Seq, V_e3]) 1 kk31 rfl rfl rfl) rfl rfl rfl ?_
  refine TO.bind fun R3 H4 => ?_
  refine TO.ef (Ef.call (rest := [.box B2 31 [.slice none 0 0, .slice none 0 0, .int .i64 (0 : Int), .slice none 0 0], .box B1 31 [V_e0, V_e1, .int .i64 e.Seq, V_e3]]) [0, 0] (spec_EngOk_con e V_e0 V_e1 V_e3 R3 H4) kc31 rfl rfl ⟨(Base.can HB_V_e0), (Base.can HB_V_e1), (Base.can HB_V_e3), trivial⟩) rfl rfl rfl (fun _ => ?_)
  refine TO.y (Y.not rfl) rfl rfl rfl ?_
  refine TO.nil ?_
  refine TE.next ?_
  refine TW.cond rfl (fun H6 => ?_) (fun H6 => ?_)
  ·refine TW.seq ?_
   refine TW.region ?_
   refine TO.y (Y.build (cells := [.slice none 0 0, .slice none 0 0, .int .i64 (0 : Int), .slice none 0 0]) [] kp31 kz31 trivial rfl) rfl rfl rfl ?_
   refine TO.ef0 (Ef.store_box (us := [.slice none 0 0, .slice none 0 0, .int .i64 (0 : Int), .slice none 0 0]) (vs' := [.slice none 0 0, .slice none 0 0, .int .i64 (0 : Int), .slice none 0 0]) (is' := [.box B2 31 [.slice none 0 0, .slice none 0 0, .int .i64 (0 : Int), .slice none 0 0], .box B1 31 [V_e0, V_e1, .int .i64 e.Seq, V_e3]]) 0 kk31 rfl rfl rfl (Cel.plain rfl rfl) rfl rfl rfl rfl) rfl rfl (fun _ => ?_)
   refine TO.y (Y.assign rfl) rfl rfl rfl ?_
   refine TO.nil ?_
   refine TE.next ?_
   refine TW.ret ?_
   refine TE.then_ret ?_
   exact TE.leaf fun _ _ hf_ hs_ => ret_any (rs := [.cell 2 31, .tmp 3]) (vs := [.agg #[.slice none 0 0, .slice none 0 0, .int .i64 (0 : Int), .slice none 0 0], .bool false]) (.inl rfl) rfl (RV.cell 0 rfl rfl kk31 rfl ⟨rfl, trivial⟩) hf_ hs_ ⟨((.slice none 0 0), (.slice none 0 0), (.slice none 0 0)), rfl, (((hs_.nilItem 4).nilItem 1).nilItem 1).pulls [2, 1, 0] rfl⟩
  refine TW.skip ?_
  refine TE.next ?_
  refine TW.seq ?_
  refine TW.region ?_
  refine TO.y (Y.load_box (v := .agg #[V_e0, V_e1, .int .i64 e.Seq, V_e3]) 1 kk31 rfl rfl rfl) rfl rfl rfl ?_
  refine TO.bind fun R10 H11 => ?_
  refine TO.ef (Ef.call (rest := [.box B2 31 [.slice none 0 0, .slice none 0 0, .int .i64 (0 : Int), .slice none 0 0], .box B1 31 [V_e0, V_e1, .int .i64 e.Seq, V_e3]]) [0, 0] (spec_l20Copy_con e V_e0 V_e1 V_e3 R10 H11) kc32 rfl rfl ⟨(Base.can HB_V_e0), (Base.can HB_V_e1), (Base.can HB_V_e3), trivial⟩) rfl rfl rfl (fun Y12 => ?_)
  refine TO.ef (Ef.alloc kz31 rfl) rfl rfl rfl (fun B13 => ?_)
  refine TO.ef0 (Ef.store_box (us := [Y12.1, Y12.2.1, .int .i64 R10.Seq, Y12.2.2]) (vs' := [Y12.1, Y12.2.1, .int .i64 R10.Seq, Y12.2.2]) (is' := [.box B13 31 [Y12.1, Y12.2.1, .int .i64 R10.Seq, Y12.2.2], .own Y12.1 (lc R10.Mem), .own Y12.2.1 (lc R10.Tables), .own Y12.2.2 (lc R10.Snaps), .box B2 31 [.slice none 0 0, .slice none 0 0, .int .i64 (0 : Int), .slice none 0 0], .box B1 31 [V_e0, V_e1, .int .i64 e.Seq, V_e3]]) 0 kk31 rfl rfl rfl (Cel.agg ⟨(One.can (Can.own 1 rfl)), (One.can (Can.own 2 rfl)), (One.plain rfl), (One.can (Can.own 3 rfl)), trivial⟩) rfl rfl rfl rfl) rfl rfl (fun _ => ?_)
  refine TO.nil ?_
  refine TE.next ?_
  refine TW.seq ?_
  refine TW.seq ?_
  refine TW.region ?_
  refine TO.y (Y.field_box kf31_1 rfl rfl) rfl rfl rfl ?_
  refine TO.y (Y.load_box (v := Y12.2.1) 0 kk29 rfl rfl rfl) rfl rfl rfl ?_
  refine TO.y (Y.len (l := R10.Tables) ke29 (Can.own 2 rfl) rfl) rfl rfl rfl ?_
  refine TO.y (Y.eql rfl rfl) rfl rfl rfl ?_
  refine TO.nil ?_
  refine TE.next ?_
  refine TW.cond rfl (fun H14 => ?_) (fun H14 => ?_)
  ·refine TW.seq ?_
   refine TW.region ?_
   refine TO.y (Y.load_box (v := .agg #[Y12.1, Y12.2.1, .int .i64 R10.Seq, Y12.2.2]) 0 kk31 rfl rfl rfl) rfl rfl rfl ?_
   refine TO.ef0 (Ef.store_box (us := [Y12.1, Y12.2.1, .int .i64 R10.Seq, Y12.2.2]) (vs' := [Y12.1, Y12.2.1, .int .i64 R10.Seq, Y12.2.2]) (is' := [.box B13 31 [Y12.1, Y12.2.1, .int .i64 R10.Seq, Y12.2.2], .own Y12.1 (lc R10.Mem), .own Y12.2.1 (lc R10.Tables), .own Y12.2.2 (lc R10.Snaps), .box B2 31 [Y12.1, Y12.2.1, .int .i64 R10.Seq, Y12.2.2], .box B1 31 [V_e0, V_e1, .int .i64 e.Seq, V_e3]]) 4 kk31 rfl rfl rfl (Cel.agg ⟨(One.can (Can.own 1 rfl)), (One.can (Can.own 2 rfl)), (One.plain rfl), (One.can (Can.own 3 rfl)), trivial⟩) rfl rfl rfl rfl) rfl rfl (fun _ => ?_)
   refine TO.y (Y.assign rfl) rfl rfl rfl ?_
   refine TO.nil ?_
   refine TE.next ?_
   refine TW.ret ?_
   refine TE.then_ret ?_
   exact TE.leaf fun _ _ hf_ hs_ => ret_any (rs := [.cell 2 31, .tmp 3]) (vs := [.agg #[Y12.1, Y12.2.1, .int .i64 R10.Seq, Y12.2.2], .bool false]) (.inl rfl) rfl (RV.cell 4 rfl rfl kk31 rfl ⟨rfl, trivial⟩) hf_ hs_ ⟨(Y12.1, Y12.2.1, Y12.2.2), rfl, hs_.pulls [1, 1, 1] rfl⟩
  refine TW.skip ?_
  refine TE.next ?_
  refine TW.seq ?_
  refine TW.draw (isH := [.box B13 31 [Y12.1, Y12.2.1, .int .i64 R10.Seq, Y12.2.2], .own Y12.1 (lc R10.Mem), .own Y12.2.1 (lc R10.Tables), .own Y12.2.2 (lc R10.Snaps), .box B2 31 [.slice none 0 0, .slice none 0 0, .int .i64 (0 : Int), .slice none 0 0], .box B1 31 [V_e0, V_e1, .int .i64 e.Seq, V_e3]]) hMix ?_
  refine TA.y 0 [0, 0, 0, 0, 0, 0] rfl (Y.field_box kf31_1 rfl rfl) rfl rfl rfl (by kernel_rfl) rfl ?_
  refine TA.y 1 [0, 0, 0, 0, 0, 0] rfl (Y.load_box (v := Y12.2.1) 0 kk29 rfl rfl rfl) rfl rfl rfl (by kernel_rfl) rfl ?_
  refine TA.y 3 [0, 0, 0, 0, 0, 0] rfl (Y.field_box kf31_3 rfl rfl) rfl rfl rfl (by kernel_rfl) rfl ?_
  refine TA.y 4 [0, 0, 0, 0, 0, 0] rfl (Y.load_box (v := Y12.2.2) 0 kk24 rfl rfl rfl) rfl rfl rfl (by kernel_rfl) rfl ?_
  refine TA.bind fun R15 H16 => ?_
  refine TA.one 2 (by kernel_rfl) ?_
  refine TX.ef [1, 1, 1, 1, 1, 1] rfl (Ef.call (rest := [.box B13 31 [Y12.1, Y12.2.1, .int .i64 R10.Seq, Y12.2.2], .own Y12.1 (lc R10.Mem), .own Y12.2.1 (lc R10.Tables), .own Y12.2.2 (lc R10.Snaps), .box B2 31 [.slice none 0 0, .slice none 0 0, .int .i64 (0 : Int), .slice none 0 0], .box B1 31 [V_e0, V_e1, .int .i64 e.Seq, V_e3]]) [0, 0, 0, 0, 0, 0] (spec_MergeEnts_con R10.Tables Y12.2.1 R15 H16) kc17 rfl rfl ⟨(Can.own 2 rfl), trivial⟩) rfl rfl rfl (fun _ => rfl) (fun Y17 => ?_)
  refine TA.bind fun R18 H19 => ?_
  refine TA.one 5 (by kernel_rfl) ?_
  refine TX.ef [2, 2, 2, 2, 2, 2] rfl (Ef.call (rest := [.own Y17 (lc R15), .box B13 31 [Y12.1, Y12.2.1, .int .i64 R10.Seq, Y12.2.2], .own Y12.1 (lc R10.Mem), .own Y12.2.1 (lc R10.Tables), .own Y12.2.2 (lc R10.Snaps), .box B2 31 [.slice none 0 0, .slice none 0 0, .int .i64 (0 : Int), .slice none 0 0], .box B1 31 [V_e0, V_e1, .int .i64 e.Seq, V_e3]]) [0, 0, 0, 0, 0, 0, 0] (spec_CompactEnts_con R15 R10.Snaps true Y17 Y12.2.2 R18 H19) kc33 rfl rfl ⟨(Can.own 0 rfl), (Can.own 4 rfl), trivial⟩) rfl rfl rfl (fun _ => rfl) (fun Y20 => ?_)
  refine TA.y 6 [2, 2, 2, 2, 2, 2] rfl (Y.assign rfl) rfl rfl rfl (by kernel_rfl) rfl ?_
  refine TA.nil (by kernel_rfl) ?_
  refine TE.next ?_
  refine TW.seq ?_
  refine TW.region ?_
  refine TO.ef (Ef.buildSliceR (Vs := []) [] [] ke29 kz28 rfl rfl rfl rfl rfl trivial rfl) rfl rfl rfl (fun B21 => ?_)
  refine TO.ghost (is' := fun _ => [.own (.slice (some ⟨B21, 0, none⟩) 0 0) (lc ([] : List (List Ent))), .own Y20 (lc R18), .own Y17 (lc R15), .box B13 31 [Y12.1, Y12.2.1, .int .i64 R10.Seq, Y12.2.2], .own Y12.1 (lc R10.Mem), .own Y12.2.1 (lc R10.Tables), .own Y12.2.2 (lc R10.Snaps), .box B2 31 [.slice none 0 0, .slice none 0 0, .int .i64 (0 : Int), .slice none 0 0], .box B1 31 [V_e0, V_e1, .int .i64 e.Seq, V_e3]]) (Gh.closeAll (js := []) (r := [.own Y20 (lc R18), .own Y17 (lc R15), .box B13 31 [Y12.1, Y12.2.1, .int .i64 R10.Seq, Y12.2.2], .own Y12.1 (lc R10.Mem), .own Y12.2.1 (lc R10.Tables), .own Y12.2.2 (lc R10.Snaps), .box B2 31 [.slice none 0 0, .slice none 0 0, .int .i64 (0 : Int), .slice none 0 0], .box B1 31 [V_e0, V_e1, .int .i64 e.Seq, V_e3]]) [0, 0, 0, 0, 0, 0, 0, 0, 0] rfl Cls.nil) (fun _ => ?_)
  refine TO.y (Y.field_box kf31_1 rfl rfl) rfl rfl rfl ?_
  refine TO.ef0 (Ef.store_box (us := [.slice (some ⟨B21, 0, none⟩) 0 0]) (vs' := [Y12.1, .slice (some ⟨B21, 0, none⟩) 0 0, .int .i64 R10.Seq, Y12.2.2]) (is' := [.own (.slice (some ⟨B21, 0, none⟩) 0 0) (lc ([] : List (List Ent))), .own Y20 (lc R18), .own Y17 (lc R15), .box B13 31 [Y12.1, .slice (some ⟨B21, 0, none⟩) 0 0, .int .i64 R10.Seq, Y12.2.2], .own Y12.1 (lc R10.Mem), .own Y12.2.1 (lc R10.Tables), .own Y12.2.2 (lc R10.Snaps), .box B2 31 [.slice none 0 0, .slice none 0 0, .int .i64 (0 : Int), .slice none 0 0], .box B1 31 [V_e0, V_e1, .int .i64 e.Seq, V_e3]]) 3 kk29 rfl rfl rfl (Cel.plain rfl rfl) rfl rfl rfl rfl) rfl rfl (fun _ => ?_)
  refine TO.nil ?_
  refine TE.next ?_
  refine TW.seq ?_
  refine TW.seq ?_
  refine TW.region ?_
  refine TO.y (Y.move rfl) rfl rfl rfl ?_
  refine TO.y (Y.len (l := R18) ke28 (Can.own 1 rfl) rfl) rfl rfl rfl ?_
  refine TO.y (Y.gtr rfl rfl) rfl rfl rfl ?_
  refine TO.nil ?_
  refine TE.next ?_
  refine TW.joinX (τ := List (List Ent)) (X := Value) (fun _ _ => [(2, .pointer (some ⟨B2, 0, none⟩)), (4, .pointer (some ⟨B13, 0, none⟩))]) (fun T X => [.box B2 31 [.slice none 0 0, .slice none 0 0, .int .i64 (0 : Int), .slice none 0 0], .box B13 31 [Y12.1, X, .int .i64 R10.Seq, Y12.2.2], .own Y12.1 (lc R10.Mem), .own X (lc T), .own Y12.2.2 (lc R10.Snaps)]) ?_ (fun T22 X23 => ?_)
  ·refine TW.cond rfl (fun H24 => ?_) (fun H24 => ?_)
   ·refine TW.region ?_
    refine TO.y (Y.field_box kf31_1 rfl rfl) rfl rfl rfl ?_
    refine TO.y (Y.load_box (v := .slice (some ⟨B21, 0, none⟩) 0 0) 3 kk29 rfl rfl rfl) rfl rfl rfl ?_
    refine TO.y (Y.move rfl) rfl rfl rfl ?_
    refine TO.ef (Ef.buildSliceR (Vs := [Y20]) [[Y20]] [.raw Y20] ke29 kz28 rfl rfl rfl rfl rfl ⟨(Cel.one (One.can (Can.own 1 rfl))), trivial⟩ rfl) rfl rfl rfl (fun B25 => ?_)
    refine TO.ghost (is' := fun _ => [.own (.slice (some ⟨B25, 0, none⟩) 1 1) (lc ([R18])), .own (.slice (some ⟨B21, 0, none⟩) 0 0) (lc ([] : List (List Ent))), .own Y17 (lc R15), .box B13 31 [Y12.1, .slice (some ⟨B21, 0, none⟩) 0 0, .int .i64 R10.Seq, Y12.2.2], .own Y12.1 (lc R10.Mem), .own Y12.2.1 (lc R10.Tables), .own Y12.2.2 (lc R10.Snaps), .box B2 31 [.slice none 0 0, .slice none 0 0, .int .i64 (0 : Int), .slice none 0 0], .box B1 31 [V_e0, V_e1, .int .i64 e.Seq, V_e3]]) (Gh.closeAll (js := [.own Y20 (lc R18)]) (r := [.own (.slice (some ⟨B21, 0, none⟩) 0 0) (lc ([] : List (List Ent))), .own Y17 (lc R15), .box B13 31 [Y12.1, .slice (some ⟨B21, 0, none⟩) 0 0, .int .i64 R10.Seq, Y12.2.2], .own Y12.1 (lc R10.Mem), .own Y12.2.1 (lc R10.Tables), .own Y12.2.2 (lc R10.Snaps), .box B2 31 [.slice none 0 0, .slice none 0 0, .int .i64 (0 : Int), .slice none 0 0], .box B1 31 [V_e0, V_e1, .int .i64 e.Seq, V_e3]]) [0, 1, 0, 0, 0, 0, 0, 0, 0, 0] rfl (Cls.fill Cls.nil)) (fun _ => ?_)
    refine TO.bind fun E27 H28 => ?_
    refine TO.ef (Ef.appN (α := List Ent) (is' := [.own Y17 (lc R15), .box B13 31 [Y12.1, .slice (some ⟨B21, 0, none⟩) 0 0, .int .i64 R10.Seq, Y12.2.2], .own Y12.1 (lc R10.Mem), .own Y12.2.1 (lc R10.Tables), .own Y12.2.2 (lc R10.Snaps), .box B2 31 [.slice none 0 0, .slice none 0 0, .int .i64 (0 : Int), .slice none 0 0], .box B1 31 [V_e0, V_e1, .int .i64 e.Seq, V_e3]]) [1, 0, 0, 0, 0, 0, 0, 0, 0] H28 ke29 kz28 rfl rfl rfl rfl rfl) rfl rfl rfl (fun V26 => ?_)
    refine TO.y (Y.field_box kf31_1 rfl rfl) rfl rfl rfl ?_
    refine TO.ef0 (Ef.store_box (us := [V26]) (vs' := [Y12.1, V26, .int .i64 R10.Seq, Y12.2.2]) (is' := [.own V26 (lc E27), .own Y17 (lc R15), .box B13 31 [Y12.1, V26, .int .i64 R10.Seq, Y12.2.2], .own Y12.1 (lc R10.Mem), .own Y12.2.1 (lc R10.Tables), .own Y12.2.2 (lc R10.Snaps), .box B2 31 [.slice none 0 0, .slice none 0 0, .int .i64 (0 : Int), .slice none 0 0], .box B1 31 [V_e0, V_e1, .int .i64 e.Seq, V_e3]]) 2 kk29 rfl rfl rfl (Cel.one (One.can (Can.own 0 rfl))) rfl rfl rfl rfl) rfl rfl (fun _ => ?_)
    refine TO.nil ?_
    exact TE.jn_go V26 [6, 2, 2, 0, 2] ⟨rfl, rfl, trivial⟩ rfl
   refine TW.skip ?_
   exact TE.jn_go (.slice (some ⟨B21, 0, none⟩) 0 0) [7, 3, 3, 0, 3] ⟨rfl, rfl, trivial⟩ rfl
  refine TE.next ?_
  refine TW.seq ?_
  refine TW.region ?_
  refine TO.y (Y.load_box (v := .agg #[Y12.1, X23, .int .i64 R10.Seq, Y12.2.2]) 1 kk31 rfl rfl rfl) rfl rfl rfl ?_
  refine TO.ef0 (Ef.store_box (us := [Y12.1, X23, .int .i64 R10.Seq, Y12.2.2]) (vs' := [Y12.1, X23, .int .i64 R10.Seq, Y12.2.2]) (is' := [.box B2 31 [Y12.1, X23, .int .i64 R10.Seq, Y12.2.2], .box B13 31 [Y12.1, X23, .int .i64 R10.Seq, Y12.2.2], .own Y12.1 (lc R10.Mem), .own X23 (lc T22), .own Y12.2.2 (lc R10.Snaps)]) 0 kk31 rfl rfl rfl (Cel.agg ⟨(One.can (Can.own 2 rfl)), (One.can (Can.own 3 rfl)), (One.plain rfl), (One.can (Can.own 4 rfl)), trivial⟩) rfl rfl rfl rfl) rfl rfl (fun _ => ?_)
  refine TO.y (Y.assign rfl) rfl rfl rfl ?_
  refine TO.nil ?_
  refine TE.next ?_
  refine TW.ret ?_
  exact TE.leaf fun _ _ hf_ hs_ => ret_any (rs := [.cell 2 31, .tmp 3]) (vs := [.agg #[Y12.1, X23, .int .i64 R10.Seq, Y12.2.2], .bool true]) (.inl rfl) rfl (RV.cell 0 rfl rfl kk31 rfl ⟨rfl, trivial⟩) hf_ hs_ ⟨(Y12.1, X23, Y12.2.2), rfl, hs_.pulls [2, 2, 2] rfl⟩

/-- loop.example/g00950/spec.EngFlush -/
noncomputable def spec_EngFlush (e : Eng) : Option (Eng × Bool) :=
  (spec_EngOk e).bind fun R3 =>
  if (!R3) = true then (some ({ Mem := ([] : List Ent), Tables := ([] : List (List Ent)), Seq := (0 : Int), Snaps := ([] : List Int) : Eng }, false))
  else ((spec_l20Copy e).bind fun R10 =>
  (if (decide (((R10.Mem.length : Nat) : Int) = (0 : Int))) = true then (some true)
  else (some (decide (((R10.Tables.length : Nat) : Int) ≥ (6 : Int))))).bind (fun (T14 : Bool) =>
  if T14 = true then (some (R10, false))
  else ((app 24 ([R10.Mem]) R10.Tables).bind fun E20 =>
  some ({ Mem := ([] : List Ent), Tables := E20, Seq := R10.Seq, Snaps := R10.Snaps : Eng }, true))))

theorem spec_EngFlush_con (e : Eng) (V_e0 : Value) (V_e1 : Value) (V_e3 : Value) (r : Eng × Bool) (hm : spec_EngFlush e = some r) :
    Con Try.prog 43 [.agg #[V_e0, V_e1, .int .i64 e.Seq, V_e3]] [] [(V_e0, lc e.Mem), (V_e1, lc e.Tables), (V_e3, lc e.Snaps)] (fun X : Value × Value × Value => .tuple #[.agg #[X.1, X.2.1, .int .i64 r.1.Seq, X.2.2], .bool r.2]) (fun X => [.own X.1 (lc r.1.Mem), .own X.2.1 (lc r.1.Tables), .own X.2.2 (lc r.1.Snaps)]) := by
  refine Con.intro (args := [.agg #[V_e0, V_e1, .int .i64 e.Seq, V_e3]]) (n := 34) (val := fun r (X : Value × Value × Value) => .tuple #[.agg #[X.1, X.2.1, .int .i64 r.1.Seq, X.2.2], .bool r.2]) (post := fun r X => [.own X.1 (lc r.1.Mem), .own X.2.1 (lc r.1.Tables), .own X.2.2 (lc r.1.Snaps)]) (m := spec_EngFlush e) Try.func43 rfl rfl rfl hm ?_
  intro w S hrd
  have HB_V_e0 := hrd _ (.head _)
  have HB_V_e1 := hrd _ (.tail _ (.head _))
  have HB_V_e3 := hrd _ (.tail _ (.tail _ (.head _)))
  clear hrd
  unfold spec_EngFlush
  refine TW.seq ?_
  refine TW.region ?_
  refine TO.ef (Ef.box rfl (Cel.agg ⟨(One.can (Base.can HB_V_e0)), (One.can (Base.can HB_V_e1)), (One.plain rfl), (One.can (Base.can HB_V_e3)), trivial⟩)) rfl rfl rfl (fun B1 => ?_)
  refine TO.ef (Ef.alloc kz31 rfl) rfl rfl rfl (fun B2 => ?_)
  refine TO.y (Y.assign rfl) rfl rfl rfl ?_
  refine TO.nil ?_
  refine TE.next ?_
  refine TW.seq ?_
  refine TW.seq ?_
  refine TW.region ?_
  refine TO.y (Y.load_box (v := .agg #[V_e0, V_e1, .int .i64 e.Seq, V_e3]) 1 kk31 rfl rfl rfl) rfl rfl rfl ?_
  refine TO.bind fun R3 H4 => ?_
  refine TO.ef (Ef.call (rest := [.box B2 31 [.slice none 0 0, .slice none 0 0, .int .i64 (0 : Int), .slice none 0 0], .box B1 31 [V_e0, V_e1, .int .i64 e.Seq, V_e3]]) [0, 0] (spec_EngOk_con e V_e0 V_e1 V_e3 R3 H4) kc31 rfl rfl ⟨(Base.can HB_V_e0), (Base.can HB_V_e1), (Base.can HB_V_e3), trivial⟩) rfl rfl rfl (fun _ => ?_)
  refine TO.y (Y.not rfl) rfl rfl rfl ?_
  refine TO.nil ?_
  refine TE.next ?_
  refine TW.cond rfl (fun H6 => ?_) (fun H6 => ?_)
  ·refine TW.seq ?_
   refine TW.region ?_
   refine TO.y (Y.build (cells := [.slice none 0 0, .slice none 0 0, .int .i64 (0 : Int), .slice none 0 0]) [] kp31 kz31 trivial rfl) rfl rfl rfl ?_
   refine TO.ef0 (Ef.store_box (us := [.slice none 0 0, .slice none 0 0, .int .i64 (0 : Int), .slice none 0 0]) (vs' := [.slice none 0 0, .slice none 0 0, .int .i64 (0 : Int), .slice none 0 0]) (is' := [.box B2 31 [.slice none 0 0, .slice none 0 0, .int .i64 (0 : Int), .slice none 0 0], .box B1 31 [V_e0, V_e1, .int .i64 e.Seq, V_e3]]) 0 kk31 rfl rfl rfl (Cel.plain rfl rfl) rfl rfl rfl rfl) rfl rfl (fun _ => ?_)
   refine TO.y (Y.assign rfl) rfl rfl rfl ?_
   refine TO.nil ?_
   refine TE.next ?_
   refine TW.ret ?_
   refine TE.then_ret ?_
   exact TE.leaf fun _ _ hf_ hs_ => ret_any (rs := [.cell 2 31, .tmp 3]) (vs := [.agg #[.slice none 0 0, .slice none 0 0, .int .i64 (0 : Int), .slice none 0 0], .bool false]) (.inl rfl) rfl (RV.cell 0 rfl rfl kk31 rfl ⟨rfl, trivial⟩) hf_ hs_ ⟨((.slice none 0 0), (.slice none 0 0), (.slice none 0 0)), rfl, (((hs_.nilItem 4).nilItem 1).nilItem 1).pulls [2, 1, 0] rfl⟩
  refine TW.skip ?_
  refine TE.next ?_
  refine TW.seq ?_
  refine TW.region ?_
  refine TO.y (Y.load_box (v := .agg #[V_e0, V_e1, .int .i64 e.Seq, V_e3]) 1 kk31 rfl rfl rfl) rfl rfl rfl ?_
  refine TO.bind fun R10 H11 => ?_
  refine TO.ef (Ef.call (rest := [.box B2 31 [.slice none 0 0, .slice none 0 0, .int .i64 (0 : Int), .slice none 0 0], .box B1 31 [V_e0, V_e1, .int .i64 e.Seq, V_e3]]) [0, 0] (spec_l20Copy_con e V_e0 V_e1 V_e3 R10 H11) kc32 rfl rfl ⟨(Base.can HB_V_e0), (Base.can HB_V_e1), (Base.can HB_V_e3), trivial⟩) rfl rfl rfl (fun Y12 => ?_)
  refine TO.ef (Ef.alloc kz31 rfl) rfl rfl rfl (fun B13 => ?_)
  refine TO.ef0 (Ef.store_box (us := [Y12.1, Y12.2.1, .int .i64 R10.Seq, Y12.2.2]) (vs' := [Y12.1, Y12.2.1, .int .i64 R10.Seq, Y12.2.2]) (is' := [.box B13 31 [Y12.1, Y12.2.1, .int .i64 R10.Seq, Y12.2.2], .own Y12.1 (lc R10.Mem), .own Y12.2.1 (lc R10.Tables), .own Y12.2.2 (lc R10.Snaps), .box B2 31 [.slice none 0 0, .slice none 0 0, .int .i64 (0 : Int), .slice none 0 0], .box B1 31 [V_e0, V_e1, .int .i64 e.Seq, V_e3]]) 0 kk31 rfl rfl rfl (Cel.agg ⟨(One.can (Can.own 1 rfl)), (One.can (Can.own 2 rfl)), (One.plain rfl), (One.can (Can.own 3 rfl)), trivial⟩) rfl rfl rfl rfl) rfl rfl (fun _ => ?_)
  refine TO.nil ?_
  refine TE.next ?_
  refine TW.seq ?_
  refine TW.seq ?_
  refine TW.joinBX (τ := Bool) (X := Unit) (fun T _ => [(2, .pointer (some ⟨B2, 0, none⟩)), (4, .pointer (some ⟨B13, 0, none⟩)), (21, .bool T)]) (fun _ _ => [.box B2 31 [.slice none 0 0, .slice none 0 0, .int .i64 (0 : Int), .slice none 0 0], .box B13 31 [Y12.1, Y12.2.1, .int .i64 R10.Seq, Y12.2.2], .own Y12.1 (lc R10.Mem), .own Y12.2.1 (lc R10.Tables), .own Y12.2.2 (lc R10.Snaps)]) ?_ (fun T14 X15 => ?_)
  ·refine TW.region ?_
   refine TO.y (Y.field_box kf31_0 rfl rfl) rfl rfl rfl ?_
   refine TO.y (Y.load_box (v := Y12.1) 0 kk28 rfl rfl rfl) rfl rfl rfl ?_
   refine TO.y (Y.len (l := R10.Mem) ke28 (Can.own 1 rfl) rfl) rfl rfl rfl ?_
   refine TO.y (Y.eql rfl rfl) rfl rfl rfl ?_
   refine TO.y (Y.move rfl) rfl rfl rfl ?_
   refine TO.ite (b := decide (((R10.Mem.length : Nat) : Int) = (0 : Int))) (fun H16 => ?_) (fun H16 => ?_)
   ·refine TO.off (Gd.at 4 false 16 (decide (((R10.Mem.length : Nat) : Int) = (0 : Int))) rfl rfl rfl (beq_tf H16)) rfl rfl ?_
    refine TO.off (Gd.at 4 false 16 (decide (((R10.Mem.length : Nat) : Int) = (0 : Int))) rfl rfl rfl (beq_tf H16)) rfl rfl ?_
    refine TO.off (Gd.at 4 false 16 (decide (((R10.Mem.length : Nat) : Int) = (0 : Int))) rfl rfl rfl (beq_tf H16)) rfl rfl ?_
    refine TO.off (Gd.at 4 false 16 (decide (((R10.Mem.length : Nat) : Int) = (0 : Int))) rfl rfl rfl (beq_tf H16)) rfl rfl ?_
    refine TO.y (Y.pick_t H16 rfl rfl) rfl rfl rfl ?_
    refine TO.nil ?_
    exact TE.jb_go () [4, 0, 0, 0, 0] ⟨rfl, rfl, rfl, trivial⟩ rfl
   refine TO.y (Y.field_box kf31_1 rfl rfl) (Gd.at 4 false 16 (decide (((R10.Mem.length : Nat) : Int) = (0 : Int))) rfl rfl rfl (beq_ff H16)) rfl rfl ?_
   refine TO.y (Y.load_box (v := Y12.2.1) 0 kk29 rfl rfl rfl) (Gd.at 4 false 16 (decide (((R10.Mem.length : Nat) : Int) = (0 : Int))) rfl rfl rfl (beq_ff H16)) rfl rfl ?_
   refine TO.y (Y.len (l := R10.Tables) ke29 (Can.own 2 rfl) rfl) (Gd.at 4 false 16 (decide (((R10.Mem.length : Nat) : Int) = (0 : Int))) rfl rfl rfl (beq_ff H16)) rfl rfl ?_
   refine TO.y (Y.geq rfl rfl) (Gd.at 4 false 16 (decide (((R10.Mem.length : Nat) : Int) = (0 : Int))) rfl rfl rfl (beq_ff H16)) rfl rfl ?_
   refine TO.y (Y.pick_f H16 rfl rfl) rfl rfl rfl ?_
   refine TO.nil ?_
   exact TE.jb_go () [4, 0, 0, 0, 0] ⟨rfl, rfl, rfl, trivial⟩ rfl
  refine TE.next ?_
  refine TW.cond rfl (fun H17 => ?_) (fun H17 => ?_)
  ·refine TW.seq ?_
   refine TW.region ?_
   refine TO.y (Y.load_box (v := .agg #[Y12.1, Y12.2.1, .int .i64 R10.Seq, Y12.2.2]) 1 kk31 rfl rfl rfl) rfl rfl rfl ?_
   refine TO.ef0 (Ef.store_box (us := [Y12.1, Y12.2.1, .int .i64 R10.Seq, Y12.2.2]) (vs' := [Y12.1, Y12.2.1, .int .i64 R10.Seq, Y12.2.2]) (is' := [.box B2 31 [Y12.1, Y12.2.1, .int .i64 R10.Seq, Y12.2.2], .box B13 31 [Y12.1, Y12.2.1, .int .i64 R10.Seq, Y12.2.2], .own Y12.1 (lc R10.Mem), .own Y12.2.1 (lc R10.Tables), .own Y12.2.2 (lc R10.Snaps)]) 0 kk31 rfl rfl rfl (Cel.agg ⟨(One.can (Can.own 2 rfl)), (One.can (Can.own 3 rfl)), (One.plain rfl), (One.can (Can.own 4 rfl)), trivial⟩) rfl rfl rfl rfl) rfl rfl (fun _ => ?_)
   refine TO.y (Y.assign rfl) rfl rfl rfl ?_
   refine TO.nil ?_
   refine TE.next ?_
   refine TW.ret ?_
   refine TE.then_ret ?_
   exact TE.leaf fun _ _ hf_ hs_ => ret_any (rs := [.cell 2 31, .tmp 3]) (vs := [.agg #[Y12.1, Y12.2.1, .int .i64 R10.Seq, Y12.2.2], .bool false]) (.inl rfl) rfl (RV.cell 0 rfl rfl kk31 rfl ⟨rfl, trivial⟩) hf_ hs_ ⟨(Y12.1, Y12.2.1, Y12.2.2), rfl, hs_.pulls [2, 2, 2] rfl⟩
  refine TW.skip ?_
  refine TE.next ?_
  refine TW.seq ?_
  refine TW.region ?_
  refine TO.y (Y.field_box kf31_0 rfl rfl) rfl rfl rfl ?_
  refine TO.y (Y.load_box (v := Y12.1) 1 kk28 rfl rfl rfl) rfl rfl rfl ?_
  refine TO.ef (Ef.buildSliceR (Vs := [Y12.1]) [[Y12.1]] [.raw Y12.1] ke29 kz28 rfl rfl rfl rfl rfl ⟨(Cel.one (One.can (Can.own 2 rfl))), trivial⟩ rfl) rfl rfl rfl (fun B18 => ?_)
  refine TO.ghost (is' := fun _ => [.own (.slice (some ⟨B18, 0, none⟩) 1 1) (lc ([R10.Mem])), .box B2 31 [.slice none 0 0, .slice none 0 0, .int .i64 (0 : Int), .slice none 0 0], .box B13 31 [Y12.1, Y12.2.1, .int .i64 R10.Seq, Y12.2.2], .own Y12.2.1 (lc R10.Tables), .own Y12.2.2 (lc R10.Snaps)]) (Gh.closeAll (js := [.own Y12.1 (lc R10.Mem)]) (r := [.box B2 31 [.slice none 0 0, .slice none 0 0, .int .i64 (0 : Int), .slice none 0 0], .box B13 31 [Y12.1, Y12.2.1, .int .i64 R10.Seq, Y12.2.2], .own Y12.2.1 (lc R10.Tables), .own Y12.2.2 (lc R10.Snaps)]) [0, 2, 0, 0, 0, 0] rfl (Cls.fill Cls.nil)) (fun _ => ?_)
  refine TO.y (Y.assign rfl) rfl rfl rfl ?_
  refine TO.nil ?_
  refine TE.next ?_
  refine TW.seq ?_
  refine TW.region ?_
  refine TO.y (Y.move rfl) rfl rfl rfl ?_
  refine TO.y (Y.field_box kf31_1 rfl rfl) rfl rfl rfl ?_
  refine TO.y (Y.load_box (v := Y12.2.1) 2 kk29 rfl rfl rfl) rfl rfl rfl ?_
  refine TO.bind fun E20 H21 => ?_
  refine TO.ef (Ef.appN (α := List Ent) (is' := [.box B2 31 [.slice none 0 0, .slice none 0 0, .int .i64 (0 : Int), .slice none 0 0], .box B13 31 [Y12.1, Y12.2.1, .int .i64 R10.Seq, Y12.2.2], .own Y12.2.2 (lc R10.Snaps)]) [0, 2, 0, 0, 0] H21 ke29 kz28 rfl rfl rfl rfl rfl) rfl rfl rfl (fun V19 => ?_)
  refine TO.y (Y.field_box kf31_1 rfl rfl) rfl rfl rfl ?_
  refine TO.ef0 (Ef.store_box (us := [V19]) (vs' := [Y12.1, V19, .int .i64 R10.Seq, Y12.2.2]) (is' := [.own V19 (lc E20), .box B2 31 [.slice none 0 0, .slice none 0 0, .int .i64 (0 : Int), .slice none 0 0], .box B13 31 [Y12.1, V19, .int .i64 R10.Seq, Y12.2.2], .own Y12.2.2 (lc R10.Snaps)]) 2 kk29 rfl rfl rfl (Cel.one (One.can (Can.own 0 rfl))) rfl rfl rfl rfl) rfl rfl (fun _ => ?_)
  refine TO.nil ?_
  refine TE.next ?_
  refine TW.seq ?_
  refine TW.region ?_
  refine TO.ef (Ef.buildSlice (α := Ent) (Vs := []) ([] : List Ent) ke28 kz51 rfl rfl rfl rfl rfl) rfl rfl rfl (fun B22 => ?_)
  refine TO.y (Y.field_box kf31_0 rfl rfl) rfl rfl rfl ?_
  refine TO.ef0 (Ef.store_box (us := [.slice (some ⟨B22, 0, none⟩) 0 0]) (vs' := [.slice (some ⟨B22, 0, none⟩) 0 0, V19, .int .i64 R10.Seq, Y12.2.2]) (is' := [.own (.slice (some ⟨B22, 0, none⟩) 0 0) (lc ([] : List Ent)), .own V19 (lc E20), .box B2 31 [.slice none 0 0, .slice none 0 0, .int .i64 (0 : Int), .slice none 0 0], .box B13 31 [.slice (some ⟨B22, 0, none⟩) 0 0, V19, .int .i64 R10.Seq, Y12.2.2], .own Y12.2.2 (lc R10.Snaps)]) 3 kk28 rfl rfl rfl (Cel.plain rfl rfl) rfl rfl rfl rfl) rfl rfl (fun _ => ?_)
  refine TO.nil ?_
  refine TE.next ?_
  refine TW.seq ?_
  refine TW.region ?_
  refine TO.y (Y.load_box (v := .agg #[.slice (some ⟨B22, 0, none⟩) 0 0, V19, .int .i64 R10.Seq, Y12.2.2]) 3 kk31 rfl rfl rfl) rfl rfl rfl ?_
  refine TO.ef0 (Ef.store_box (us := [.slice (some ⟨B22, 0, none⟩) 0 0, V19, .int .i64 R10.Seq, Y12.2.2]) (vs' := [.slice (some ⟨B22, 0, none⟩) 0 0, V19, .int .i64 R10.Seq, Y12.2.2]) (is' := [.own (.slice (some ⟨B22, 0, none⟩) 0 0) (lc ([] : List Ent)), .own V19 (lc E20), .box B2 31 [.slice (some ⟨B22, 0, none⟩) 0 0, V19, .int .i64 R10.Seq, Y12.2.2], .box B13 31 [.slice (some ⟨B22, 0, none⟩) 0 0, V19, .int .i64 R10.Seq, Y12.2.2], .own Y12.2.2 (lc R10.Snaps)]) 2 kk31 rfl rfl rfl (Cel.agg ⟨(One.plain rfl), (One.can (Can.own 1 rfl)), (One.plain rfl), (One.can (Can.own 4 rfl)), trivial⟩) rfl rfl rfl rfl) rfl rfl (fun _ => ?_)
  refine TO.y (Y.assign rfl) rfl rfl rfl ?_
  refine TO.nil ?_
  refine TE.next ?_
  refine TW.ret ?_
  exact TE.leaf fun _ _ hf_ hs_ => ret_any (rs := [.cell 2 31, .tmp 3]) (vs := [.agg #[.slice (some ⟨B22, 0, none⟩) 0 0, V19, .int .i64 R10.Seq, Y12.2.2], .bool true]) (.inl rfl) rfl (RV.cell 2 rfl rfl kk31 rfl ⟨rfl, trivial⟩) hf_ hs_ ⟨((.slice (some ⟨B22, 0, none⟩) 0 0), V19, Y12.2.2), rfl, hs_.pulls [0, 0, 2] rfl⟩

/-- loop.example/g00950/spec.EngTidy -/
noncomputable def spec_EngTidy (e : Eng) : Option (Eng × Bool) :=
  (spec_EngOk e).bind fun R3 =>
  if (!R3) = true then (some ({ Mem := ([] : List Ent), Tables := ([] : List (List Ent)), Seq := (0 : Int), Snaps := ([] : List Int) : Eng }, false))
  else ((spec_l20Copy e).bind fun R10 =>
  bindC (if (decide (((R10.Tables.length : Nat) : Int) ≥ (6 : Int))) = true then ((spec_EngMerge R10).bind fun R17 =>
  some (.go (R17.1.Seq, R17.2, R17.1.Mem, R17.1.Tables, R17.1.Snaps)))
  else (some (.go (R10.Seq, false, R10.Mem, R10.Tables, R10.Snaps))))
  (fun (T14 : Int × Bool × List Ent × List (List Ent) × List Int) => bindC (if (decide (((T14.2.2.1.length : Nat) : Int) > (54 : Int))) = true then ((spec_EngFlush ({ Mem := T14.2.2.1, Tables := T14.2.2.2.1, Seq := T14.1, Snaps := T14.2.2.2.2 : Eng })).bind fun R24 =>
  (if T14.2.1 = true then (some true)
  else (some R24.2)).bind (fun (T28 : Bool) =>
  some (.go (R24.1.Seq, T28, R24.1.Mem, R24.1.Tables, R24.1.Snaps))))
  else (some (.go (T14.1, T14.2.1, T14.2.2.1, T14.2.2.2.1, T14.2.2.2.2))))
  (fun (T21 : Int × Bool × List Ent × List (List Ent) × List Int) => some ({ Mem := T21.2.2.1, Tables := T21.2.2.2.1, Seq := T21.1, Snaps := T21.2.2.2.2 : Eng }, T21.2.1))))

theorem spec_EngTidy_con (e : Eng) (V_e0 : Value) (V_e1 : Value) (V_e3 : Value) (r : Eng × Bool) (hm : spec_EngTidy e = some r) :
    Con Try.prog 14 [.agg #[V_e0, V_e1, .int .i64 e.Seq, V_e3]] [] [(V_e0, lc e.Mem), (V_e1, lc e.Tables), (V_e3, lc e.Snaps)] (fun X : Value × Value × Value => .tuple #[.agg #[X.1, X.2.1, .int .i64 r.1.Seq, X.2.2], .bool r.2]) (fun X => [.own X.1 (lc r.1.Mem), .own X.2.1 (lc r.1.Tables), .own X.2.2 (lc r.1.Snaps)]) := by
  refine Con.intro (args := [.agg #[V_e0, V_e1, .int .i64 e.Seq, V_e3]]) (n := 43) (val := fun r (X : Value × Value × Value) => .tuple #[.agg #[X.1, X.2.1, .int .i64 r.1.Seq, X.2.2], .bool r.2]) (post := fun r X => [.own X.1 (lc r.1.Mem), .own X.2.1 (lc r.1.Tables), .own X.2.2 (lc r.1.Snaps)]) (m := spec_EngTidy e) Try.func14 rfl rfl rfl hm ?_
  intro w S hrd
  have HB_V_e0 := hrd _ (.head _)
  have HB_V_e1 := hrd _ (.tail _ (.head _))
  have HB_V_e3 := hrd _ (.tail _ (.tail _ (.head _)))
  clear hrd
  unfold spec_EngTidy
  refine TW.seq ?_
  refine TW.region ?_
  refine TO.ef (Ef.box rfl (Cel.agg ⟨(One.can (Base.can HB_V_e0)), (One.can (Base.can HB_V_e1)), (One.plain rfl), (One.can (Base.can HB_V_e3)), trivial⟩)) rfl rfl rfl (fun B1 => ?_)
  refine TO.ef (Ef.alloc kz31 rfl) rfl rfl rfl (fun B2 => ?_)
  refine TO.y (Y.assign rfl) rfl rfl rfl ?_
  refine TO.nil ?_
  refine TE.next ?_
  refine TW.seq ?_
  refine TW.seq ?_
  refine TW.region ?_
  refine TO.y (Y.load_box (v := .agg #[V_e0, V_e1, .int .i64 e.Seq, V_e3]) 1 kk31 rfl rfl rfl) rfl rfl rfl ?_
  refine TO.bind fun R3 H4 => ?_
  refine TO.ef (Ef.call (rest := [.box B2 31 [.slice none 0 0, .slice none 0 0, .int .i64 (0 : Int), .slice none 0 0], .box B1 31 [V_e0, V_e1, .int .i64 e.Seq, V_e3]]) [0, 0] (spec_EngOk_con e V_e0 V_e1 V_e3 R3 H4) kc31 rfl rfl ⟨(Base.can HB_V_e0), (Base.can HB_V_e1), (Base.can HB_V_e3), trivial⟩) rfl rfl rfl (fun _ => ?_)
  refine TO.y (Y.not rfl) rfl rfl rfl ?_
  refine TO.nil ?_
  refine TE.next ?_
  refine TW.cond rfl (fun H6 => ?_) (fun H6 => ?_)
  ·refine TW.seq ?_
   refine TW.region ?_
   refine TO.y (Y.build (cells := [.slice none 0 0, .slice none 0 0, .int .i64 (0 : Int), .slice none 0 0]) [] kp31 kz31 trivial rfl) rfl rfl rfl ?_
   refine TO.ef0 (Ef.store_box (us := [.slice none 0 0, .slice none 0 0, .int .i64 (0 : Int), .slice none 0 0]) (vs' := [.slice none 0 0, .slice none 0 0, .int .i64 (0 : Int), .slice none 0 0]) (is' := [.box B2 31 [.slice none 0 0, .slice none 0 0, .int .i64 (0 : Int), .slice none 0 0], .box B1 31 [V_e0, V_e1, .int .i64 e.Seq, V_e3]]) 0 kk31 rfl rfl rfl (Cel.plain rfl rfl) rfl rfl rfl rfl) rfl rfl (fun _ => ?_)
   refine TO.y (Y.assign rfl) rfl rfl rfl ?_
   refine TO.nil ?_
   refine TE.next ?_
   refine TW.ret ?_
   refine TE.then_ret ?_
   exact TE.leaf fun _ _ hf_ hs_ => ret_any (rs := [.cell 2 31, .tmp 3]) (vs := [.agg #[.slice none 0 0, .slice none 0 0, .int .i64 (0 : Int), .slice none 0 0], .bool false]) (.inl rfl) rfl (RV.cell 0 rfl rfl kk31 rfl ⟨rfl, trivial⟩) hf_ hs_ ⟨((.slice none 0 0), (.slice none 0 0), (.slice none 0 0)), rfl, (((hs_.nilItem 4).nilItem 1).nilItem 1).pulls [2, 1, 0] rfl⟩
  refine TW.skip ?_
  refine TE.next ?_
  refine TW.seq ?_
  refine TW.region ?_
  refine TO.y (Y.load_box (v := .agg #[V_e0, V_e1, .int .i64 e.Seq, V_e3]) 1 kk31 rfl rfl rfl) rfl rfl rfl ?_
  refine TO.bind fun R10 H11 => ?_
  refine TO.ef (Ef.call (rest := [.box B2 31 [.slice none 0 0, .slice none 0 0, .int .i64 (0 : Int), .slice none 0 0], .box B1 31 [V_e0, V_e1, .int .i64 e.Seq, V_e3]]) [0, 0] (spec_l20Copy_con e V_e0 V_e1 V_e3 R10 H11) kc32 rfl rfl ⟨(Base.can HB_V_e0), (Base.can HB_V_e1), (Base.can HB_V_e3), trivial⟩) rfl rfl rfl (fun Y12 => ?_)
  refine TO.ef (Ef.alloc kz31 rfl) rfl rfl rfl (fun B13 => ?_)
  refine TO.ef0 (Ef.store_box (us := [Y12.1, Y12.2.1, .int .i64 R10.Seq, Y12.2.2]) (vs' := [Y12.1, Y12.2.1, .int .i64 R10.Seq, Y12.2.2]) (is' := [.box B13 31 [Y12.1, Y12.2.1, .int .i64 R10.Seq, Y12.2.2], .own Y12.1 (lc R10.Mem), .own Y12.2.1 (lc R10.Tables), .own Y12.2.2 (lc R10.Snaps), .box B2 31 [.slice none 0 0, .slice none 0 0, .int .i64 (0 : Int), .slice none 0 0], .box B1 31 [V_e0, V_e1, .int .i64 e.Seq, V_e3]]) 0 kk31 rfl rfl rfl (Cel.agg ⟨(One.can (Can.own 1 rfl)), (One.can (Can.own 2 rfl)), (One.plain rfl), (One.can (Can.own 3 rfl)), trivial⟩) rfl rfl rfl rfl) rfl rfl (fun _ => ?_)
  refine TO.nil ?_
  refine TE.next ?_
  refine TW.seq ?_
  refine TW.region ?_
  refine TO.y (Y.assign rfl) rfl rfl rfl ?_
  refine TO.nil ?_
  refine TE.next ?_
  refine TW.seq ?_
  refine TW.seq ?_
  refine TW.region ?_
  refine TO.y (Y.field_box kf31_1 rfl rfl) rfl rfl rfl ?_
  refine TO.y (Y.load_box (v := Y12.2.1) 0 kk29 rfl rfl rfl) rfl rfl rfl ?_
  refine TO.y (Y.len (l := R10.Tables) ke29 (Can.own 2 rfl) rfl) rfl rfl rfl ?_
  refine TO.y (Y.geq rfl rfl) rfl rfl rfl ?_
  refine TO.nil ?_
  refine TE.next ?_
  refine TW.joinX (τ := Int × Bool × List Ent × List (List Ent) × List Int) (X := Value × Value × Value) (fun T _ => [(2, .pointer (some ⟨B2, 0, none⟩)), (4, .pointer (some ⟨B13, 0, none⟩)), (5, .bool T.2.1)]) (fun T X => [.box B2 31 [.slice none 0 0, .slice none 0 0, .int .i64 (0 : Int), .slice none 0 0], .box B13 31 [X.1, X.2.1, .int .i64 T.1, X.2.2], .own X.1 (lc T.2.2.1), .own X.2.1 (lc T.2.2.2.1), .own X.2.2 (lc T.2.2.2.2)]) ?_ (fun T14 X15 => ?_)
  ·refine TW.cond rfl (fun H16 => ?_) (fun H16 => ?_)
   ·refine TW.seq ?_
    refine TW.region ?_
    refine TO.y (Y.load_box (v := .agg #[Y12.1, Y12.2.1, .int .i64 R10.Seq, Y12.2.2]) 0 kk31 rfl rfl rfl) rfl rfl rfl ?_
    refine TO.bind fun R17 H18 => ?_
    refine TO.ef (Ef.call (rest := [.box B13 31 [Y12.1, Y12.2.1, .int .i64 R10.Seq, Y12.2.2], .own Y12.1 (lc R10.Mem), .own Y12.2.1 (lc R10.Tables), .own Y12.2.2 (lc R10.Snaps), .box B2 31 [.slice none 0 0, .slice none 0 0, .int .i64 (0 : Int), .slice none 0 0], .box B1 31 [V_e0, V_e1, .int .i64 e.Seq, V_e3]]) [0, 0, 0, 0, 0, 0] (spec_EngMerge_con R10 Y12.1 Y12.2.1 Y12.2.2 R17 H18) kc8 rfl rfl ⟨(Can.own 1 rfl), (Can.own 2 rfl), (Can.own 3 rfl), trivial⟩) rfl rfl rfl (fun Y19 => ?_)
    refine TO.y (Y.move rfl) rfl rfl rfl ?_
    refine TO.y (Y.extract rfl rfl) rfl rfl rfl ?_
    refine TO.y (Y.extract rfl rfl) rfl rfl rfl ?_
    refine TO.ef (Ef.alloc kz31 rfl) rfl rfl rfl (fun B20 => ?_)
    refine TO.ef0 (Ef.store_box (us := [Y19.1, Y19.2.1, .int .i64 R17.1.Seq, Y19.2.2]) (vs' := [Y19.1, Y19.2.1, .int .i64 R17.1.Seq, Y19.2.2]) (is' := [.box B20 31 [Y19.1, Y19.2.1, .int .i64 R17.1.Seq, Y19.2.2], .own Y19.1 (lc R17.1.Mem), .own Y19.2.1 (lc R17.1.Tables), .own Y19.2.2 (lc R17.1.Snaps), .box B13 31 [Y12.1, Y12.2.1, .int .i64 R10.Seq, Y12.2.2], .own Y12.1 (lc R10.Mem), .own Y12.2.1 (lc R10.Tables), .own Y12.2.2 (lc R10.Snaps), .box B2 31 [.slice none 0 0, .slice none 0 0, .int .i64 (0 : Int), .slice none 0 0], .box B1 31 [V_e0, V_e1, .int .i64 e.Seq, V_e3]]) 0 kk31 rfl rfl rfl (Cel.agg ⟨(One.can (Can.own 1 rfl)), (One.can (Can.own 2 rfl)), (One.plain rfl), (One.can (Can.own 3 rfl)), trivial⟩) rfl rfl rfl rfl) rfl rfl (fun _ => ?_)
    refine TO.y (Y.assign rfl) rfl rfl rfl ?_
    refine TO.nil ?_
    refine TE.next ?_
    refine TW.seq ?_
    refine TW.region ?_
    refine TO.y (Y.load_box (v := .agg #[Y19.1, Y19.2.1, .int .i64 R17.1.Seq, Y19.2.2]) 0 kk31 rfl rfl rfl) rfl rfl rfl ?_
    refine TO.ef0 (Ef.store_box (us := [Y19.1, Y19.2.1, .int .i64 R17.1.Seq, Y19.2.2]) (vs' := [Y19.1, Y19.2.1, .int .i64 R17.1.Seq, Y19.2.2]) (is' := [.box B20 31 [Y19.1, Y19.2.1, .int .i64 R17.1.Seq, Y19.2.2], .own Y19.1 (lc R17.1.Mem), .own Y19.2.1 (lc R17.1.Tables), .own Y19.2.2 (lc R17.1.Snaps), .box B13 31 [Y19.1, Y19.2.1, .int .i64 R17.1.Seq, Y19.2.2], .own Y12.1 (lc R10.Mem), .own Y12.2.1 (lc R10.Tables), .own Y12.2.2 (lc R10.Snaps), .box B2 31 [.slice none 0 0, .slice none 0 0, .int .i64 (0 : Int), .slice none 0 0], .box B1 31 [V_e0, V_e1, .int .i64 e.Seq, V_e3]]) 4 kk31 rfl rfl rfl (Cel.agg ⟨(One.can (Can.own 1 rfl)), (One.can (Can.own 2 rfl)), (One.plain rfl), (One.can (Can.own 3 rfl)), trivial⟩) rfl rfl rfl rfl) rfl rfl (fun _ => ?_)
    refine TO.nil ?_
    refine TE.next ?_
    refine TW.region ?_
    refine TO.y (Y.move rfl) rfl rfl rfl ?_
    refine TO.y (Y.assign rfl) rfl rfl rfl ?_
    refine TO.nil ?_
    exact TE.jn_go (Y19.1, Y19.2.1, Y19.2.2) [8, 4, 1, 1, 1] ⟨rfl, rfl, rfl, trivial⟩ rfl
   refine TW.skip ?_
   exact TE.jn_go (Y12.1, Y12.2.1, Y12.2.2) [4, 0, 0, 0, 0] ⟨rfl, rfl, rfl, trivial⟩ rfl
  refine TE.next ?_
  refine TW.seq ?_
  refine TW.seq ?_
  refine TW.region ?_
  refine TO.y (Y.field_box kf31_0 rfl rfl) rfl rfl rfl ?_
  refine TO.y (Y.load_box (v := X15.1) 1 kk28 rfl rfl rfl) rfl rfl rfl ?_
  refine TO.y (Y.len (l := T14.2.2.1) ke28 (Can.own 2 rfl) rfl) rfl rfl rfl ?_
  refine TO.y (Y.gtr rfl rfl) rfl rfl rfl ?_
  refine TO.nil ?_
  refine TE.next ?_
  refine TW.joinX (τ := Int × Bool × List Ent × List (List Ent) × List Int) (X := Value × Value × Value) (fun T _ => [(2, .pointer (some ⟨B2, 0, none⟩)), (4, .pointer (some ⟨B13, 0, none⟩)), (5, .bool T.2.1)]) (fun T X => [.box B2 31 [.slice none 0 0, .slice none 0 0, .int .i64 (0 : Int), .slice none 0 0], .box B13 31 [X.1, X.2.1, .int .i64 T.1, X.2.2], .own X.1 (lc T.2.2.1), .own X.2.1 (lc T.2.2.2.1), .own X.2.2 (lc T.2.2.2.2)]) ?_ (fun T21 X22 => ?_)
  ·refine TW.cond rfl (fun H23 => ?_) (fun H23 => ?_)
   ·refine TW.seq ?_
    refine TW.region ?_
    refine TO.y (Y.load_box (v := .agg #[X15.1, X15.2.1, .int .i64 T14.1, X15.2.2]) 1 kk31 rfl rfl rfl) rfl rfl rfl ?_
    refine TO.bind fun R24 H25 => ?_
    refine TO.ef (Ef.call (rest := [.box B2 31 [.slice none 0 0, .slice none 0 0, .int .i64 (0 : Int), .slice none 0 0], .box B13 31 [X15.1, X15.2.1, .int .i64 T14.1, X15.2.2], .own X15.1 (lc T14.2.2.1), .own X15.2.1 (lc T14.2.2.2.1), .own X15.2.2 (lc T14.2.2.2.2)]) [0, 0, 0, 0, 0] (spec_EngFlush_con ({ Mem := T14.2.2.1, Tables := T14.2.2.2.1, Seq := T14.1, Snaps := T14.2.2.2.2 : Eng }) X15.1 X15.2.1 X15.2.2 R24 H25) kc43 rfl rfl ⟨(Can.own 2 rfl), (Can.own 3 rfl), (Can.own 4 rfl), trivial⟩) rfl rfl rfl (fun Y26 => ?_)
    refine TO.y (Y.move rfl) rfl rfl rfl ?_
    refine TO.y (Y.extract rfl rfl) rfl rfl rfl ?_
    refine TO.y (Y.extract rfl rfl) rfl rfl rfl ?_
    refine TO.ef (Ef.alloc kz31 rfl) rfl rfl rfl (fun B27 => ?_)
    refine TO.ef0 (Ef.store_box (us := [Y26.1, Y26.2.1, .int .i64 R24.1.Seq, Y26.2.2]) (vs' := [Y26.1, Y26.2.1, .int .i64 R24.1.Seq, Y26.2.2]) (is' := [.box B27 31 [Y26.1, Y26.2.1, .int .i64 R24.1.Seq, Y26.2.2], .own Y26.1 (lc R24.1.Mem), .own Y26.2.1 (lc R24.1.Tables), .own Y26.2.2 (lc R24.1.Snaps), .box B2 31 [.slice none 0 0, .slice none 0 0, .int .i64 (0 : Int), .slice none 0 0], .box B13 31 [X15.1, X15.2.1, .int .i64 T14.1, X15.2.2], .own X15.1 (lc T14.2.2.1), .own X15.2.1 (lc T14.2.2.2.1), .own X15.2.2 (lc T14.2.2.2.2)]) 0 kk31 rfl rfl rfl (Cel.agg ⟨(One.can (Can.own 1 rfl)), (One.can (Can.own 2 rfl)), (One.plain rfl), (One.can (Can.own 3 rfl)), trivial⟩) rfl rfl rfl rfl) rfl rfl (fun _ => ?_)
    refine TO.y (Y.assign rfl) rfl rfl rfl ?_
    refine TO.nil ?_
    refine TE.next ?_
    refine TW.seq ?_
    refine TW.region ?_
    refine TO.y (Y.load_box (v := .agg #[Y26.1, Y26.2.1, .int .i64 R24.1.Seq, Y26.2.2]) 0 kk31 rfl rfl rfl) rfl rfl rfl ?_
    refine TO.ef0 (Ef.store_box (us := [Y26.1, Y26.2.1, .int .i64 R24.1.Seq, Y26.2.2]) (vs' := [Y26.1, Y26.2.1, .int .i64 R24.1.Seq, Y26.2.2]) (is' := [.box B27 31 [Y26.1, Y26.2.1, .int .i64 R24.1.Seq, Y26.2.2], .own Y26.1 (lc R24.1.Mem), .own Y26.2.1 (lc R24.1.Tables), .own Y26.2.2 (lc R24.1.Snaps), .box B2 31 [.slice none 0 0, .slice none 0 0, .int .i64 (0 : Int), .slice none 0 0], .box B13 31 [Y26.1, Y26.2.1, .int .i64 R24.1.Seq, Y26.2.2], .own X15.1 (lc T14.2.2.1), .own X15.2.1 (lc T14.2.2.2.1), .own X15.2.2 (lc T14.2.2.2.2)]) 5 kk31 rfl rfl rfl (Cel.agg ⟨(One.can (Can.own 1 rfl)), (One.can (Can.own 2 rfl)), (One.plain rfl), (One.can (Can.own 3 rfl)), trivial⟩) rfl rfl rfl rfl) rfl rfl (fun _ => ?_)
    refine TO.nil ?_
    refine TE.next ?_
    refine TW.joinBX (τ := Bool) (X := Unit) (fun T _ => [(2, .pointer (some ⟨B2, 0, none⟩)), (4, .pointer (some ⟨B13, 0, none⟩)), (5, .bool T)]) (fun _ _ => [.box B2 31 [.slice none 0 0, .slice none 0 0, .int .i64 (0 : Int), .slice none 0 0], .box B13 31 [Y26.1, Y26.2.1, .int .i64 R24.1.Seq, Y26.2.2], .own Y26.1 (lc R24.1.Mem), .own Y26.2.1 (lc R24.1.Tables), .own Y26.2.2 (lc R24.1.Snaps)]) ?_ (fun T28 X29 => ?_)
    ·refine TW.region ?_
     refine TO.y (Y.move rfl) rfl rfl rfl ?_
     refine TO.y (Y.move rfl) rfl rfl rfl ?_
     refine TO.ite (b := T14.2.1) (fun H30 => ?_) (fun H30 => ?_)
     ·refine TO.off (Gd.at 1 false 38 T14.2.1 rfl rfl rfl (beq_tf H30)) rfl rfl ?_
      refine TO.y (Y.pick_t H30 rfl rfl) rfl rfl rfl ?_
      refine TO.y (Y.assign rfl) rfl rfl rfl ?_
      refine TO.nil ?_
      exact TE.jb_go () [4, 4, 1, 1, 1] ⟨rfl, rfl, rfl, trivial⟩ rfl
     refine TO.y (Y.move rfl) (Gd.at 1 false 38 T14.2.1 rfl rfl rfl (beq_ff H30)) rfl rfl ?_
     refine TO.y (Y.pick_f H30 rfl rfl) rfl rfl rfl ?_
     refine TO.y (Y.assign rfl) rfl rfl rfl ?_
     refine TO.nil ?_
     exact TE.jb_go () [4, 4, 1, 1, 1] ⟨rfl, rfl, rfl, trivial⟩ rfl
    exact TE.jn_go (Y26.1, Y26.2.1, Y26.2.2) [0, 0, 0, 0, 0] ⟨rfl, rfl, rfl, trivial⟩ rfl
   refine TW.skip ?_
   exact TE.jn_go (X15.1, X15.2.1, X15.2.2) [0, 0, 0, 0, 0] ⟨rfl, rfl, rfl, trivial⟩ rfl
  refine TE.next ?_
  refine TW.seq ?_
  refine TW.region ?_
  refine TO.y (Y.load_box (v := .agg #[X22.1, X22.2.1, .int .i64 T21.1, X22.2.2]) 1 kk31 rfl rfl rfl) rfl rfl rfl ?_
  refine TO.y (Y.move rfl) rfl rfl rfl ?_
  refine TO.ef0 (Ef.store_box (us := [X22.1, X22.2.1, .int .i64 T21.1, X22.2.2]) (vs' := [X22.1, X22.2.1, .int .i64 T21.1, X22.2.2]) (is' := [.box B2 31 [X22.1, X22.2.1, .int .i64 T21.1, X22.2.2], .box B13 31 [X22.1, X22.2.1, .int .i64 T21.1, X22.2.2], .own X22.1 (lc T21.2.2.1), .own X22.2.1 (lc T21.2.2.2.1), .own X22.2.2 (lc T21.2.2.2.2)]) 0 kk31 rfl rfl rfl (Cel.agg ⟨(One.can (Can.own 2 rfl)), (One.can (Can.own 3 rfl)), (One.plain rfl), (One.can (Can.own 4 rfl)), trivial⟩) rfl rfl rfl rfl) rfl rfl (fun _ => ?_)
  refine TO.y (Y.assign rfl) rfl rfl rfl ?_
  refine TO.nil ?_
  refine TE.next ?_
  refine TW.ret ?_
  exact TE.leaf fun _ _ hf_ hs_ => ret_any (rs := [.cell 2 31, .tmp 3]) (vs := [.agg #[X22.1, X22.2.1, .int .i64 T21.1, X22.2.2], .bool T21.2.1]) (.inl rfl) rfl (RV.cell 0 rfl rfl kk31 rfl ⟨rfl, trivial⟩) hf_ hs_ ⟨(X22.1, X22.2.1, X22.2.2), rfl, hs_.pulls [2, 2, 2] rfl⟩

/-- loop.example/g00950/impl.inRange -/
noncomputable def impl_inRange (n : Int) (least : Int) (most : Int) : Option Bool :=
  (if (decide (n ≥ least)) = true then (some (decide (n ≤ most)))
  else (some false)).bind (fun (T1 : Bool) =>
  some T1)

theorem impl_inRange_con (n : Int) (least : Int) (most : Int)  (r : Bool) (hm : impl_inRange n least most = some r) :
    Con Try.prog 63 [.int .i64 n, .int .i64 least, .int .i64 most] [] [] (fun _ : Unit => .bool r) (fun _ => []) := by
  refine Con.intro (args := [.int .i64 n, .int .i64 least, .int .i64 most]) (n := 15) (val := fun r (_ : Unit) => .bool r) (post := fun _ _ => []) (m := impl_inRange n least most) Try.func63 rfl rfl rfl hm ?_
  intro w S _
  unfold impl_inRange
  refine TW.seq ?_
  refine TW.region ?_
  refine TO.y (Y.assign rfl) rfl rfl rfl ?_
  refine TO.nil ?_
  refine TE.next ?_
  refine TW.seq ?_
  refine TW.joinBX (τ := Bool) (X := Unit) (fun T _ => [(6, .bool T)]) (fun _ _ => []) ?_ (fun T1 X2 => ?_)
  ·refine TW.region ?_
   refine TO.y (Y.move rfl) rfl rfl rfl ?_
   refine TO.y (Y.move rfl) rfl rfl rfl ?_
   refine TO.y (Y.geq rfl rfl) rfl rfl rfl ?_
   refine TO.y (Y.move rfl) rfl rfl rfl ?_
   refine TO.ite (b := decide (n ≥ least)) (fun H3 => ?_) (fun H3 => ?_)
   ·refine TO.y (Y.move rfl) (Gd.at 3 true 10 (decide (n ≥ least)) rfl rfl rfl (beq_tt H3)) rfl rfl ?_
    refine TO.y (Y.move rfl) (Gd.at 3 true 10 (decide (n ≥ least)) rfl rfl rfl (beq_tt H3)) rfl rfl ?_
    refine TO.y (Y.leq rfl rfl) (Gd.at 3 true 10 (decide (n ≥ least)) rfl rfl rfl (beq_tt H3)) rfl rfl ?_
    refine TO.y (Y.pick_t H3 rfl rfl) rfl rfl rfl ?_
    refine TO.y (Y.assign rfl) rfl rfl rfl ?_
    refine TO.nil ?_
    exact TE.jb_go () [] ⟨rfl, trivial⟩ rfl
   refine TO.off (Gd.at 3 true 10 (decide (n ≥ least)) rfl rfl rfl (beq_ft H3)) rfl rfl ?_
   refine TO.off (Gd.at 3 true 10 (decide (n ≥ least)) rfl rfl rfl (beq_ft H3)) rfl rfl ?_
   refine TO.off (Gd.at 3 true 10 (decide (n ≥ least)) rfl rfl rfl (beq_ft H3)) rfl rfl ?_
   refine TO.y (Y.pick_f H3 rfl rfl) rfl rfl rfl ?_
   refine TO.y (Y.assign rfl) rfl rfl rfl ?_
   refine TO.nil ?_
   exact TE.jb_go () [] ⟨rfl, trivial⟩ rfl
  refine TE.next ?_
  refine TW.ret ?_
  exact TE.leaf fun _ _ hf_ hs_ => ret_any (rs := [.tmp 6]) (vs := [.bool T1]) (.inl rfl) rfl ⟨rfl, trivial⟩ hf_ hs_ ⟨(), rfl, hs_.pulls [] rfl⟩

/-- loop.example/g00950/impl.isNumber -/
noncomputable def impl_isNumber (n : Int) : Option Bool :=
  (impl_inRange n (0 : Int) (1000000 : Int)).bind fun R1 =>
  some R1

theorem impl_isNumber_con (n : Int)  (r : Bool) (hm : impl_isNumber n = some r) :
    Con Try.prog 61 [.int .i64 n] [] [] (fun _ : Unit => .bool r) (fun _ => []) := by
  refine Con.intro (args := [.int .i64 n]) (n := 5) (val := fun r (_ : Unit) => .bool r) (post := fun _ _ => []) (m := impl_isNumber n) Try.func61 rfl rfl rfl hm ?_
  intro w S _
  unfold impl_isNumber
  refine TW.seq ?_
  refine TW.region ?_
  refine TO.y (Y.assign rfl) rfl rfl rfl ?_
  refine TO.nil ?_
  refine TE.next ?_
  refine TW.seq ?_
  refine TW.region ?_
  refine TO.y (Y.move rfl) rfl rfl rfl ?_
  refine TO.bind fun R1 H2 => ?_
  refine TO.ef (Ef.call (rest := []) [] (impl_inRange_con n (0 : Int) (1000000 : Int)  R1 H2) kc63 rfl rfl trivial) rfl rfl rfl (fun _ => ?_)
  refine TO.y (Y.assign rfl) rfl rfl rfl ?_
  refine TO.nil ?_
  refine TE.next ?_
  refine TW.ret ?_
  exact TE.leaf fun _ _ hf_ hs_ => ret_any (rs := [.tmp 2]) (vs := [.bool R1]) (.inl rfl) rfl ⟨rfl, trivial⟩ hf_ hs_ ⟨(), rfl, hs_.pulls [] rfl⟩

/-- loop.example/g00950/impl.totalOf -/
noncomputable def impl_totalOf (l : List (List Ent)) : Option Int :=
  bindC (loopO (fun (S1 : Int × Int) => if (decide (S1.2 < ((l.length : Nat) : Int))) = true then ((idx l S1.2).bind fun E6 =>
  some (.go (IntKind.i64.wrap (S1.1 + ((E6.length : Nat) : Int)), IntKind.i64.wrap (S1.2 + (1 : Int)))))
  else (some (.done (.go S1.1))))
  ((0 : Int), (0 : Int)))
  (fun (T3 : Int) => some T3)

theorem impl_totalOf_con (l : List (List Ent)) (V_l0 : Value) (r : Int) (hm : impl_totalOf l = some r) :
    Con Try.prog 47 [V_l0] [] [(V_l0, lc l)] (fun _ : Unit => .int .i64 r) (fun _ => []) := by
  refine Con.intro (args := [V_l0]) (n := 18) (val := fun r (_ : Unit) => .int .i64 r) (post := fun _ _ => []) (m := impl_totalOf l) Try.func47 rfl rfl rfl hm ?_
  intro w S hrd
  have HB_V_l0 := hrd _ (.head _)
  clear hrd
  unfold impl_totalOf
  refine TW.seq ?_
  refine TW.region ?_
  refine TO.y (Y.assign rfl) rfl rfl rfl ?_
  refine TO.nil ?_
  refine TE.next ?_
  refine TW.seq ?_
  refine TW.region ?_
  refine TO.y (Y.assign rfl) rfl rfl rfl ?_
  refine TO.nil ?_
  refine TE.next ?_
  refine TW.seq ?_
  refine TW.seq ?_
  refine TW.region ?_
  refine TO.y (Y.move rfl) rfl rfl rfl ?_
  refine TO.y (Y.len (l := l) ke29 (Base.can HB_V_l0) rfl) rfl rfl rfl ?_
  refine TO.y (Y.move rfl) rfl rfl rfl ?_
  refine TO.nil ?_
  refine TE.next ?_
  refine TW.joinX (τ := Int) (X := Unit) (fun T _ => [(3, .int .i64 T)]) (fun _ _ => []) ?_ (fun T3 X4 => ?_)
  ·refine TW.block ?_
   refine TW.loopX (σ := Int × Int) (X := Unit) (fun T _ => [(3, .int .i64 T.1), (6, V_l0), (7, .int .i64 ((l.length : Nat) : Int)), (8, .int .i64 T.2)]) (fun _ _ => []) () [] ⟨rfl, rfl, rfl, rfl, trivial⟩ rfl (fun S1 X2 => ?_)
   refine TW.seq ?_
   refine TW.region ?_
   refine TO.y (Y.lss rfl rfl) rfl rfl rfl ?_
   refine TO.nil ?_
   refine TE.next ?_
   refine TW.seq ?_
   refine TW.cond rfl (fun H5 => ?_) (fun H5 => ?_)
   ·refine TW.skip ?_
    refine TE.next ?_
    refine TW.seq ?_
    refine TW.block ?_
    refine TW.seq ?_
    refine TW.region ?_
    refine TO.bind fun E6 H7 => ?_
    refine TO.y (Y.index ke29 (Base.can HB_V_l0) H7 rfl rfl) rfl rfl rfl ?_
    have Q8 : Base w S (elv w V_l0 (S1.2.toNat * 1 + 0)) (lc E6) := Base.el HB_V_l0 (idx_get H7).2.2 rfl rfl
    refine TO.y (Y.load_base (α := List Ent) (u := (elv w V_l0 (S1.2.toNat * 1 + 0))) kk28 rfl HB_V_l0 (idx_get H7).2.2 rfl rfl rfl rfl rfl) rfl rfl rfl ?_
    refine TO.y (Y.assign rfl) rfl rfl rfl ?_
    refine TO.nil ?_
    refine TE.next ?_
    refine TW.region ?_
    refine TO.y (Y.move rfl) rfl rfl rfl ?_
    refine TO.y (Y.move rfl) rfl rfl rfl ?_
    refine TO.y (Y.len (l := E6) ke28 (Base.can Q8) rfl) rfl rfl rfl ?_
    refine TO.y (Y.add rfl rfl) rfl rfl rfl ?_
    refine TO.y (Y.assign rfl) rfl rfl rfl ?_
    refine TO.nil ?_
    refine TE.block_normal ?_
    refine TE.next ?_
    refine TW.region ?_
    refine TO.y (Y.add rfl rfl) rfl rfl rfl ?_
    refine TO.y (Y.move rfl) rfl rfl rfl ?_
    refine TO.nil ?_
    exact TE.lp_go () [] ⟨rfl, rfl, rfl, rfl, trivial⟩ rfl
   refine TW.exit ?_
   refine TE.then_exit ?_
   refine TE.lp_exit ?_
   refine TE.block_exit ?_
   exact TE.jn_go () [] ⟨rfl, trivial⟩ rfl
  refine TE.next ?_
  refine TW.seq ?_
  refine TW.region ?_
  refine TO.y (Y.move rfl) rfl rfl rfl ?_
  refine TO.y (Y.assign rfl) rfl rfl rfl ?_
  refine TO.nil ?_
  refine TE.next ?_
  refine TW.ret ?_
  exact TE.leaf fun _ _ hf_ hs_ => ret_any (rs := [.tmp 2]) (vs := [.int .i64 T3]) (.inl rfl) rfl ⟨rfl, trivial⟩ hf_ hs_ ⟨(), rfl, hs_.pulls [] rfl⟩

/-- loop.example/g00950/impl.isKey -/
noncomputable def impl_isKey (s : List UInt8) : Option Bool :=
  (impl_inRange ((s.length : Nat) : Int) (1 : Int) (10 : Int)).bind fun R1 =>
  some R1

theorem impl_isKey_con (s : List UInt8)  (r : Bool) (hm : impl_isKey s = some r) :
    Con Try.prog 99 [strV s] [] [] (fun _ : Unit => .bool r) (fun _ => []) := by
  refine Con.intro (args := [strV s]) (n := 6) (val := fun r (_ : Unit) => .bool r) (post := fun _ _ => []) (m := impl_isKey s) Try.func99 rfl rfl rfl hm ?_
  intro w S _
  unfold impl_isKey
  refine TW.seq ?_
  refine TW.region ?_
  refine TO.y (Y.assign rfl) rfl rfl rfl ?_
  refine TO.nil ?_
  refine TE.next ?_
  refine TW.seq ?_
  refine TW.region ?_
  refine TO.y (Y.move rfl) rfl rfl rfl ?_
  refine TO.y (Y.slen ks9 rfl) rfl rfl rfl ?_
  refine TO.bind fun R1 H2 => ?_
  refine TO.ef (Ef.call (rest := []) [] (impl_inRange_con ((s.length : Nat) : Int) (1 : Int) (10 : Int)  R1 H2) kc63 rfl rfl trivial) rfl rfl rfl (fun _ => ?_)
  refine TO.y (Y.assign rfl) rfl rfl rfl ?_
  refine TO.nil ?_
  refine TE.next ?_
  refine TW.ret ?_
  exact TE.leaf fun _ _ hf_ hs_ => ret_any (rs := [.tmp 2]) (vs := [.bool R1]) (.inl rfl) rfl ⟨rfl, trivial⟩ hf_ hs_ ⟨(), rfl, hs_.pulls [] rfl⟩

/-- loop.example/g00950/impl.isVal -/
noncomputable def impl_isVal (del : Bool) (val : List UInt8) : Option Bool :=
  (if (decide (((val.length : Nat) : Int) ≤ (16 : Int))) = true then (if del = true then (some (!(!(decide (val = ([]))))))
  else (some (!false)))
  else (some false)).bind (fun (T1 : Bool) =>
  some T1)

theorem impl_isVal_con (del : Bool) (val : List UInt8)  (r : Bool) (hm : impl_isVal del val = some r) :
    Con Try.prog 100 [.bool del, strV val] [] [] (fun _ : Unit => .bool r) (fun _ => []) := by
  refine Con.intro (args := [.bool del, strV val]) (n := 16) (val := fun r (_ : Unit) => .bool r) (post := fun _ _ => []) (m := impl_isVal del val) Try.func100 rfl rfl rfl hm ?_
  intro w S _
  unfold impl_isVal
  refine TW.seq ?_
  refine TW.region ?_
  refine TO.y (Y.assign rfl) rfl rfl rfl ?_
  refine TO.nil ?_
  refine TE.next ?_
  refine TW.seq ?_
  refine TW.joinBX (τ := Bool) (X := Unit) (fun T _ => [(4, .bool T)]) (fun _ _ => []) ?_ (fun T1 X2 => ?_)
  ·refine TW.region ?_
   refine TO.y (Y.move rfl) rfl rfl rfl ?_
   refine TO.y (Y.slen ks9 rfl) rfl rfl rfl ?_
   refine TO.y (Y.leq rfl rfl) rfl rfl rfl ?_
   refine TO.y (Y.move rfl) rfl rfl rfl ?_
   refine TO.ite (b := decide (((val.length : Nat) : Int) ≤ (16 : Int))) (fun H3 => ?_) (fun H3 => ?_)
   ·refine TO.y (Y.move rfl) (Gd.at 3 true 8 (decide (((val.length : Nat) : Int) ≤ (16 : Int))) rfl rfl rfl (beq_tt H3)) rfl rfl ?_
    refine TO.y (Y.move rfl) (Gd.at 3 true 8 (decide (((val.length : Nat) : Int) ≤ (16 : Int))) rfl rfl rfl (beq_tt H3)) rfl rfl ?_
    refine TO.ite (b := del) (fun H4 => ?_) (fun H4 => ?_)
    ·refine TO.y (Y.move rfl) (Gd.at 5 true 10 del rfl rfl rfl (beq_tt H4)) rfl rfl ?_
     refine TO.y (Y.sneq rfl rfl) (Gd.at 5 true 10 del rfl rfl rfl (beq_tt H4)) rfl rfl ?_
     refine TO.y (Y.pick_t H4 rfl rfl) (Gd.at 3 true 8 (decide (((val.length : Nat) : Int) ≤ (16 : Int))) rfl rfl rfl (beq_tt H3)) rfl rfl ?_
     refine TO.y (Y.not rfl) (Gd.at 3 true 8 (decide (((val.length : Nat) : Int) ≤ (16 : Int))) rfl rfl rfl (beq_tt H3)) rfl rfl ?_
     refine TO.y (Y.pick_t H3 rfl rfl) rfl rfl rfl ?_
     refine TO.y (Y.assign rfl) rfl rfl rfl ?_
     refine TO.nil ?_
     exact TE.jb_go () [] ⟨rfl, trivial⟩ rfl
    refine TO.off (Gd.at 5 true 10 del rfl rfl rfl (beq_ft H4)) rfl rfl ?_
    refine TO.off (Gd.at 5 true 10 del rfl rfl rfl (beq_ft H4)) rfl rfl ?_
    refine TO.y (Y.pick_f H4 rfl rfl) (Gd.at 3 true 8 (decide (((val.length : Nat) : Int) ≤ (16 : Int))) rfl rfl rfl (beq_tt H3)) rfl rfl ?_
    refine TO.y (Y.not rfl) (Gd.at 3 true 8 (decide (((val.length : Nat) : Int) ≤ (16 : Int))) rfl rfl rfl (beq_tt H3)) rfl rfl ?_
    refine TO.y (Y.pick_t H3 rfl rfl) rfl rfl rfl ?_
    refine TO.y (Y.assign rfl) rfl rfl rfl ?_
    refine TO.nil ?_
    exact TE.jb_go () [] ⟨rfl, trivial⟩ rfl
   refine TO.off (Gd.at 3 true 8 (decide (((val.length : Nat) : Int) ≤ (16 : Int))) rfl rfl rfl (beq_ft H3)) rfl rfl ?_
   refine TO.off (Gd.at 3 true 8 (decide (((val.length : Nat) : Int) ≤ (16 : Int))) rfl rfl rfl (beq_ft H3)) rfl rfl ?_
   refine TO.off (Gd.un 5 true 10 rfl rfl rfl) rfl rfl ?_
   refine TO.off (Gd.un 5 true 10 rfl rfl rfl) rfl rfl ?_
   refine TO.off (Gd.at 3 true 8 (decide (((val.length : Nat) : Int) ≤ (16 : Int))) rfl rfl rfl (beq_ft H3)) rfl rfl ?_
   refine TO.off (Gd.at 3 true 8 (decide (((val.length : Nat) : Int) ≤ (16 : Int))) rfl rfl rfl (beq_ft H3)) rfl rfl ?_
   refine TO.y (Y.pick_f H3 rfl rfl) rfl rfl rfl ?_
   refine TO.y (Y.assign rfl) rfl rfl rfl ?_
   refine TO.nil ?_
   exact TE.jb_go () [] ⟨rfl, trivial⟩ rfl
  refine TE.next ?_
  refine TW.ret ?_
  exact TE.leaf fun _ _ hf_ hs_ => ret_any (rs := [.tmp 4]) (vs := [.bool T1]) (.inl rfl) rfl ⟨rfl, trivial⟩ hf_ hs_ ⟨(), rfl, hs_.pulls [] rfl⟩

/-- loop.example/g00950/impl.entOk -/
noncomputable def impl_entOk (e : Ent) : Option Bool :=
  ((impl_isKey e.Key).bind fun R4 =>
  if R4 = true then ((impl_isNumber e.Seq).bind fun R8 =>
  if R8 = true then ((impl_isVal e.Del e.Val).bind fun R12 =>
  some R12)
  else (some false))
  else (some false)).bind (fun (T2 : Bool) =>
  some T2)

theorem impl_entOk_con (e : Ent)  (r : Bool) (hm : impl_entOk e = some r) :
    Con Try.prog 89 [.agg #[strV e.Key, .int .i64 e.Seq, .bool e.Del, strV e.Val]] [] [] (fun _ : Unit => .bool r) (fun _ => []) := by
  refine Con.intro (args := [.agg #[strV e.Key, .int .i64 e.Seq, .bool e.Del, strV e.Val]]) (n := 18) (val := fun r (_ : Unit) => .bool r) (post := fun _ _ => []) (m := impl_entOk e) Try.func89 rfl rfl rfl hm ?_
  intro w S _
  unfold impl_entOk
  refine TW.seq ?_
  refine TW.region ?_
  refine TO.ef (Ef.box rfl (Cel.plain rfl rfl)) rfl rfl rfl (fun B1 => ?_)
  refine TO.y (Y.assign rfl) rfl rfl rfl ?_
  refine TO.nil ?_
  refine TE.next ?_
  refine TW.seq ?_
  refine TW.joinBX (τ := Bool) (X := Unit) (fun T _ => [(2, .bool T)]) (fun _ _ => []) ?_ (fun T2 X3 => ?_)
  ·refine TW.region ?_
   refine TO.y (Y.field_box kf51_0 rfl rfl) rfl rfl rfl ?_
   refine TO.y (Y.load_box (v := strV e.Key) 0 kk9 rfl rfl rfl) rfl rfl rfl ?_
   refine TO.bind fun R4 H5 => ?_
   refine TO.ef (Ef.call (rest := [.box B1 51 [strV e.Key, .int .i64 e.Seq, .bool e.Del, strV e.Val]]) [0] (impl_isKey_con e.Key  R4 H5) kc99 rfl rfl trivial) rfl rfl rfl (fun _ => ?_)
   refine TO.y (Y.move rfl) rfl rfl rfl ?_
   refine TO.ite (b := R4) (fun H7 => ?_) (fun H7 => ?_)
   ·refine TO.y (Y.field_box kf51_1 rfl rfl) (Gd.at 3 true 6 R4 rfl rfl rfl (beq_tt H7)) rfl rfl ?_
    refine TO.y (Y.load_box (v := .int .i64 e.Seq) 0 kk3 rfl rfl rfl) (Gd.at 3 true 6 R4 rfl rfl rfl (beq_tt H7)) rfl rfl ?_
    refine TO.bind fun R8 H9 => ?_
    refine TO.ef (Ef.call (rest := [.box B1 51 [strV e.Key, .int .i64 e.Seq, .bool e.Del, strV e.Val]]) [0] (impl_isNumber_con e.Seq  R8 H9) kc61 rfl rfl trivial) (Gd.at 3 true 6 R4 rfl rfl rfl (beq_tt H7)) rfl rfl (fun _ => ?_)
    refine TO.y (Y.pick_t H7 rfl rfl) rfl rfl rfl ?_
    refine TO.y (Y.move rfl) rfl rfl rfl ?_
    refine TO.ite (b := R8) (fun H11 => ?_) (fun H11 => ?_)
    ·refine TO.y (Y.field_box kf51_2 rfl rfl) (Gd.at 8 true 11 R8 rfl rfl rfl (beq_tt H11)) rfl rfl ?_
     refine TO.y (Y.load_box (v := .bool e.Del) 0 kk4 rfl rfl rfl) (Gd.at 8 true 11 R8 rfl rfl rfl (beq_tt H11)) rfl rfl ?_
     refine TO.y (Y.field_box kf51_3 rfl rfl) (Gd.at 8 true 11 R8 rfl rfl rfl (beq_tt H11)) rfl rfl ?_
     refine TO.y (Y.load_box (v := strV e.Val) 0 kk9 rfl rfl rfl) (Gd.at 8 true 11 R8 rfl rfl rfl (beq_tt H11)) rfl rfl ?_
     refine TO.bind fun R12 H13 => ?_
     refine TO.ef (Ef.call (rest := [.box B1 51 [strV e.Key, .int .i64 e.Seq, .bool e.Del, strV e.Val]]) [0] (impl_isVal_con e.Del e.Val  R12 H13) kc100 rfl rfl trivial) (Gd.at 8 true 11 R8 rfl rfl rfl (beq_tt H11)) rfl rfl (fun _ => ?_)
     refine TO.y (Y.pick_t H11 rfl rfl) rfl rfl rfl ?_
     refine TO.y (Y.assign rfl) rfl rfl rfl ?_
     refine TO.nil ?_
     exact TE.jb_go () [] ⟨rfl, trivial⟩ rfl
    refine TO.off (Gd.at 8 true 11 R8 rfl rfl rfl (beq_ft H11)) rfl rfl ?_
    refine TO.off (Gd.at 8 true 11 R8 rfl rfl rfl (beq_ft H11)) rfl rfl ?_
    refine TO.off (Gd.at 8 true 11 R8 rfl rfl rfl (beq_ft H11)) rfl rfl ?_
    refine TO.off (Gd.at 8 true 11 R8 rfl rfl rfl (beq_ft H11)) rfl rfl ?_
    refine TO.off (Gd.at 8 true 11 R8 rfl rfl rfl (beq_ft H11)) rfl rfl ?_
    refine TO.y (Y.pick_f H11 rfl rfl) rfl rfl rfl ?_
    refine TO.y (Y.assign rfl) rfl rfl rfl ?_
    refine TO.nil ?_
    exact TE.jb_go () [] ⟨rfl, trivial⟩ rfl
   refine TO.off (Gd.at 3 true 6 R4 rfl rfl rfl (beq_ft H7)) rfl rfl ?_
   refine TO.off (Gd.at 3 true 6 R4 rfl rfl rfl (beq_ft H7)) rfl rfl ?_
   refine TO.off (Gd.at 3 true 6 R4 rfl rfl rfl (beq_ft H7)) rfl rfl ?_
   refine TO.y (Y.pick_f H7 rfl rfl) rfl rfl rfl ?_
   refine TO.y (Y.move rfl) rfl rfl rfl ?_
   refine TO.off (Gd.at 8 true 11 false rfl rfl rfl rfl) rfl rfl ?_
   refine TO.off (Gd.at 8 true 11 false rfl rfl rfl rfl) rfl rfl ?_
   refine TO.off (Gd.at 8 true 11 false rfl rfl rfl rfl) rfl rfl ?_
   refine TO.off (Gd.at 8 true 11 false rfl rfl rfl rfl) rfl rfl ?_
   refine TO.off (Gd.at 8 true 11 false rfl rfl rfl rfl) rfl rfl ?_
   refine TO.y (Y.pick_f rfl rfl rfl) rfl rfl rfl ?_
   refine TO.y (Y.assign rfl) rfl rfl rfl ?_
   refine TO.nil ?_
   exact TE.jb_go () [] ⟨rfl, trivial⟩ rfl
  refine TE.next ?_
  refine TW.ret ?_
  exact TE.leaf fun _ _ hf_ hs_ => ret_any (rs := [.tmp 2]) (vs := [.bool T2]) (.inl rfl) rfl ⟨rfl, trivial⟩ hf_ hs_ ⟨(), rfl, hs_.pulls [] rfl⟩

/-- cmp.isNaN[string] -/
noncomputable def cmp_isNaN_83645 (x : List UInt8) : Option Bool :=
  some (!(decide (x = x)))

theorem cmp_isNaN_83645_con (x : List UInt8)  (r : Bool) (hm : cmp_isNaN_83645 x = some r) :
    Con Try.prog 103 [strV x] [] [] (fun _ : Unit => .bool r) (fun _ => []) := by
  refine Con.intro (args := [strV x]) (n := 6) (val := fun r (_ : Unit) => .bool r) (post := fun _ _ => []) (m := cmp_isNaN_83645 x) Try.func103 rfl rfl rfl hm ?_
  intro w S _
  unfold cmp_isNaN_83645
  refine TW.seq ?_
  refine TW.region ?_
  refine TO.y (Y.assign rfl) rfl rfl rfl ?_
  refine TO.nil ?_
  refine TE.next ?_
  refine TW.seq ?_
  refine TW.region ?_
  refine TO.y (Y.move rfl) rfl rfl rfl ?_
  refine TO.y (Y.move rfl) rfl rfl rfl ?_
  refine TO.y (Y.sneq rfl rfl) rfl rfl rfl ?_
  refine TO.y (Y.assign rfl) rfl rfl rfl ?_
  refine TO.nil ?_
  refine TE.next ?_
  refine TW.ret ?_
  exact TE.leaf fun _ _ hf_ hs_ => ret_any (rs := [.tmp 2]) (vs := [.bool (!(decide (x = x)))]) (.inl rfl) rfl ⟨rfl, trivial⟩ hf_ hs_ ⟨(), rfl, hs_.pulls [] rfl⟩

/-- cmp.Compare[string] -/
noncomputable def cmp_Compare_83645 (x : List UInt8) (y : List UInt8) : Option Int :=
  (cmp_isNaN_83645 x).bind fun R1 =>
  (cmp_isNaN_83645 y).bind fun R4 =>
  if R1 = true then (if R4 = true then (some (0 : Int))
  else (some (-1 : Int)))
  else (if R4 = true then (some (1 : Int))
  else (if (sLt x y) = true then (some (-1 : Int))
  else (if (!(sLt x y || decide (x = y))) = true then (some (1 : Int))
  else (some (0 : Int)))))

theorem cmp_Compare_83645_con (x : List UInt8) (y : List UInt8)  (r : Int) (hm : cmp_Compare_83645 x y = some r) :
    Con Try.prog 93 [strV x, strV y] [] [] (fun _ : Unit => .int .i64 r) (fun _ => []) := by
  refine Con.intro (args := [strV x, strV y]) (n := 20) (val := fun r (_ : Unit) => .int .i64 r) (post := fun _ _ => []) (m := cmp_Compare_83645 x y) Try.func93 rfl rfl rfl hm ?_
  intro w S _
  unfold cmp_Compare_83645
  refine TW.seq ?_
  refine TW.region ?_
  refine TO.y (Y.assign rfl) rfl rfl rfl ?_
  refine TO.nil ?_
  refine TE.next ?_
  refine TW.seq ?_
  refine TW.region ?_
  refine TO.y (Y.move rfl) rfl rfl rfl ?_
  refine TO.bind fun R1 H2 => ?_
  refine TO.ef (Ef.call (rest := []) [] (cmp_isNaN_83645_con x  R1 H2) kc103 rfl rfl trivial) rfl rfl rfl (fun _ => ?_)
  refine TO.y (Y.assign rfl) rfl rfl rfl ?_
  refine TO.nil ?_
  refine TE.next ?_
  refine TW.seq ?_
  refine TW.region ?_
  refine TO.y (Y.move rfl) rfl rfl rfl ?_
  refine TO.bind fun R4 H5 => ?_
  refine TO.ef (Ef.call (rest := []) [] (cmp_isNaN_83645_con y  R4 H5) kc103 rfl rfl trivial) rfl rfl rfl (fun _ => ?_)
  refine TO.y (Y.assign rfl) rfl rfl rfl ?_
  refine TO.nil ?_
  refine TE.next ?_
  refine TW.seq ?_
  refine TW.seq ?_
  refine TW.region ?_
  refine TO.y (Y.move rfl) rfl rfl rfl ?_
  refine TO.nil ?_
  refine TE.next ?_
  refine TW.cond rfl (fun H7 => ?_) (fun H7 => ?_)
  ·refine TW.seq ?_
   refine TW.seq ?_
   refine TW.region ?_
   refine TO.y (Y.move rfl) rfl rfl rfl ?_
   refine TO.nil ?_
   refine TE.next ?_
   refine TW.cond rfl (fun H8 => ?_) (fun H8 => ?_)
   ·refine TW.seq ?_
    refine TW.region ?_
    refine TO.y (Y.assign rfl) rfl rfl rfl ?_
    refine TO.nil ?_
    refine TE.next ?_
    refine TW.ret ?_
    refine TE.then_ret ?_
    refine TE.then_ret ?_
    exact TE.leaf fun _ _ hf_ hs_ => ret_any (rs := [.tmp 4]) (vs := [.int .i64 (0 : Int)]) (.inl rfl) rfl ⟨rfl, trivial⟩ hf_ hs_ ⟨(), rfl, hs_.pulls [] rfl⟩
   refine TW.skip ?_
   refine TE.next ?_
   refine TW.seq ?_
   refine TW.region ?_
   refine TO.y (Y.assign rfl) rfl rfl rfl ?_
   refine TO.nil ?_
   refine TE.next ?_
   refine TW.ret ?_
   refine TE.then_ret ?_
   exact TE.leaf fun _ _ hf_ hs_ => ret_any (rs := [.tmp 4]) (vs := [.int .i64 (-1 : Int)]) (.inl rfl) rfl ⟨rfl, trivial⟩ hf_ hs_ ⟨(), rfl, hs_.pulls [] rfl⟩
  refine TW.skip ?_
  refine TE.next ?_
  refine TW.seq ?_
  refine TW.seq ?_
  refine TW.region ?_
  refine TO.y (Y.move rfl) rfl rfl rfl ?_
  refine TO.nil ?_
  refine TE.next ?_
  refine TW.cond rfl (fun H9 => ?_) (fun H9 => ?_)
  ·refine TW.seq ?_
   refine TW.region ?_
   refine TO.y (Y.assign rfl) rfl rfl rfl ?_
   refine TO.nil ?_
   refine TE.next ?_
   refine TW.ret ?_
   refine TE.then_ret ?_
   exact TE.leaf fun _ _ hf_ hs_ => ret_any (rs := [.tmp 4]) (vs := [.int .i64 (1 : Int)]) (.inl rfl) rfl ⟨rfl, trivial⟩ hf_ hs_ ⟨(), rfl, hs_.pulls [] rfl⟩
  refine TW.skip ?_
  refine TE.next ?_
  refine TW.seq ?_
  refine TW.seq ?_
  refine TW.region ?_
  refine TO.y (Y.move rfl) rfl rfl rfl ?_
  refine TO.y (Y.move rfl) rfl rfl rfl ?_
  refine TO.y (Y.slss rfl rfl) rfl rfl rfl ?_
  refine TO.nil ?_
  refine TE.next ?_
  refine TW.cond rfl (fun H10 => ?_) (fun H10 => ?_)
  ·refine TW.seq ?_
   refine TW.region ?_
   refine TO.y (Y.assign rfl) rfl rfl rfl ?_
   refine TO.nil ?_
   refine TE.next ?_
   refine TW.ret ?_
   refine TE.then_ret ?_
   exact TE.leaf fun _ _ hf_ hs_ => ret_any (rs := [.tmp 4]) (vs := [.int .i64 (-1 : Int)]) (.inl rfl) rfl ⟨rfl, trivial⟩ hf_ hs_ ⟨(), rfl, hs_.pulls [] rfl⟩
  refine TW.skip ?_
  refine TE.next ?_
  refine TW.seq ?_
  refine TW.seq ?_
  refine TW.region ?_
  refine TO.y (Y.move rfl) rfl rfl rfl ?_
  refine TO.y (Y.move rfl) rfl rfl rfl ?_
  refine TO.y (Y.sgtr rfl rfl) rfl rfl rfl ?_
  refine TO.nil ?_
  refine TE.next ?_
  refine TW.cond rfl (fun H11 => ?_) (fun H11 => ?_)
  ·refine TW.seq ?_
   refine TW.region ?_
   refine TO.y (Y.assign rfl) rfl rfl rfl ?_
   refine TO.nil ?_
   refine TE.next ?_
   refine TW.ret ?_
   refine TE.then_ret ?_
   exact TE.leaf fun _ _ hf_ hs_ => ret_any (rs := [.tmp 4]) (vs := [.int .i64 (1 : Int)]) (.inl rfl) rfl ⟨rfl, trivial⟩ hf_ hs_ ⟨(), rfl, hs_.pulls [] rfl⟩
  refine TW.skip ?_
  refine TE.next ?_
  refine TW.seq ?_
  refine TW.region ?_
  refine TO.y (Y.assign rfl) rfl rfl rfl ?_
  refine TO.nil ?_
  refine TE.next ?_
  refine TW.ret ?_
  exact TE.leaf fun _ _ hf_ hs_ => ret_any (rs := [.tmp 4]) (vs := [.int .i64 (0 : Int)]) (.inl rfl) rfl ⟨rfl, trivial⟩ hf_ hs_ ⟨(), rfl, hs_.pulls [] rfl⟩

/-- cmp.isNaN[int] -/
noncomputable def cmp_isNaN_26527 (x : Int) : Option Bool :=
  some (!(decide (x = x)))

theorem cmp_isNaN_26527_con (x : Int)  (r : Bool) (hm : cmp_isNaN_26527 x = some r) :
    Con Try.prog 104 [.int .i64 x] [] [] (fun _ : Unit => .bool r) (fun _ => []) := by
  refine Con.intro (args := [.int .i64 x]) (n := 6) (val := fun r (_ : Unit) => .bool r) (post := fun _ _ => []) (m := cmp_isNaN_26527 x) Try.func104 rfl rfl rfl hm ?_
  intro w S _
  unfold cmp_isNaN_26527
  refine TW.seq ?_
  refine TW.region ?_
  refine TO.y (Y.assign rfl) rfl rfl rfl ?_
  refine TO.nil ?_
  refine TE.next ?_
  refine TW.seq ?_
  refine TW.region ?_
  refine TO.y (Y.move rfl) rfl rfl rfl ?_
  refine TO.y (Y.move rfl) rfl rfl rfl ?_
  refine TO.y (Y.neq rfl rfl) rfl rfl rfl ?_
  refine TO.y (Y.assign rfl) rfl rfl rfl ?_
  refine TO.nil ?_
  refine TE.next ?_
  refine TW.ret ?_
  exact TE.leaf fun _ _ hf_ hs_ => ret_any (rs := [.tmp 2]) (vs := [.bool (!(decide (x = x)))]) (.inl rfl) rfl ⟨rfl, trivial⟩ hf_ hs_ ⟨(), rfl, hs_.pulls [] rfl⟩

/-- cmp.Compare[int] -/
noncomputable def cmp_Compare_26527 (x : Int) (y : Int) : Option Int :=
  (cmp_isNaN_26527 x).bind fun R1 =>
  (cmp_isNaN_26527 y).bind fun R4 =>
  if R1 = true then (if R4 = true then (some (0 : Int))
  else (some (-1 : Int)))
  else (if R4 = true then (some (1 : Int))
  else (if (decide (x < y)) = true then (some (-1 : Int))
  else (if (decide (x > y)) = true then (some (1 : Int))
  else (some (0 : Int)))))

theorem cmp_Compare_26527_con (x : Int) (y : Int)  (r : Int) (hm : cmp_Compare_26527 x y = some r) :
    Con Try.prog 94 [.int .i64 x, .int .i64 y] [] [] (fun _ : Unit => .int .i64 r) (fun _ => []) := by
  refine Con.intro (args := [.int .i64 x, .int .i64 y]) (n := 20) (val := fun r (_ : Unit) => .int .i64 r) (post := fun _ _ => []) (m := cmp_Compare_26527 x y) Try.func94 rfl rfl rfl hm ?_
  intro w S _
  unfold cmp_Compare_26527
  refine TW.seq ?_
  refine TW.region ?_
  refine TO.y (Y.assign rfl) rfl rfl rfl ?_
  refine TO.nil ?_
  refine TE.next ?_
  refine TW.seq ?_
  refine TW.region ?_
  refine TO.y (Y.move rfl) rfl rfl rfl ?_
  refine TO.bind fun R1 H2 => ?_
  refine TO.ef (Ef.call (rest := []) [] (cmp_isNaN_26527_con x  R1 H2) kc104 rfl rfl trivial) rfl rfl rfl (fun _ => ?_)
  refine TO.y (Y.assign rfl) rfl rfl rfl ?_
  refine TO.nil ?_
  refine TE.next ?_
  refine TW.seq ?_
  refine TW.region ?_
  refine TO.y (Y.move rfl) rfl rfl rfl ?_
  refine TO.bind fun R4 H5 => ?_
  refine TO.ef (Ef.call (rest := []) [] (cmp_isNaN_26527_con y  R4 H5) kc104 rfl rfl trivial) rfl rfl rfl (fun _ => ?_)
  refine TO.y (Y.assign rfl) rfl rfl rfl ?_
  refine TO.nil ?_
  refine TE.next ?_
  refine TW.seq ?_
  refine TW.seq ?_
  refine TW.region ?_
  refine TO.y (Y.move rfl) rfl rfl rfl ?_
  refine TO.nil ?_
  refine TE.next ?_
  refine TW.cond rfl (fun H7 => ?_) (fun H7 => ?_)
  ·refine TW.seq ?_
   refine TW.seq ?_
   refine TW.region ?_
   refine TO.y (Y.move rfl) rfl rfl rfl ?_
   refine TO.nil ?_
   refine TE.next ?_
   refine TW.cond rfl (fun H8 => ?_) (fun H8 => ?_)
   ·refine TW.seq ?_
    refine TW.region ?_
    refine TO.y (Y.assign rfl) rfl rfl rfl ?_
    refine TO.nil ?_
    refine TE.next ?_
    refine TW.ret ?_
    refine TE.then_ret ?_
    refine TE.then_ret ?_
    exact TE.leaf fun _ _ hf_ hs_ => ret_any (rs := [.tmp 4]) (vs := [.int .i64 (0 : Int)]) (.inl rfl) rfl ⟨rfl, trivial⟩ hf_ hs_ ⟨(), rfl, hs_.pulls [] rfl⟩
   refine TW.skip ?_
   refine TE.next ?_
   refine TW.seq ?_
   refine TW.region ?_
   refine TO.y (Y.assign rfl) rfl rfl rfl ?_
   refine TO.nil ?_
   refine TE.next ?_
   refine TW.ret ?_
   refine TE.then_ret ?_
   exact TE.leaf fun _ _ hf_ hs_ => ret_any (rs := [.tmp 4]) (vs := [.int .i64 (-1 : Int)]) (.inl rfl) rfl ⟨rfl, trivial⟩ hf_ hs_ ⟨(), rfl, hs_.pulls [] rfl⟩
  refine TW.skip ?_
  refine TE.next ?_
  refine TW.seq ?_
  refine TW.seq ?_
  refine TW.region ?_
  refine TO.y (Y.move rfl) rfl rfl rfl ?_
  refine TO.nil ?_
  refine TE.next ?_
  refine TW.cond rfl (fun H9 => ?_) (fun H9 => ?_)
  ·refine TW.seq ?_
   refine TW.region ?_
   refine TO.y (Y.assign rfl) rfl rfl rfl ?_
   refine TO.nil ?_
   refine TE.next ?_
   refine TW.ret ?_
   refine TE.then_ret ?_
   exact TE.leaf fun _ _ hf_ hs_ => ret_any (rs := [.tmp 4]) (vs := [.int .i64 (1 : Int)]) (.inl rfl) rfl ⟨rfl, trivial⟩ hf_ hs_ ⟨(), rfl, hs_.pulls [] rfl⟩
  refine TW.skip ?_
  refine TE.next ?_
  refine TW.seq ?_
  refine TW.seq ?_
  refine TW.region ?_
  refine TO.y (Y.move rfl) rfl rfl rfl ?_
  refine TO.y (Y.move rfl) rfl rfl rfl ?_
  refine TO.y (Y.lss rfl rfl) rfl rfl rfl ?_
  refine TO.nil ?_
  refine TE.next ?_
  refine TW.cond rfl (fun H10 => ?_) (fun H10 => ?_)
  ·refine TW.seq ?_
   refine TW.region ?_
   refine TO.y (Y.assign rfl) rfl rfl rfl ?_
   refine TO.nil ?_
   refine TE.next ?_
   refine TW.ret ?_
   refine TE.then_ret ?_
   exact TE.leaf fun _ _ hf_ hs_ => ret_any (rs := [.tmp 4]) (vs := [.int .i64 (-1 : Int)]) (.inl rfl) rfl ⟨rfl, trivial⟩ hf_ hs_ ⟨(), rfl, hs_.pulls [] rfl⟩
  refine TW.skip ?_
  refine TE.next ?_
  refine TW.seq ?_
  refine TW.seq ?_
  refine TW.region ?_
  refine TO.y (Y.move rfl) rfl rfl rfl ?_
  refine TO.y (Y.move rfl) rfl rfl rfl ?_
  refine TO.y (Y.gtr rfl rfl) rfl rfl rfl ?_
  refine TO.nil ?_
  refine TE.next ?_
  refine TW.cond rfl (fun H11 => ?_) (fun H11 => ?_)
  ·refine TW.seq ?_
   refine TW.region ?_
   refine TO.y (Y.assign rfl) rfl rfl rfl ?_
   refine TO.nil ?_
   refine TE.next ?_
   refine TW.ret ?_
   refine TE.then_ret ?_
   exact TE.leaf fun _ _ hf_ hs_ => ret_any (rs := [.tmp 4]) (vs := [.int .i64 (1 : Int)]) (.inl rfl) rfl ⟨rfl, trivial⟩ hf_ hs_ ⟨(), rfl, hs_.pulls [] rfl⟩
  refine TW.skip ?_
  refine TE.next ?_
  refine TW.seq ?_
  refine TW.region ?_
  refine TO.y (Y.assign rfl) rfl rfl rfl ?_
  refine TO.nil ?_
  refine TE.next ?_
  refine TW.ret ?_
  exact TE.leaf fun _ _ hf_ hs_ => ret_any (rs := [.tmp 4]) (vs := [.int .i64 (0 : Int)]) (.inl rfl) rfl ⟨rfl, trivial⟩ hf_ hs_ ⟨(), rfl, hs_.pulls [] rfl⟩

/-- cmp.Or[int] -/
noncomputable def cmp_Or_26527 (vals : List Int) : Option Int :=
  bindC (loopO (fun (S1 : Int) => if (decide (S1 < ((vals.length : Nat) : Int))) = true then ((idx vals S1).bind fun E6 =>
  if (!(decide (E6 = (0 : Int)))) = true then (some (.done (.done E6)))
  else (some (.go (IntKind.i64.wrap (S1 + (1 : Int))))))
  else (some (.done (.go ()))))
  (0 : Int))
  (fun (T3 : Unit) => some (0 : Int))

theorem cmp_Or_26527_con (vals : List Int) (V_vals0 : Value) (r : Int) (hm : cmp_Or_26527 vals = some r) :
    Con Try.prog 92 [V_vals0] [] [(V_vals0, lc vals)] (fun _ : Unit => .int .i64 r) (fun _ => []) := by
  refine Con.intro (args := [V_vals0]) (n := 18) (val := fun r (_ : Unit) => .int .i64 r) (post := fun _ _ => []) (m := cmp_Or_26527 vals) Try.func92 rfl rfl rfl hm ?_
  intro w S hrd
  have HB_V_vals0 := hrd _ (.head _)
  clear hrd
  unfold cmp_Or_26527
  refine TW.seq ?_
  refine TW.region ?_
  refine TO.y (Y.assign rfl) rfl rfl rfl ?_
  refine TO.nil ?_
  refine TE.next ?_
  refine TW.seq ?_
  refine TW.region ?_
  refine TO.y (Y.assign rfl) rfl rfl rfl ?_
  refine TO.nil ?_
  refine TE.next ?_
  refine TW.seq ?_
  refine TW.seq ?_
  refine TW.region ?_
  refine TO.y (Y.move rfl) rfl rfl rfl ?_
  refine TO.y (Y.len (l := vals) ke24 (Base.can HB_V_vals0) rfl) rfl rfl rfl ?_
  refine TO.y (Y.move rfl) rfl rfl rfl ?_
  refine TO.nil ?_
  refine TE.next ?_
  refine TW.joinX (τ := Unit) (X := Unit) (fun _ _ => [(3, .int .i64 (0 : Int))]) (fun _ _ => []) ?_ (fun T3 X4 => ?_)
  ·refine TW.block ?_
   refine TW.loopX (σ := Int) (X := Unit) (fun T _ => [(3, .int .i64 (0 : Int)), (6, V_vals0), (7, .int .i64 ((vals.length : Nat) : Int)), (8, .int .i64 T)]) (fun _ _ => []) () [] ⟨rfl, rfl, rfl, rfl, trivial⟩ rfl (fun S1 X2 => ?_)
   refine TW.seq ?_
   refine TW.region ?_
   refine TO.y (Y.lss rfl rfl) rfl rfl rfl ?_
   refine TO.nil ?_
   refine TE.next ?_
   refine TW.seq ?_
   refine TW.cond rfl (fun H5 => ?_) (fun H5 => ?_)
   ·refine TW.skip ?_
    refine TE.next ?_
    refine TW.seq ?_
    refine TW.block ?_
    refine TW.seq ?_
    refine TW.region ?_
    refine TO.bind fun E6 H7 => ?_
    refine TO.y (Y.index ke24 (Base.can HB_V_vals0) H7 rfl rfl) rfl rfl rfl ?_
    refine TO.y (Y.load_el (us := [.int .i64 E6]) (u := .int .i64 E6) kk3 rfl (Base.can HB_V_vals0) (idx_get H7).2.2 rfl rfl rfl rfl rfl) rfl rfl rfl ?_
    refine TO.y (Y.assign rfl) rfl rfl rfl ?_
    refine TO.nil ?_
    refine TE.next ?_
    refine TW.seq ?_
    refine TW.region ?_
    refine TO.y (Y.move rfl) rfl rfl rfl ?_
    refine TO.y (Y.move rfl) rfl rfl rfl ?_
    refine TO.y (Y.neq rfl rfl) rfl rfl rfl ?_
    refine TO.nil ?_
    refine TE.next ?_
    refine TW.cond rfl (fun H8 => ?_) (fun H8 => ?_)
    ·refine TW.seq ?_
     refine TW.region ?_
     refine TO.y (Y.move rfl) rfl rfl rfl ?_
     refine TO.y (Y.assign rfl) rfl rfl rfl ?_
     refine TO.nil ?_
     refine TE.next ?_
     refine TW.ret ?_
     refine TE.block_ret ?_
     refine TE.then_ret ?_
     refine TE.lp_ret ?_
     refine TE.block_ret ?_
     refine TE.jn_done ?_
     refine TE.then_ret ?_
     exact TE.leaf fun _ _ hf_ hs_ => ret_any (rs := [.tmp 2]) (vs := [.int .i64 E6]) (.inl rfl) rfl ⟨rfl, trivial⟩ hf_ hs_ ⟨(), rfl, hs_.pulls [] rfl⟩
    refine TW.skip ?_
    refine TE.block_normal ?_
    refine TE.next ?_
    refine TW.region ?_
    refine TO.y (Y.add rfl rfl) rfl rfl rfl ?_
    refine TO.y (Y.move rfl) rfl rfl rfl ?_
    refine TO.nil ?_
    exact TE.lp_go () [] ⟨rfl, rfl, rfl, rfl, trivial⟩ rfl
   refine TW.exit ?_
   refine TE.then_exit ?_
   refine TE.lp_exit ?_
   refine TE.block_exit ?_
   exact TE.jn_go () [] ⟨rfl, trivial⟩ rfl
  refine TE.next ?_
  refine TW.seq ?_
  refine TW.region ?_
  refine TO.y (Y.move rfl) rfl rfl rfl ?_
  refine TO.y (Y.assign rfl) rfl rfl rfl ?_
  refine TO.nil ?_
  refine TE.next ?_
  refine TW.ret ?_
  exact TE.leaf fun _ _ hf_ hs_ => ret_any (rs := [.tmp 2]) (vs := [.int .i64 (0 : Int)]) (.inl rfl) rfl ⟨rfl, trivial⟩ hf_ hs_ ⟨(), rfl, hs_.pulls [] rfl⟩

/-- loop.example/g00950/impl.compareEnts -/
noncomputable def impl_compareEnts (a : Ent) (b : Ent) : Option Int :=
  (cmp_Compare_83645 a.Key b.Key).bind fun R3 =>
  (cmp_Compare_26527 b.Seq a.Seq).bind fun R6 =>
  (cmp_Or_26527 ([R3, R6])).bind fun R10 =>
  some R10

theorem impl_compareEnts_con (a : Ent) (b : Ent)  (r : Int) (hm : impl_compareEnts a b = some r) :
    Con Try.prog 72 [.agg #[strV a.Key, .int .i64 a.Seq, .bool a.Del, strV a.Val], .agg #[strV b.Key, .int .i64 b.Seq, .bool b.Del, strV b.Val]] [] [] (fun _ : Unit => .int .i64 r) (fun _ => []) := by
  refine Con.intro (args := [.agg #[strV a.Key, .int .i64 a.Seq, .bool a.Del, strV a.Val], .agg #[strV b.Key, .int .i64 b.Seq, .bool b.Del, strV b.Val]]) (n := 17) (val := fun r (_ : Unit) => .int .i64 r) (post := fun _ _ => []) (m := impl_compareEnts a b) Try.func72 rfl rfl rfl hm ?_
  intro w S _
  unfold impl_compareEnts
  refine TW.seq ?_
  refine TW.region ?_
  refine TO.ef (Ef.box rfl (Cel.plain rfl rfl)) rfl rfl rfl (fun B1 => ?_)
  refine TO.ef (Ef.box rfl (Cel.plain rfl rfl)) rfl rfl rfl (fun B2 => ?_)
  refine TO.y (Y.assign rfl) rfl rfl rfl ?_
  refine TO.nil ?_
  refine TE.next ?_
  refine TW.seq ?_
  refine TW.draw (isH := [.box B2 51 [strV b.Key, .int .i64 b.Seq, .bool b.Del, strV b.Val], .box B1 51 [strV a.Key, .int .i64 a.Seq, .bool a.Del, strV a.Val]]) hMix ?_
  refine TA.y 0 [0, 0] rfl (Y.field_box kf51_0 rfl rfl) rfl rfl rfl (by kernel_rfl) rfl ?_
  refine TA.y 1 [0, 0] rfl (Y.load_box (v := strV a.Key) 1 kk9 rfl rfl rfl) rfl rfl rfl (by kernel_rfl) rfl ?_
  refine TA.y 2 [0, 0] rfl (Y.field_box kf51_0 rfl rfl) rfl rfl rfl (by kernel_rfl) rfl ?_
  refine TA.y 3 [0, 0] rfl (Y.load_box (v := strV b.Key) 0 kk9 rfl rfl rfl) rfl rfl rfl (by kernel_rfl) rfl ?_
  refine TA.y 5 [0, 0] rfl (Y.field_box kf51_1 rfl rfl) rfl rfl rfl (by kernel_rfl) rfl ?_
  refine TA.y 6 [0, 0] rfl (Y.load_box (v := .int .i64 b.Seq) 0 kk3 rfl rfl rfl) rfl rfl rfl (by kernel_rfl) rfl ?_
  refine TA.y 7 [0, 0] rfl (Y.field_box kf51_1 rfl rfl) rfl rfl rfl (by kernel_rfl) rfl ?_
  refine TA.y 8 [0, 0] rfl (Y.load_box (v := .int .i64 a.Seq) 1 kk3 rfl rfl rfl) rfl rfl rfl (by kernel_rfl) rfl ?_
  refine TA.bind fun R3 H4 => ?_
  refine TA.one 4 (by kernel_rfl) ?_
  refine TX.ef [0, 0] rfl (Ef.call (rest := [.box B2 51 [strV b.Key, .int .i64 b.Seq, .bool b.Del, strV b.Val], .box B1 51 [strV a.Key, .int .i64 a.Seq, .bool a.Del, strV a.Val]]) [0, 0] (cmp_Compare_83645_con a.Key b.Key  R3 H4) kc93 rfl rfl trivial) rfl rfl rfl (fun _ => rfl) (fun _ => ?_)
  refine TA.bind fun R6 H7 => ?_
  refine TA.one 9 (by kernel_rfl) ?_
  refine TX.ef [0, 0] rfl (Ef.call (rest := [.box B2 51 [strV b.Key, .int .i64 b.Seq, .bool b.Del, strV b.Val], .box B1 51 [strV a.Key, .int .i64 a.Seq, .bool a.Del, strV a.Val]]) [0, 0] (cmp_Compare_26527_con b.Seq a.Seq  R6 H7) kc94 rfl rfl trivial) rfl rfl rfl (fun _ => rfl) (fun _ => ?_)
  refine TA.one 10 (by kernel_rfl) ?_
  refine TX.ef [1, 1] rfl (Ef.buildSlice (α := Int) (Vs := [.int .i64 R3, .int .i64 R6]) [R3, R6] ke24 kz3 rfl rfl rfl rfl rfl) rfl rfl rfl (fun _ => rfl) (fun B9 => ?_)
  refine TA.bind fun R10 H11 => ?_
  refine TA.one 11 (by kernel_rfl) ?_
  refine TX.ef [1, 1] rfl (Ef.call (rest := [.own (.slice (some ⟨B9, 0, none⟩) 2 2) (lc ([R3, R6])), .box B2 51 [strV b.Key, .int .i64 b.Seq, .bool b.Del, strV b.Val], .box B1 51 [strV a.Key, .int .i64 a.Seq, .bool a.Del, strV a.Val]]) [0, 0, 0] (cmp_Or_26527_con ([R3, R6]) (.slice (some ⟨B9, 0, none⟩) 2 2) R10 H11) kc92 rfl rfl ⟨(Can.own 0 rfl), trivial⟩) rfl rfl rfl (fun _ => rfl) (fun _ => ?_)
  refine TA.y 12 [1, 1] rfl (Y.assign rfl) rfl rfl rfl (by kernel_rfl) rfl ?_
  refine TA.nil (by kernel_rfl) ?_
  refine TE.next ?_
  refine TW.ret ?_
  exact TE.leaf fun _ _ hf_ hs_ => ret_any (rs := [.tmp 4]) (vs := [.int .i64 R10]) (.inl rfl) rfl ⟨rfl, trivial⟩ hf_ hs_ ⟨(), rfl, hs_.pulls [] rfl⟩

/-- loop.example/g00950/impl.inOrder -/
noncomputable def impl_inOrder (l : List Ent) : Option Bool :=
  bindC (loopO (fun (S1 : Int) => if (decide (S1 < ((l.length : Nat) : Int))) = true then ((idx l S1).bind fun E6 =>
  ((impl_entOk E6).bind fun R11 =>
  if (!R11) = true then (some true)
  else (if (decide (S1 > (0 : Int))) = true then ((idx l (IntKind.i64.wrap (S1 - (1 : Int)))).bind fun E16 =>
  (impl_compareEnts E16 E6).bind fun R18 =>
  some (decide (R18 ≥ (0 : Int))))
  else (some false))).bind (fun (T9 : Bool) =>
  if T9 = true then (some (.done (.done false)))
  else (some (.go (IntKind.i64.wrap (S1 + (1 : Int)))))))
  else (some (.done (.go ()))))
  (0 : Int))
  (fun (T3 : Unit) => some true)

theorem impl_inOrder_con (l : List Ent) (V_l0 : Value) (r : Bool) (hm : impl_inOrder l = some r) :
    Con Try.prog 69 [V_l0] [] [(V_l0, lc l)] (fun _ : Unit => .bool r) (fun _ => []) := by
  refine Con.intro (args := [V_l0]) (n := 30) (val := fun r (_ : Unit) => .bool r) (post := fun _ _ => []) (m := impl_inOrder l) Try.func69 rfl rfl rfl hm ?_
  intro w S hrd
  have HB_V_l0 := hrd _ (.head _)
  clear hrd
  unfold impl_inOrder
  refine TW.seq ?_
  refine TW.region ?_
  refine TO.y (Y.assign rfl) rfl rfl rfl ?_
  refine TO.nil ?_
  refine TE.next ?_
  refine TW.seq ?_
  refine TW.seq ?_
  refine TW.region ?_
  refine TO.y (Y.move rfl) rfl rfl rfl ?_
  refine TO.y (Y.len (l := l) ke28 (Base.can HB_V_l0) rfl) rfl rfl rfl ?_
  refine TO.y (Y.move rfl) rfl rfl rfl ?_
  refine TO.nil ?_
  refine TE.next ?_
  refine TW.joinX (τ := Unit) (X := Unit) (fun _ _ => []) (fun _ _ => []) ?_ (fun T3 X4 => ?_)
  ·refine TW.block ?_
   refine TW.loopX (σ := Int) (X := Unit) (fun T _ => [(0, V_l0), (5, V_l0), (6, .int .i64 ((l.length : Nat) : Int)), (7, .int .i64 T)]) (fun _ _ => []) () [] ⟨rfl, rfl, rfl, rfl, trivial⟩ rfl (fun S1 X2 => ?_)
   refine TW.seq ?_
   refine TW.region ?_
   refine TO.y (Y.lss rfl rfl) rfl rfl rfl ?_
   refine TO.nil ?_
   refine TE.next ?_
   refine TW.seq ?_
   refine TW.cond rfl (fun H5 => ?_) (fun H5 => ?_)
   ·refine TW.skip ?_
    refine TE.next ?_
    refine TW.seq ?_
    refine TW.block ?_
    refine TW.seq ?_
    refine TW.region ?_
    refine TO.y (Y.move rfl) rfl rfl rfl ?_
    refine TO.bind fun E6 H7 => ?_
    refine TO.y (Y.index ke28 (Base.can HB_V_l0) H7 rfl rfl) rfl rfl rfl ?_
    refine TO.y (Y.load_el (us := [strV E6.Key, .int .i64 E6.Seq, .bool E6.Del, strV E6.Val]) (u := .agg #[strV E6.Key, .int .i64 E6.Seq, .bool E6.Del, strV E6.Val]) kk51 rfl (Base.can HB_V_l0) (idx_get H7).2.2 rfl rfl rfl rfl rfl) rfl rfl rfl ?_
    refine TO.ef (Ef.alloc kz51 rfl) rfl rfl rfl (fun B8 => ?_)
    refine TO.y (Y.assign rfl) rfl rfl rfl ?_
    refine TO.ef0 (Ef.store_box (us := [strV E6.Key, .int .i64 E6.Seq, .bool E6.Del, strV E6.Val]) (vs' := [strV E6.Key, .int .i64 E6.Seq, .bool E6.Del, strV E6.Val]) (is' := [.box B8 51 [strV E6.Key, .int .i64 E6.Seq, .bool E6.Del, strV E6.Val]]) 0 kk51 rfl rfl rfl (Cel.plain rfl rfl) rfl rfl rfl rfl) rfl rfl (fun _ => ?_)
    refine TO.nil ?_
    refine TE.next ?_
    refine TW.seq ?_
    refine TW.joinBX (τ := Bool) (X := Unit) (fun T _ => [(0, V_l0), (5, V_l0), (6, .int .i64 ((l.length : Nat) : Int)), (7, .int .i64 S1), (28, .bool T)]) (fun _ _ => []) ?_ (fun T9 X10 => ?_)
    ·refine TW.draw (isH := [.box B8 51 [strV E6.Key, .int .i64 E6.Seq, .bool E6.Del, strV E6.Val]]) hMix ?_
     refine TA.y 0 [0] rfl (Y.load_box (v := .agg #[strV E6.Key, .int .i64 E6.Seq, .bool E6.Del, strV E6.Val]) 0 kk51 rfl rfl rfl) rfl rfl rfl (by kernel_rfl) rfl ?_
     refine TA.bind fun R11 H12 => ?_
     refine TA.one 1 (by kernel_rfl) ?_
     refine TX.ef [0] rfl (Ef.call (rest := [.box B8 51 [strV E6.Key, .int .i64 E6.Seq, .bool E6.Del, strV E6.Val]]) [0] (impl_entOk_con E6  R11 H12) kc89 rfl rfl trivial) rfl rfl rfl (fun _ => rfl) (fun _ => ?_)
     refine TA.y 2 [0] rfl (Y.not rfl) rfl rfl rfl (by kernel_rfl) rfl ?_
     refine TA.y 3 [0] rfl (Y.move rfl) rfl rfl rfl (by kernel_rfl) rfl ?_
     refine TA.ite (b := !R11) (fun H14 => ?_) (fun H14 => ?_)
     ·refine TA.off 4 [0] rfl (Gd.at 3 false 15 (!R11) rfl rfl rfl (beq_tf H14)) rfl rfl (by kernel_rfl) rfl ?_
      refine TA.off 5 [0] rfl (Gd.at 3 false 15 (!R11) rfl rfl rfl (beq_tf H14)) rfl rfl (by kernel_rfl) rfl ?_
      refine TA.off 6 [0] rfl (Gd.at 3 false 15 (!R11) rfl rfl rfl (beq_tf H14)) rfl rfl (by kernel_rfl) rfl ?_
      refine TA.off 7 [0] rfl (Gd.un 6 true 18 rfl rfl rfl) rfl rfl (by kernel_rfl) rfl ?_
      refine TA.off 8 [0] rfl (Gd.un 6 true 18 rfl rfl rfl) rfl rfl (by kernel_rfl) rfl ?_
      refine TA.off 9 [0] rfl (Gd.un 6 true 18 rfl rfl rfl) rfl rfl (by kernel_rfl) rfl ?_
      refine TA.off 10 [0] rfl (Gd.un 6 true 18 rfl rfl rfl) rfl rfl (by kernel_rfl) rfl ?_
      refine TA.off 11 [0] rfl (Gd.un 6 true 18 rfl rfl rfl) rfl rfl (by kernel_rfl) rfl ?_
      refine TA.off 12 [0] rfl (Gd.un 6 true 18 rfl rfl rfl) rfl rfl (by kernel_rfl) rfl ?_
      refine TA.off 13 [0] rfl (Gd.un 6 true 18 rfl rfl rfl) rfl rfl (by kernel_rfl) rfl ?_
      refine TA.off 14 [0] rfl (Gd.un 6 true 18 rfl rfl rfl) rfl rfl (by kernel_rfl) rfl ?_
      refine TA.off 15 [0] rfl (Gd.at 3 false 15 (!R11) rfl rfl rfl (beq_tf H14)) rfl rfl (by kernel_rfl) rfl ?_
      refine TA.y 16 [0] rfl (Y.pick_t H14 rfl rfl) rfl rfl rfl (by kernel_rfl) rfl ?_
      refine TA.nil (by kernel_rfl) ?_
      exact TE.jb_go () [] ⟨rfl, rfl, rfl, rfl, rfl, trivial⟩ rfl
     refine TA.y 4 [0] rfl (Y.move rfl) (Gd.at 3 false 15 (!R11) rfl rfl rfl (beq_ff H14)) rfl rfl (by kernel_rfl) rfl ?_
     refine TA.y 5 [0] rfl (Y.gtr rfl rfl) (Gd.at 3 false 15 (!R11) rfl rfl rfl (beq_ff H14)) rfl rfl (by kernel_rfl) rfl ?_
     refine TA.y 6 [0] rfl (Y.move rfl) (Gd.at 3 false 15 (!R11) rfl rfl rfl (beq_ff H14)) rfl rfl (by kernel_rfl) rfl ?_
     refine TA.ite (b := decide (S1 > (0 : Int))) (fun H15 => ?_) (fun H15 => ?_)
     ·refine TA.y 7 [0] rfl (Y.move rfl) (Gd.at 6 true 18 (decide (S1 > (0 : Int))) rfl rfl rfl (beq_tt H15)) rfl rfl (by kernel_rfl) rfl ?_
      refine TA.y 8 [0] rfl (Y.move rfl) (Gd.at 6 true 18 (decide (S1 > (0 : Int))) rfl rfl rfl (beq_tt H15)) rfl rfl (by kernel_rfl) rfl ?_
      refine TA.y 9 [0] rfl (Y.sub rfl rfl) (Gd.at 6 true 18 (decide (S1 > (0 : Int))) rfl rfl rfl (beq_tt H15)) rfl rfl (by kernel_rfl) rfl ?_
      refine TA.bind fun E16 H17 => ?_
      refine TA.y 10 [0] rfl (Y.index ke28 (Base.can HB_V_l0) H17 rfl rfl) (Gd.at 6 true 18 (decide (S1 > (0 : Int))) rfl rfl rfl (beq_tt H15)) rfl rfl (by kernel_rfl) rfl ?_
      refine TA.y 11 [0] rfl (Y.load_el (us := [strV E16.Key, .int .i64 E16.Seq, .bool E16.Del, strV E16.Val]) (u := .agg #[strV E16.Key, .int .i64 E16.Seq, .bool E16.Del, strV E16.Val]) kk51 rfl (Base.can HB_V_l0) (idx_get H17).2.2 rfl rfl rfl rfl rfl) (Gd.at 6 true 18 (decide (S1 > (0 : Int))) rfl rfl rfl (beq_tt H15)) rfl rfl (by kernel_rfl) rfl ?_
      refine TA.y 12 [0] rfl (Y.load_box (v := .agg #[strV E6.Key, .int .i64 E6.Seq, .bool E6.Del, strV E6.Val]) 0 kk51 rfl rfl rfl) (Gd.at 6 true 18 (decide (S1 > (0 : Int))) rfl rfl rfl (beq_tt H15)) rfl rfl (by kernel_rfl) rfl ?_
      refine TA.bind fun R18 H19 => ?_
      refine TA.one 13 (by kernel_rfl) ?_
      refine TX.ef [0] rfl (Ef.call (rest := [.box B8 51 [strV E6.Key, .int .i64 E6.Seq, .bool E6.Del, strV E6.Val]]) [0] (impl_compareEnts_con E16 E6  R18 H19) kc72 rfl rfl trivial) (Gd.at 6 true 18 (decide (S1 > (0 : Int))) rfl rfl rfl (beq_tt H15)) rfl rfl (fun _ => rfl) (fun _ => ?_)
      refine TA.y 14 [0] rfl (Y.geq rfl rfl) (Gd.at 6 true 18 (decide (S1 > (0 : Int))) rfl rfl rfl (beq_tt H15)) rfl rfl (by kernel_rfl) rfl ?_
      refine TA.y 15 [0] rfl (Y.pick_t H15 rfl rfl) (Gd.at 3 false 15 (!R11) rfl rfl rfl (beq_ff H14)) rfl rfl (by kernel_rfl) rfl ?_
      refine TA.y 16 [0] rfl (Y.pick_f H14 rfl rfl) rfl rfl rfl (by kernel_rfl) rfl ?_
      refine TA.nil (by kernel_rfl) ?_
      exact TE.jb_go () [] ⟨rfl, rfl, rfl, rfl, rfl, trivial⟩ rfl
     refine TA.off 7 [0] rfl (Gd.at 6 true 18 (decide (S1 > (0 : Int))) rfl rfl rfl (beq_ft H15)) rfl rfl (by kernel_rfl) rfl ?_
     refine TA.off 8 [0] rfl (Gd.at 6 true 18 (decide (S1 > (0 : Int))) rfl rfl rfl (beq_ft H15)) rfl rfl (by kernel_rfl) rfl ?_
     refine TA.off 9 [0] rfl (Gd.at 6 true 18 (decide (S1 > (0 : Int))) rfl rfl rfl (beq_ft H15)) rfl rfl (by kernel_rfl) rfl ?_
     refine TA.off 10 [0] rfl (Gd.at 6 true 18 (decide (S1 > (0 : Int))) rfl rfl rfl (beq_ft H15)) rfl rfl (by kernel_rfl) rfl ?_
     refine TA.off 11 [0] rfl (Gd.at 6 true 18 (decide (S1 > (0 : Int))) rfl rfl rfl (beq_ft H15)) rfl rfl (by kernel_rfl) rfl ?_
     refine TA.off 12 [0] rfl (Gd.at 6 true 18 (decide (S1 > (0 : Int))) rfl rfl rfl (beq_ft H15)) rfl rfl (by kernel_rfl) rfl ?_
     refine TA.off 13 [0] rfl (Gd.at 6 true 18 (decide (S1 > (0 : Int))) rfl rfl rfl (beq_ft H15)) rfl rfl (by kernel_rfl) rfl ?_
     refine TA.off 14 [0] rfl (Gd.at 6 true 18 (decide (S1 > (0 : Int))) rfl rfl rfl (beq_ft H15)) rfl rfl (by kernel_rfl) rfl ?_
     refine TA.y 15 [0] rfl (Y.pick_f H15 rfl rfl) (Gd.at 3 false 15 (!R11) rfl rfl rfl (beq_ff H14)) rfl rfl (by kernel_rfl) rfl ?_
     refine TA.y 16 [0] rfl (Y.pick_f H14 rfl rfl) rfl rfl rfl (by kernel_rfl) rfl ?_
     refine TA.nil (by kernel_rfl) ?_
     exact TE.jb_go () [] ⟨rfl, rfl, rfl, rfl, rfl, trivial⟩ rfl
    refine TE.next ?_
    refine TW.cond rfl (fun H21 => ?_) (fun H21 => ?_)
    ·refine TW.seq ?_
     refine TW.region ?_
     refine TO.y (Y.assign rfl) rfl rfl rfl ?_
     refine TO.nil ?_
     refine TE.next ?_
     refine TW.ret ?_
     refine TE.block_ret ?_
     refine TE.then_ret ?_
     refine TE.lp_ret ?_
     refine TE.block_ret ?_
     refine TE.jn_done ?_
     refine TE.then_ret ?_
     exact TE.leaf fun _ _ hf_ hs_ => ret_any (rs := [.tmp 2]) (vs := [.bool false]) (.inl rfl) rfl ⟨rfl, trivial⟩ hf_ hs_ ⟨(), rfl, hs_.pulls [] rfl⟩
    refine TW.skip ?_
    refine TE.block_normal ?_
    refine TE.next ?_
    refine TW.region ?_
    refine TO.y (Y.add rfl rfl) rfl rfl rfl ?_
    refine TO.y (Y.move rfl) rfl rfl rfl ?_
    refine TO.nil ?_
    exact TE.lp_go () [] ⟨rfl, rfl, rfl, rfl, trivial⟩ rfl
   refine TW.exit ?_
   refine TE.then_exit ?_
   refine TE.lp_exit ?_
   refine TE.block_exit ?_
   exact TE.jn_go () [] trivial rfl
  refine TE.next ?_
  refine TW.seq ?_
  refine TW.region ?_
  refine TO.y (Y.assign rfl) rfl rfl rfl ?_
  refine TO.nil ?_
  refine TE.next ?_
  refine TW.ret ?_
  exact TE.leaf fun _ _ hf_ hs_ => ret_any (rs := [.tmp 2]) (vs := [.bool true]) (.inl rfl) rfl ⟨rfl, trivial⟩ hf_ hs_ ⟨(), rfl, hs_.pulls [] rfl⟩

/-- loop.example/g00950/impl.MemOk -/
noncomputable def impl_MemOk (l : List Ent) : Option Bool :=
  (if (decide (((l.length : Nat) : Int) ≤ (60 : Int))) = true then ((impl_inOrder l).bind fun R4 =>
  some R4)
  else (some false)).bind (fun (T1 : Bool) =>
  some T1)

theorem impl_MemOk_con (l : List Ent) (V_l0 : Value) (r : Bool) (hm : impl_MemOk l = some r) :
    Con Try.prog 82 [V_l0] [] [(V_l0, lc l)] (fun _ : Unit => .bool r) (fun _ => []) := by
  refine Con.intro (args := [V_l0]) (n := 10) (val := fun r (_ : Unit) => .bool r) (post := fun _ _ => []) (m := impl_MemOk l) Try.func82 rfl rfl rfl hm ?_
  intro w S hrd
  have HB_V_l0 := hrd _ (.head _)
  clear hrd
  unfold impl_MemOk
  refine TW.seq ?_
  refine TW.region ?_
  refine TO.y (Y.assign rfl) rfl rfl rfl ?_
  refine TO.nil ?_
  refine TE.next ?_
  refine TW.seq ?_
  refine TW.joinBX (τ := Bool) (X := Unit) (fun T _ => [(2, .bool T)]) (fun _ _ => []) ?_ (fun T1 X2 => ?_)
  ·refine TW.region ?_
   refine TO.y (Y.move rfl) rfl rfl rfl ?_
   refine TO.y (Y.len (l := l) ke28 (Base.can HB_V_l0) rfl) rfl rfl rfl ?_
   refine TO.y (Y.leq rfl rfl) rfl rfl rfl ?_
   refine TO.y (Y.move rfl) rfl rfl rfl ?_
   refine TO.ite (b := decide (((l.length : Nat) : Int) ≤ (60 : Int))) (fun H3 => ?_) (fun H3 => ?_)
   ·refine TO.y (Y.move rfl) (Gd.at 3 true 6 (decide (((l.length : Nat) : Int) ≤ (60 : Int))) rfl rfl rfl (beq_tt H3)) rfl rfl ?_
    refine TO.bind fun R4 H5 => ?_
    refine TO.ef (Ef.call (rest := []) [] (impl_inOrder_con l V_l0 R4 H5) kc69 rfl rfl ⟨(Base.can HB_V_l0), trivial⟩) (Gd.at 3 true 6 (decide (((l.length : Nat) : Int) ≤ (60 : Int))) rfl rfl rfl (beq_tt H3)) rfl rfl (fun _ => ?_)
    refine TO.y (Y.pick_t H3 rfl rfl) rfl rfl rfl ?_
    refine TO.y (Y.assign rfl) rfl rfl rfl ?_
    refine TO.nil ?_
    exact TE.jb_go () [] ⟨rfl, trivial⟩ rfl
   refine TO.off (Gd.at 3 true 6 (decide (((l.length : Nat) : Int) ≤ (60 : Int))) rfl rfl rfl (beq_ft H3)) rfl rfl ?_
   refine TO.off (Gd.at 3 true 6 (decide (((l.length : Nat) : Int) ≤ (60 : Int))) rfl rfl rfl (beq_ft H3)) rfl rfl ?_
   refine TO.y (Y.pick_f H3 rfl rfl) rfl rfl rfl ?_
   refine TO.y (Y.assign rfl) rfl rfl rfl ?_
   refine TO.nil ?_
   exact TE.jb_go () [] ⟨rfl, trivial⟩ rfl
  refine TE.next ?_
  refine TW.ret ?_
  exact TE.leaf fun _ _ hf_ hs_ => ret_any (rs := [.tmp 2]) (vs := [.bool T1]) (.inl rfl) rfl ⟨rfl, trivial⟩ hf_ hs_ ⟨(), rfl, hs_.pulls [] rfl⟩

/-- loop.example/g00950/impl.seqRange -/
noncomputable def impl_seqRange (l : List Ent) : Option (Int × Int) :=
  bindC (loopO (fun (S1 : Int × Int × Int) => if (decide (S1.2.2 < ((l.length : Nat) : Int))) = true then ((idx l S1.2.2).bind fun E6 =>
  some (.go (goMin S1.1 E6.Seq, goMax S1.2.1 E6.Seq, IntKind.i64.wrap (S1.2.2 + (1 : Int)))))
  else (some (.done (.go (S1.1, S1.2.1)))))
  ((1000001 : Int), (-1 : Int), (0 : Int)))
  (fun (T3 : Int × Int) => some (T3.1, T3.2))

theorem impl_seqRange_con (l : List Ent) (V_l0 : Value) (r : Int × Int) (hm : impl_seqRange l = some r) :
    Con Try.prog 83 [V_l0] [] [(V_l0, lc l)] (fun _ : Unit => .tuple #[.int .i64 r.1, .int .i64 r.2]) (fun _ => []) := by
  refine Con.intro (args := [V_l0]) (n := 25) (val := fun r (_ : Unit) => .tuple #[.int .i64 r.1, .int .i64 r.2]) (post := fun _ _ => []) (m := impl_seqRange l) Try.func83 rfl rfl rfl hm ?_
  intro w S hrd
  have HB_V_l0 := hrd _ (.head _)
  clear hrd
  unfold impl_seqRange
  refine TW.seq ?_
  refine TW.region ?_
  refine TO.y (Y.assign rfl) rfl rfl rfl ?_
  refine TO.y (Y.assign rfl) rfl rfl rfl ?_
  refine TO.nil ?_
  refine TE.next ?_
  refine TW.seq ?_
  refine TW.region ?_
  refine TO.y (Y.assign rfl) rfl rfl rfl ?_
  refine TO.y (Y.assign rfl) rfl rfl rfl ?_
  refine TO.nil ?_
  refine TE.next ?_
  refine TW.seq ?_
  refine TW.seq ?_
  refine TW.region ?_
  refine TO.y (Y.move rfl) rfl rfl rfl ?_
  refine TO.y (Y.len (l := l) ke28 (Base.can HB_V_l0) rfl) rfl rfl rfl ?_
  refine TO.y (Y.move rfl) rfl rfl rfl ?_
  refine TO.nil ?_
  refine TE.next ?_
  refine TW.joinX (τ := Int × Int) (X := Unit) (fun T _ => [(4, .int .i64 T.1), (5, .int .i64 T.2)]) (fun _ _ => []) ?_ (fun T3 X4 => ?_)
  ·refine TW.block ?_
   refine TW.loopX (σ := Int × Int × Int) (X := Unit) (fun T _ => [(4, .int .i64 T.1), (5, .int .i64 T.2.1), (8, V_l0), (9, .int .i64 ((l.length : Nat) : Int)), (10, .int .i64 T.2.2)]) (fun _ _ => []) () [] ⟨rfl, rfl, rfl, rfl, rfl, trivial⟩ rfl (fun S1 X2 => ?_)
   refine TW.seq ?_
   refine TW.region ?_
   refine TO.y (Y.lss rfl rfl) rfl rfl rfl ?_
   refine TO.nil ?_
   refine TE.next ?_
   refine TW.seq ?_
   refine TW.cond rfl (fun H5 => ?_) (fun H5 => ?_)
   ·refine TW.skip ?_
    refine TE.next ?_
    refine TW.seq ?_
    refine TW.block ?_
    refine TW.seq ?_
    refine TW.region ?_
    refine TO.bind fun E6 H7 => ?_
    refine TO.y (Y.index ke28 (Base.can HB_V_l0) H7 rfl rfl) rfl rfl rfl ?_
    refine TO.y (Y.load_el (us := [strV E6.Key, .int .i64 E6.Seq, .bool E6.Del, strV E6.Val]) (u := .agg #[strV E6.Key, .int .i64 E6.Seq, .bool E6.Del, strV E6.Val]) kk51 rfl (Base.can HB_V_l0) (idx_get H7).2.2 rfl rfl rfl rfl rfl) rfl rfl rfl ?_
    refine TO.ef (Ef.alloc kz51 rfl) rfl rfl rfl (fun B8 => ?_)
    refine TO.ef0 (Ef.store_box (us := [strV E6.Key, .int .i64 E6.Seq, .bool E6.Del, strV E6.Val]) (vs' := [strV E6.Key, .int .i64 E6.Seq, .bool E6.Del, strV E6.Val]) (is' := [.box B8 51 [strV E6.Key, .int .i64 E6.Seq, .bool E6.Del, strV E6.Val]]) 0 kk51 rfl rfl rfl (Cel.plain rfl rfl) rfl rfl rfl rfl) rfl rfl (fun _ => ?_)
    refine TO.nil ?_
    refine TE.next ?_
    refine TW.draw (isH := [.box B8 51 [strV E6.Key, .int .i64 E6.Seq, .bool E6.Del, strV E6.Val]]) hMix ?_
    refine TA.y 0 [0] rfl (Y.move rfl) rfl rfl rfl (by kernel_rfl) rfl ?_
    refine TA.y 1 [0] rfl (Y.field_box kf51_1 rfl rfl) rfl rfl rfl (by kernel_rfl) rfl ?_
    refine TA.y 2 [0] rfl (Y.load_box (v := .int .i64 E6.Seq) 0 kk3 rfl rfl rfl) rfl rfl rfl (by kernel_rfl) rfl ?_
    refine TA.y 3 [0] rfl (Y.min2 rfl rfl) rfl rfl rfl (by kernel_rfl) rfl ?_
    refine TA.y 4 [0] rfl (Y.move rfl) rfl rfl rfl (by kernel_rfl) rfl ?_
    refine TA.y 5 [0] rfl (Y.field_box kf51_1 rfl rfl) rfl rfl rfl (by kernel_rfl) rfl ?_
    refine TA.y 6 [0] rfl (Y.load_box (v := .int .i64 E6.Seq) 0 kk3 rfl rfl rfl) rfl rfl rfl (by kernel_rfl) rfl ?_
    refine TA.y 7 [0] rfl (Y.max2 rfl rfl) rfl rfl rfl (by kernel_rfl) rfl ?_
    refine TA.y 8 [0] rfl (Y.assign rfl) rfl rfl rfl (by kernel_rfl) rfl ?_
    refine TA.y 9 [0] rfl (Y.assign rfl) rfl rfl rfl (by kernel_rfl) rfl ?_
    refine TA.nil (by kernel_rfl) ?_
    refine TE.block_normal ?_
    refine TE.next ?_
    refine TW.region ?_
    refine TO.y (Y.add rfl rfl) rfl rfl rfl ?_
    refine TO.y (Y.move rfl) rfl rfl rfl ?_
    refine TO.nil ?_
    exact TE.lp_go () [] ⟨rfl, rfl, rfl, rfl, rfl, trivial⟩ rfl
   refine TW.exit ?_
   refine TE.then_exit ?_
   refine TE.lp_exit ?_
   refine TE.block_exit ?_
   exact TE.jn_go () [] ⟨rfl, rfl, trivial⟩ rfl
  refine TE.next ?_
  refine TW.seq ?_
  refine TW.region ?_
  refine TO.y (Y.move rfl) rfl rfl rfl ?_
  refine TO.y (Y.move rfl) rfl rfl rfl ?_
  refine TO.y (Y.assign rfl) rfl rfl rfl ?_
  refine TO.y (Y.assign rfl) rfl rfl rfl ?_
  refine TO.nil ?_
  refine TE.next ?_
  refine TW.ret ?_
  exact TE.leaf fun _ _ hf_ hs_ => ret_any (rs := [.tmp 2, .tmp 3]) (vs := [.int .i64 T3.1, .int .i64 T3.2]) (.inl rfl) rfl ⟨rfl, ⟨rfl, trivial⟩⟩ hf_ hs_ ⟨(), rfl, hs_.pulls [] rfl⟩

/-- loop.example/g00950/impl.tablesOk -/
noncomputable def impl_tablesOk (e : Eng) : Option Bool :=
  (if (decide (((e.Tables.length : Nat) : Int) > (6 : Int))) = true then (some true)
  else ((impl_totalOf e.Tables).bind fun R5 =>
  if (decide (IntKind.i64.wrap (R5 + ((e.Mem.length : Nat) : Int)) > (400 : Int))) = true then (some true)
  else ((impl_MemOk e.Mem).bind fun R9 =>
  some (!R9)))).bind (fun (T2 : Bool) =>
  if T2 = true then (some false)
  else ((impl_seqRange e.Mem).bind fun R13 =>
  if (decide (R13.2 > e.Seq)) = true then (some false)
  else (bindC (loopO (fun (S17 : Int × Int) => if (decide (S17.2 < ((e.Tables.length : Nat) : Int))) = true then ((idx e.Tables S17.2).bind fun E22 =>
  (impl_seqRange E22).bind fun R25 =>
  (if (decide (((E22.length : Nat) : Int) = (0 : Int))) = true then (some true)
  else ((impl_inOrder E22).bind fun R31 =>
  if (!R31) = true then (some true)
  else (if (decide (R25.2 ≥ S17.1)) = true then (some true)
  else (some (decide (R25.2 > e.Seq)))))).bind (fun (T28 : Bool) =>
  if T28 = true then (some (.done (.done false)))
  else (some (.go (R25.1, IntKind.i64.wrap (S17.2 + (1 : Int)))))))
  else (some (.done (.go ()))))
  (R13.1, (0 : Int)))
  (fun (T19 : Unit) => some true))))

theorem impl_tablesOk_con (e : Eng) (V_e0 : Value) (V_e1 : Value) (V_e3 : Value) (r : Bool) (hm : impl_tablesOk e = some r) :
    Con Try.prog 62 [.agg #[V_e0, V_e1, .int .i64 e.Seq, V_e3]] [] [(V_e0, lc e.Mem), (V_e1, lc e.Tables), (V_e3, lc e.Snaps)] (fun _ : Unit => .bool r) (fun _ => []) := by
  refine Con.intro (args := [.agg #[V_e0, V_e1, .int .i64 e.Seq, V_e3]]) (n := 72) (val := fun r (_ : Unit) => .bool r) (post := fun _ _ => []) (m := impl_tablesOk e) Try.func62 rfl rfl rfl hm ?_
  intro w S hrd
  have HB_V_e0 := hrd _ (.head _)
  have HB_V_e1 := hrd _ (.tail _ (.head _))
  have HB_V_e3 := hrd _ (.tail _ (.tail _ (.head _)))
  clear hrd
  unfold impl_tablesOk
  refine TW.seq ?_
  refine TW.region ?_
  refine TO.ef (Ef.box rfl (Cel.agg ⟨(One.can (Base.can HB_V_e0)), (One.can (Base.can HB_V_e1)), (One.plain rfl), (One.can (Base.can HB_V_e3)), trivial⟩)) rfl rfl rfl (fun B1 => ?_)
  refine TO.y (Y.assign rfl) rfl rfl rfl ?_
  refine TO.nil ?_
  refine TE.next ?_
  refine TW.seq ?_
  refine TW.seq ?_
  refine TW.joinBX (τ := Bool) (X := Unit) (fun T _ => [(1, .pointer (some ⟨B1, 0, none⟩)), (28, .bool T)]) (fun _ _ => [.box B1 31 [V_e0, V_e1, .int .i64 e.Seq, V_e3]]) ?_ (fun T2 X3 => ?_)
  ·refine TW.draw (isH := [.box B1 31 [V_e0, V_e1, .int .i64 e.Seq, V_e3]]) hMix ?_
   refine TA.y 0 [0] rfl (Y.field_box kf31_1 rfl rfl) rfl rfl rfl (by kernel_rfl) rfl ?_
   refine TA.y 1 [0] rfl (Y.load_box (v := V_e1) 0 kk29 rfl rfl rfl) rfl rfl rfl (by kernel_rfl) rfl ?_
   refine TA.y 2 [0] rfl (Y.len (l := e.Tables) ke29 (Base.can HB_V_e1) rfl) rfl rfl rfl (by kernel_rfl) rfl ?_
   refine TA.y 3 [0] rfl (Y.gtr rfl rfl) rfl rfl rfl (by kernel_rfl) rfl ?_
   refine TA.y 4 [0] rfl (Y.move rfl) rfl rfl rfl (by kernel_rfl) rfl ?_
   refine TA.ite (b := decide (((e.Tables.length : Nat) : Int) > (6 : Int))) (fun H4 => ?_) (fun H4 => ?_)
   ·refine TA.off 5 [0] rfl (Gd.at 4 false 13 (decide (((e.Tables.length : Nat) : Int) > (6 : Int))) rfl rfl rfl (beq_tf H4)) rfl rfl (by kernel_rfl) rfl ?_
    refine TA.off 6 [0] rfl (Gd.at 4 false 13 (decide (((e.Tables.length : Nat) : Int) > (6 : Int))) rfl rfl rfl (beq_tf H4)) rfl rfl (by kernel_rfl) rfl ?_
    refine TA.off 7 [0] rfl (Gd.at 4 false 13 (decide (((e.Tables.length : Nat) : Int) > (6 : Int))) rfl rfl rfl (beq_tf H4)) rfl rfl (by kernel_rfl) rfl ?_
    refine TA.off 8 [0] rfl (Gd.at 4 false 13 (decide (((e.Tables.length : Nat) : Int) > (6 : Int))) rfl rfl rfl (beq_tf H4)) rfl rfl (by kernel_rfl) rfl ?_
    refine TA.off 9 [0] rfl (Gd.at 4 false 13 (decide (((e.Tables.length : Nat) : Int) > (6 : Int))) rfl rfl rfl (beq_tf H4)) rfl rfl (by kernel_rfl) rfl ?_
    refine TA.off 10 [0] rfl (Gd.at 4 false 13 (decide (((e.Tables.length : Nat) : Int) > (6 : Int))) rfl rfl rfl (beq_tf H4)) rfl rfl (by kernel_rfl) rfl ?_
    refine TA.off 11 [0] rfl (Gd.at 4 false 13 (decide (((e.Tables.length : Nat) : Int) > (6 : Int))) rfl rfl rfl (beq_tf H4)) rfl rfl (by kernel_rfl) rfl ?_
    refine TA.off 12 [0] rfl (Gd.at 4 false 13 (decide (((e.Tables.length : Nat) : Int) > (6 : Int))) rfl rfl rfl (beq_tf H4)) rfl rfl (by kernel_rfl) rfl ?_
    refine TA.y 13 [0] rfl (Y.pick_t H4 rfl rfl) rfl rfl rfl (by kernel_rfl) rfl ?_
    refine TA.y 14 [0] rfl (Y.move rfl) rfl rfl rfl (by kernel_rfl) rfl ?_
    refine TA.off 15 [0] rfl (Gd.at 14 false 23 true rfl rfl rfl rfl) rfl rfl (by kernel_rfl) rfl ?_
    refine TA.off 16 [0] rfl (Gd.at 14 false 23 true rfl rfl rfl rfl) rfl rfl (by kernel_rfl) rfl ?_
    refine TA.off 17 [0] rfl (Gd.at 14 false 23 true rfl rfl rfl rfl) rfl rfl (by kernel_rfl) rfl ?_
    refine TA.off 18 [0] rfl (Gd.at 14 false 23 true rfl rfl rfl rfl) rfl rfl (by kernel_rfl) rfl ?_
    refine TA.y 19 [0] rfl (Y.pick_t rfl rfl rfl) rfl rfl rfl (by kernel_rfl) rfl ?_
    refine TA.nil (by kernel_rfl) ?_
    exact TE.jb_go () [0] ⟨rfl, rfl, trivial⟩ rfl
   refine TA.y 5 [0] rfl (Y.field_box kf31_1 rfl rfl) (Gd.at 4 false 13 (decide (((e.Tables.length : Nat) : Int) > (6 : Int))) rfl rfl rfl (beq_ff H4)) rfl rfl (by kernel_rfl) rfl ?_
   refine TA.y 6 [0] rfl (Y.load_box (v := V_e1) 0 kk29 rfl rfl rfl) (Gd.at 4 false 13 (decide (((e.Tables.length : Nat) : Int) > (6 : Int))) rfl rfl rfl (beq_ff H4)) rfl rfl (by kernel_rfl) rfl ?_
   refine TA.y 8 [0] rfl (Y.field_box kf31_0 rfl rfl) (Gd.at 4 false 13 (decide (((e.Tables.length : Nat) : Int) > (6 : Int))) rfl rfl rfl (beq_ff H4)) rfl rfl (by kernel_rfl) rfl ?_
   refine TA.y 9 [0] rfl (Y.load_box (v := V_e0) 0 kk28 rfl rfl rfl) (Gd.at 4 false 13 (decide (((e.Tables.length : Nat) : Int) > (6 : Int))) rfl rfl rfl (beq_ff H4)) rfl rfl (by kernel_rfl) rfl ?_
   refine TA.y 10 [0] rfl (Y.len (l := e.Mem) ke28 (Base.can HB_V_e0) rfl) (Gd.at 4 false 13 (decide (((e.Tables.length : Nat) : Int) > (6 : Int))) rfl rfl rfl (beq_ff H4)) rfl rfl (by kernel_rfl) rfl ?_
   refine TA.bind fun R5 H6 => ?_
   refine TA.one 7 (by kernel_rfl) ?_
   refine TX.ef [0] rfl (Ef.call (rest := [.box B1 31 [V_e0, V_e1, .int .i64 e.Seq, V_e3]]) [0] (impl_totalOf_con e.Tables V_e1 R5 H6) kc47 rfl rfl ⟨(Base.can HB_V_e1), trivial⟩) (Gd.at 4 false 13 (decide (((e.Tables.length : Nat) : Int) > (6 : Int))) rfl rfl rfl (beq_ff H4)) rfl rfl (fun _ => rfl) (fun _ => ?_)
   refine TA.y 11 [0] rfl (Y.add rfl rfl) (Gd.at 4 false 13 (decide (((e.Tables.length : Nat) : Int) > (6 : Int))) rfl rfl rfl (beq_ff H4)) rfl rfl (by kernel_rfl) rfl ?_
   refine TA.y 12 [0] rfl (Y.gtr rfl rfl) (Gd.at 4 false 13 (decide (((e.Tables.length : Nat) : Int) > (6 : Int))) rfl rfl rfl (beq_ff H4)) rfl rfl (by kernel_rfl) rfl ?_
   refine TA.y 13 [0] rfl (Y.pick_f H4 rfl rfl) rfl rfl rfl (by kernel_rfl) rfl ?_
   refine TA.y 14 [0] rfl (Y.move rfl) rfl rfl rfl (by kernel_rfl) rfl ?_
   refine TA.ite (b := decide (IntKind.i64.wrap (R5 + ((e.Mem.length : Nat) : Int)) > (400 : Int))) (fun H8 => ?_) (fun H8 => ?_)
   ·refine TA.off 15 [0] rfl (Gd.at 14 false 23 (decide (IntKind.i64.wrap (R5 + ((e.Mem.length : Nat) : Int)) > (400 : Int))) rfl rfl rfl (beq_tf H8)) rfl rfl (by kernel_rfl) rfl ?_
    refine TA.off 16 [0] rfl (Gd.at 14 false 23 (decide (IntKind.i64.wrap (R5 + ((e.Mem.length : Nat) : Int)) > (400 : Int))) rfl rfl rfl (beq_tf H8)) rfl rfl (by kernel_rfl) rfl ?_
    refine TA.off 17 [0] rfl (Gd.at 14 false 23 (decide (IntKind.i64.wrap (R5 + ((e.Mem.length : Nat) : Int)) > (400 : Int))) rfl rfl rfl (beq_tf H8)) rfl rfl (by kernel_rfl) rfl ?_
    refine TA.off 18 [0] rfl (Gd.at 14 false 23 (decide (IntKind.i64.wrap (R5 + ((e.Mem.length : Nat) : Int)) > (400 : Int))) rfl rfl rfl (beq_tf H8)) rfl rfl (by kernel_rfl) rfl ?_
    refine TA.y 19 [0] rfl (Y.pick_t H8 rfl rfl) rfl rfl rfl (by kernel_rfl) rfl ?_
    refine TA.nil (by kernel_rfl) ?_
    exact TE.jb_go () [0] ⟨rfl, rfl, trivial⟩ rfl
   refine TA.y 15 [0] rfl (Y.field_box kf31_0 rfl rfl) (Gd.at 14 false 23 (decide (IntKind.i64.wrap (R5 + ((e.Mem.length : Nat) : Int)) > (400 : Int))) rfl rfl rfl (beq_ff H8)) rfl rfl (by kernel_rfl) rfl ?_
   refine TA.y 16 [0] rfl (Y.load_box (v := V_e0) 0 kk28 rfl rfl rfl) (Gd.at 14 false 23 (decide (IntKind.i64.wrap (R5 + ((e.Mem.length : Nat) : Int)) > (400 : Int))) rfl rfl rfl (beq_ff H8)) rfl rfl (by kernel_rfl) rfl ?_
   refine TA.bind fun R9 H10 => ?_
   refine TA.one 17 (by kernel_rfl) ?_
   refine TX.ef [0] rfl (Ef.call (rest := [.box B1 31 [V_e0, V_e1, .int .i64 e.Seq, V_e3]]) [0] (impl_MemOk_con e.Mem V_e0 R9 H10) kc82 rfl rfl ⟨(Base.can HB_V_e0), trivial⟩) (Gd.at 14 false 23 (decide (IntKind.i64.wrap (R5 + ((e.Mem.length : Nat) : Int)) > (400 : Int))) rfl rfl rfl (beq_ff H8)) rfl rfl (fun _ => rfl) (fun _ => ?_)
   refine TA.y 18 [0] rfl (Y.not rfl) (Gd.at 14 false 23 (decide (IntKind.i64.wrap (R5 + ((e.Mem.length : Nat) : Int)) > (400 : Int))) rfl rfl rfl (beq_ff H8)) rfl rfl (by kernel_rfl) rfl ?_
   refine TA.y 19 [0] rfl (Y.pick_f H8 rfl rfl) rfl rfl rfl (by kernel_rfl) rfl ?_
   refine TA.nil (by kernel_rfl) ?_
   exact TE.jb_go () [0] ⟨rfl, rfl, trivial⟩ rfl
  refine TE.next ?_
  refine TW.cond rfl (fun H12 => ?_) (fun H12 => ?_)
  ·refine TW.seq ?_
   refine TW.region ?_
   refine TO.y (Y.assign rfl) rfl rfl rfl ?_
   refine TO.nil ?_
   refine TE.next ?_
   refine TW.ret ?_
   refine TE.then_ret ?_
   exact TE.leaf fun _ _ hf_ hs_ => ret_any (rs := [.tmp 2]) (vs := [.bool false]) (.inl rfl) rfl ⟨rfl, trivial⟩ hf_ hs_ ⟨(), rfl, hs_.pulls [] rfl⟩
  refine TW.skip ?_
  refine TE.next ?_
  refine TW.seq ?_
  refine TW.region ?_
  refine TO.y (Y.field_box kf31_0 rfl rfl) rfl rfl rfl ?_
  refine TO.y (Y.load_box (v := V_e0) 0 kk28 rfl rfl rfl) rfl rfl rfl ?_
  refine TO.bind fun R13 H14 => ?_
  refine TO.ef (Ef.call (rest := [.box B1 31 [V_e0, V_e1, .int .i64 e.Seq, V_e3]]) [0] (impl_seqRange_con e.Mem V_e0 R13 H14) kc83 rfl rfl ⟨(Base.can HB_V_e0), trivial⟩) rfl rfl rfl (fun _ => ?_)
  refine TO.y (Y.move rfl) rfl rfl rfl ?_
  refine TO.y (Y.extract rfl rfl) rfl rfl rfl ?_
  refine TO.y (Y.extract rfl rfl) rfl rfl rfl ?_
  refine TO.y (Y.assign rfl) rfl rfl rfl ?_
  refine TO.y (Y.assign rfl) rfl rfl rfl ?_
  refine TO.nil ?_
  refine TE.next ?_
  refine TW.seq ?_
  refine TW.seq ?_
  refine TW.region ?_
  refine TO.y (Y.move rfl) rfl rfl rfl ?_
  refine TO.y (Y.field_box kf31_2 rfl rfl) rfl rfl rfl ?_
  refine TO.y (Y.load_box (v := .int .i64 e.Seq) 0 kk3 rfl rfl rfl) rfl rfl rfl ?_
  refine TO.y (Y.gtr rfl rfl) rfl rfl rfl ?_
  refine TO.nil ?_
  refine TE.next ?_
  refine TW.cond rfl (fun H16 => ?_) (fun H16 => ?_)
  ·refine TW.seq ?_
   refine TW.region ?_
   refine TO.y (Y.assign rfl) rfl rfl rfl ?_
   refine TO.nil ?_
   refine TE.next ?_
   refine TW.ret ?_
   refine TE.then_ret ?_
   exact TE.leaf fun _ _ hf_ hs_ => ret_any (rs := [.tmp 2]) (vs := [.bool false]) (.inl rfl) rfl ⟨rfl, trivial⟩ hf_ hs_ ⟨(), rfl, hs_.pulls [] rfl⟩
  refine TW.skip ?_
  refine TE.next ?_
  refine TW.seq ?_
  refine TW.seq ?_
  refine TW.region ?_
  refine TO.y (Y.field_box kf31_1 rfl rfl) rfl rfl rfl ?_
  refine TO.y (Y.load_box (v := V_e1) 0 kk29 rfl rfl rfl) rfl rfl rfl ?_
  refine TO.y (Y.len (l := e.Tables) ke29 (Base.can HB_V_e1) rfl) rfl rfl rfl ?_
  refine TO.y (Y.move rfl) rfl rfl rfl ?_
  refine TO.nil ?_
  refine TE.next ?_
  refine TW.joinX (τ := Unit) (X := Unit) (fun _ _ => []) (fun _ _ => []) ?_ (fun T19 X20 => ?_)
  ·refine TW.block ?_
   refine TW.loopX (σ := Int × Int) (X := Unit) (fun T _ => [(1, .pointer (some ⟨B1, 0, none⟩)), (3, .int .i64 T.1), (40, V_e1), (41, .int .i64 ((e.Tables.length : Nat) : Int)), (42, .int .i64 T.2)]) (fun _ _ => [.box B1 31 [V_e0, V_e1, .int .i64 e.Seq, V_e3]]) () [0] ⟨rfl, rfl, rfl, rfl, rfl, trivial⟩ rfl (fun S17 X18 => ?_)
   refine TW.seq ?_
   refine TW.region ?_
   refine TO.y (Y.lss rfl rfl) rfl rfl rfl ?_
   refine TO.nil ?_
   refine TE.next ?_
   refine TW.seq ?_
   refine TW.cond rfl (fun H21 => ?_) (fun H21 => ?_)
   ·refine TW.skip ?_
    refine TE.next ?_
    refine TW.seq ?_
    refine TW.block ?_
    refine TW.seq ?_
    refine TW.region ?_
    refine TO.bind fun E22 H23 => ?_
    refine TO.y (Y.index ke29 (Base.can HB_V_e1) H23 rfl rfl) rfl rfl rfl ?_
    have Q24 : Base w S (elv w V_e1 (S17.2.toNat * 1 + 0)) (lc E22) := Base.el HB_V_e1 (idx_get H23).2.2 rfl rfl
    refine TO.y (Y.load_base (α := List Ent) (u := (elv w V_e1 (S17.2.toNat * 1 + 0))) kk28 rfl HB_V_e1 (idx_get H23).2.2 rfl rfl rfl rfl rfl) rfl rfl rfl ?_
    refine TO.y (Y.assign rfl) rfl rfl rfl ?_
    refine TO.nil ?_
    refine TE.next ?_
    refine TW.seq ?_
    refine TW.region ?_
    refine TO.y (Y.move rfl) rfl rfl rfl ?_
    refine TO.bind fun R25 H26 => ?_
    refine TO.ef (Ef.call (rest := [.box B1 31 [V_e0, V_e1, .int .i64 e.Seq, V_e3]]) [0] (impl_seqRange_con E22 (elv w V_e1 (S17.2.toNat * 1 + 0)) R25 H26) kc83 rfl rfl ⟨(Base.can Q24), trivial⟩) rfl rfl rfl (fun _ => ?_)
    refine TO.y (Y.move rfl) rfl rfl rfl ?_
    refine TO.y (Y.extract rfl rfl) rfl rfl rfl ?_
    refine TO.y (Y.extract rfl rfl) rfl rfl rfl ?_
    refine TO.y (Y.assign rfl) rfl rfl rfl ?_
    refine TO.y (Y.assign rfl) rfl rfl rfl ?_
    refine TO.nil ?_
    refine TE.next ?_
    refine TW.seq ?_
    refine TW.seq ?_
    refine TW.joinBX (τ := Bool) (X := Unit) (fun T _ => [(1, .pointer (some ⟨B1, 0, none⟩)), (7, .int .i64 R25.1), (40, V_e1), (41, .int .i64 ((e.Tables.length : Nat) : Int)), (42, .int .i64 S17.2), (69, .bool T)]) (fun _ _ => [.box B1 31 [V_e0, V_e1, .int .i64 e.Seq, V_e3]]) ?_ (fun T28 X29 => ?_)
    ·refine TW.region ?_
     refine TO.y (Y.move rfl) rfl rfl rfl ?_
     refine TO.y (Y.len (l := E22) ke28 (Base.can Q24) rfl) rfl rfl rfl ?_
     refine TO.y (Y.eql rfl rfl) rfl rfl rfl ?_
     refine TO.y (Y.move rfl) rfl rfl rfl ?_
     refine TO.ite (b := decide (((E22.length : Nat) : Int) = (0 : Int))) (fun H30 => ?_) (fun H30 => ?_)
     ·refine TO.off (Gd.at 3 false 54 (decide (((E22.length : Nat) : Int) = (0 : Int))) rfl rfl rfl (beq_tf H30)) rfl rfl ?_
      refine TO.off (Gd.at 3 false 54 (decide (((E22.length : Nat) : Int) = (0 : Int))) rfl rfl rfl (beq_tf H30)) rfl rfl ?_
      refine TO.off (Gd.at 3 false 54 (decide (((E22.length : Nat) : Int) = (0 : Int))) rfl rfl rfl (beq_tf H30)) rfl rfl ?_
      refine TO.y (Y.pick_t H30 rfl rfl) rfl rfl rfl ?_
      refine TO.y (Y.move rfl) rfl rfl rfl ?_
      refine TO.off (Gd.at 8 false 59 true rfl rfl rfl rfl) rfl rfl ?_
      refine TO.off (Gd.at 8 false 59 true rfl rfl rfl rfl) rfl rfl ?_
      refine TO.off (Gd.at 8 false 59 true rfl rfl rfl rfl) rfl rfl ?_
      refine TO.y (Y.pick_t rfl rfl rfl) rfl rfl rfl ?_
      refine TO.y (Y.move rfl) rfl rfl rfl ?_
      refine TO.off (Gd.at 13 false 64 true rfl rfl rfl rfl) rfl rfl ?_
      refine TO.off (Gd.at 13 false 64 true rfl rfl rfl rfl) rfl rfl ?_
      refine TO.off (Gd.at 13 false 64 true rfl rfl rfl rfl) rfl rfl ?_
      refine TO.off (Gd.at 13 false 64 true rfl rfl rfl rfl) rfl rfl ?_
      refine TO.y (Y.pick_t rfl rfl rfl) rfl rfl rfl ?_
      refine TO.nil ?_
      exact TE.jb_go () [0] ⟨rfl, rfl, rfl, rfl, rfl, rfl, trivial⟩ rfl
     refine TO.y (Y.move rfl) (Gd.at 3 false 54 (decide (((E22.length : Nat) : Int) = (0 : Int))) rfl rfl rfl (beq_ff H30)) rfl rfl ?_
     refine TO.bind fun R31 H32 => ?_
     refine TO.ef (Ef.call (rest := [.box B1 31 [V_e0, V_e1, .int .i64 e.Seq, V_e3]]) [0] (impl_inOrder_con E22 (elv w V_e1 (S17.2.toNat * 1 + 0)) R31 H32) kc69 rfl rfl ⟨(Base.can Q24), trivial⟩) (Gd.at 3 false 54 (decide (((E22.length : Nat) : Int) = (0 : Int))) rfl rfl rfl (beq_ff H30)) rfl rfl (fun _ => ?_)
     refine TO.y (Y.not rfl) (Gd.at 3 false 54 (decide (((E22.length : Nat) : Int) = (0 : Int))) rfl rfl rfl (beq_ff H30)) rfl rfl ?_
     refine TO.y (Y.pick_f H30 rfl rfl) rfl rfl rfl ?_
     refine TO.y (Y.move rfl) rfl rfl rfl ?_
     refine TO.ite (b := !R31) (fun H34 => ?_) (fun H34 => ?_)
     ·refine TO.off (Gd.at 8 false 59 (!R31) rfl rfl rfl (beq_tf H34)) rfl rfl ?_
      refine TO.off (Gd.at 8 false 59 (!R31) rfl rfl rfl (beq_tf H34)) rfl rfl ?_
      refine TO.off (Gd.at 8 false 59 (!R31) rfl rfl rfl (beq_tf H34)) rfl rfl ?_
      refine TO.y (Y.pick_t H34 rfl rfl) rfl rfl rfl ?_
      refine TO.y (Y.move rfl) rfl rfl rfl ?_
      refine TO.off (Gd.at 13 false 64 true rfl rfl rfl rfl) rfl rfl ?_
      refine TO.off (Gd.at 13 false 64 true rfl rfl rfl rfl) rfl rfl ?_
      refine TO.off (Gd.at 13 false 64 true rfl rfl rfl rfl) rfl rfl ?_
      refine TO.off (Gd.at 13 false 64 true rfl rfl rfl rfl) rfl rfl ?_
      refine TO.y (Y.pick_t rfl rfl rfl) rfl rfl rfl ?_
      refine TO.nil ?_
      exact TE.jb_go () [0] ⟨rfl, rfl, rfl, rfl, rfl, rfl, trivial⟩ rfl
     refine TO.y (Y.move rfl) (Gd.at 8 false 59 (!R31) rfl rfl rfl (beq_ff H34)) rfl rfl ?_
     refine TO.y (Y.move rfl) (Gd.at 8 false 59 (!R31) rfl rfl rfl (beq_ff H34)) rfl rfl ?_
     refine TO.y (Y.geq rfl rfl) (Gd.at 8 false 59 (!R31) rfl rfl rfl (beq_ff H34)) rfl rfl ?_
     refine TO.y (Y.pick_f H34 rfl rfl) rfl rfl rfl ?_
     refine TO.y (Y.move rfl) rfl rfl rfl ?_
     refine TO.ite (b := decide (R25.2 ≥ S17.1)) (fun H35 => ?_) (fun H35 => ?_)
     ·refine TO.off (Gd.at 13 false 64 (decide (R25.2 ≥ S17.1)) rfl rfl rfl (beq_tf H35)) rfl rfl ?_
      refine TO.off (Gd.at 13 false 64 (decide (R25.2 ≥ S17.1)) rfl rfl rfl (beq_tf H35)) rfl rfl ?_
      refine TO.off (Gd.at 13 false 64 (decide (R25.2 ≥ S17.1)) rfl rfl rfl (beq_tf H35)) rfl rfl ?_
      refine TO.off (Gd.at 13 false 64 (decide (R25.2 ≥ S17.1)) rfl rfl rfl (beq_tf H35)) rfl rfl ?_
      refine TO.y (Y.pick_t H35 rfl rfl) rfl rfl rfl ?_
      refine TO.nil ?_
      exact TE.jb_go () [0] ⟨rfl, rfl, rfl, rfl, rfl, rfl, trivial⟩ rfl
     refine TO.y (Y.move rfl) (Gd.at 13 false 64 (decide (R25.2 ≥ S17.1)) rfl rfl rfl (beq_ff H35)) rfl rfl ?_
     refine TO.y (Y.field_box kf31_2 rfl rfl) (Gd.at 13 false 64 (decide (R25.2 ≥ S17.1)) rfl rfl rfl (beq_ff H35)) rfl rfl ?_
     refine TO.y (Y.load_box (v := .int .i64 e.Seq) 0 kk3 rfl rfl rfl) (Gd.at 13 false 64 (decide (R25.2 ≥ S17.1)) rfl rfl rfl (beq_ff H35)) rfl rfl ?_
     refine TO.y (Y.gtr rfl rfl) (Gd.at 13 false 64 (decide (R25.2 ≥ S17.1)) rfl rfl rfl (beq_ff H35)) rfl rfl ?_
     refine TO.y (Y.pick_f H35 rfl rfl) rfl rfl rfl ?_
     refine TO.nil ?_
     exact TE.jb_go () [0] ⟨rfl, rfl, rfl, rfl, rfl, rfl, trivial⟩ rfl
    refine TE.next ?_
    refine TW.cond rfl (fun H36 => ?_) (fun H36 => ?_)
    ·refine TW.seq ?_
     refine TW.region ?_
     refine TO.y (Y.assign rfl) rfl rfl rfl ?_
     refine TO.nil ?_
     refine TE.next ?_
     refine TW.ret ?_
     refine TE.then_ret ?_
     refine TE.block_ret ?_
     refine TE.then_ret ?_
     refine TE.lp_ret ?_
     refine TE.block_ret ?_
     refine TE.jn_done ?_
     refine TE.then_ret ?_
     exact TE.leaf fun _ _ hf_ hs_ => ret_any (rs := [.tmp 2]) (vs := [.bool false]) (.inl rfl) rfl ⟨rfl, trivial⟩ hf_ hs_ ⟨(), rfl, hs_.pulls [] rfl⟩
    refine TW.skip ?_
    refine TE.next ?_
    refine TW.region ?_
    refine TO.y (Y.move rfl) rfl rfl rfl ?_
    refine TO.y (Y.assign rfl) rfl rfl rfl ?_
    refine TO.nil ?_
    refine TE.block_normal ?_
    refine TE.next ?_
    refine TW.region ?_
    refine TO.y (Y.add rfl rfl) rfl rfl rfl ?_
    refine TO.y (Y.move rfl) rfl rfl rfl ?_
    refine TO.nil ?_
    exact TE.lp_go () [0] ⟨rfl, rfl, rfl, rfl, rfl, trivial⟩ rfl
   refine TW.exit ?_
   refine TE.then_exit ?_
   refine TE.lp_exit ?_
   refine TE.block_exit ?_
   exact TE.jn_go () [] trivial rfl
  refine TE.next ?_
  refine TW.seq ?_
  refine TW.region ?_
  refine TO.y (Y.assign rfl) rfl rfl rfl ?_
  refine TO.nil ?_
  refine TE.next ?_
  refine TW.ret ?_
  exact TE.leaf fun _ _ hf_ hs_ => ret_any (rs := [.tmp 2]) (vs := [.bool true]) (.inl rfl) rfl ⟨rfl, trivial⟩ hf_ hs_ ⟨(), rfl, hs_.pulls [] rfl⟩

end Go.Proofs.Ytjodikomidlhjaa
