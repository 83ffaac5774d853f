/-
  The functions that a law reaches, each as a pure function, with the proof that the program computes it, and the step from a pure law to the given statement. Conditions: none.
-/
import Derived.Test.YtfanigbmjmiidaaP1
set_option linter.unusedVariables false
set_option maxRecDepth 100000
set_option maxHeartbeats 4000000
namespace Go.Proofs.Ytfanigbmjmiidaa
open Go Sl

/-- loop.example/g00950/spec.l20Copy -/
noncomputable def spec_l20Copy (e : Eng) : Option Eng :=
  (app 48 ([] : List Ent) e.Mem).bind fun E7 =>
  (app 8 ([] : List Int) e.Snaps).bind fun E14 =>
  bindC (loopO (fun (S24 : Int × List (List Ent)) => if (decide (S24.1 < ((e.Tables.length : Nat) : Int))) = true then ((idx e.Tables S24.1).bind fun E29 =>
  (app 48 ([] : List Ent) E29).bind fun E35 =>
  (app 24 S24.2 ([E35])).bind fun E39 =>
  some (.go (IntKind.i64.wrap (S24.1 + (1 : Int)), E39)))
  else (some (.done (.go S24.2))))
  ((0 : Int), ([] : List (List Ent))))
  (fun (T26 : List (List Ent)) => some ({ Mem := E7, Tables := T26, Seq := e.Seq, Snaps := E14 : Eng }))

theorem spec_l20Copy_con (e : Eng) (V_e0 : Value) (V_e1 : Value) (V_e3 : Value) (r : Eng) (hm : spec_l20Copy e = some r) :
    Con Try.prog 32 [.agg #[V_e0, V_e1, .int .i64 e.Seq, V_e3]] [] [(V_e0, lc e.Mem), (V_e1, lc e.Tables), (V_e3, lc e.Snaps)] (fun X : Value × Value × Value => .agg #[X.1, X.2.1, .int .i64 r.Seq, X.2.2]) (fun X => [.own X.1 (lc r.Mem), .own X.2.1 (lc r.Tables), .own X.2.2 (lc r.Snaps)]) := by
  refine Con.intro (args := [.agg #[V_e0, V_e1, .int .i64 e.Seq, V_e3]]) (n := 36) (val := fun r (X : Value × Value × Value) => .agg #[X.1, X.2.1, .int .i64 r.Seq, X.2.2]) (post := fun r X => [.own X.1 (lc r.Mem), .own X.2.1 (lc r.Tables), .own X.2.2 (lc r.Snaps)]) (m := spec_l20Copy e) Try.func32 rfl rfl rfl hm ?_
  intro w S hrd
  have HB_V_e0 := hrd _ (.head _)
  have HB_V_e1 := hrd _ (.tail _ (.head _))
  have HB_V_e3 := hrd _ (.tail _ (.tail _ (.head _)))
  clear hrd
  unfold spec_l20Copy
  refine TW.seq ?_
  refine TW.region ?_
  refine TO.ef (Ef.box rfl (Cel.agg ⟨(One.can (Base.can HB_V_e0)), (One.can (Base.can HB_V_e1)), (One.plain rfl), (One.can (Base.can HB_V_e3)), trivial⟩)) rfl rfl rfl (fun B1 => ?_)
  refine TO.ef (Ef.alloc kz33 rfl) rfl rfl rfl (fun B2 => ?_)
  refine TO.nil ?_
  refine TE.next ?_
  refine TW.seq ?_
  refine TW.bind fun E7 H8 => ?_
  refine TW.bind fun E14 H15 => ?_
  refine TW.joinU (X := Nat × Value × Value) (fun _ X => [(1, .pointer (some ⟨B1, 0, none⟩)), (2, .pointer (some ⟨B2, 0, none⟩)), (3, .pointer (some ⟨X.1, 0, none⟩))]) (fun _ X => [.box B1 33 [V_e0, V_e1, .int .i64 e.Seq, V_e3], .box B2 33 [.slice none 0 0, .slice none 0 0, .int .i64 (0 : Int), .slice none 0 0], .box X.1 33 [X.2.1, .slice none 0 0, .int .i64 e.Seq, X.2.2], .own X.2.1 (lc E7), .own X.2.2 (lc E14)]) ?_ (fun _ X20 => ?_)
  · refine TW.draw (isH := [.box B2 33 [.slice none 0 0, .slice none 0 0, .int .i64 (0 : Int), .slice none 0 0], .box B1 33 [V_e0, V_e1, .int .i64 e.Seq, V_e3]]) hMix ?_
    refine TA.y (listed' := #[false, true, false, false, false, false, false, false, false, false, false, false, false]) 1 [0, 0] rfl (Y.field_box kf33_0 rfl rfl) rfl rfl rfl (by kernel_rfl) (by kernel_rfl) (by kernel_rfl) rfl rfl ?_
    refine TA.y (listed' := #[false, true, true, false, false, false, false, false, false, false, false, false, false]) 2 [0, 0] rfl (Y.load_box (v := V_e0) 1 kk30 rfl rfl rfl) rfl rfl rfl (by kernel_rfl) (by kernel_rfl) (by kernel_rfl) rfl rfl ?_
    refine TA.y (listed' := #[false, true, true, false, true, false, false, false, false, false, false, false, false]) 4 [0, 0] rfl (Y.field_box kf33_2 rfl rfl) rfl rfl rfl (by kernel_rfl) (by kernel_rfl) (by kernel_rfl) rfl rfl ?_
    refine TA.y (listed' := #[false, true, true, false, true, true, false, false, false, false, false, false, false]) 5 [0, 0] rfl (Y.load_box (v := .int .i64 e.Seq) 1 kk3 rfl rfl rfl) rfl rfl rfl (by kernel_rfl) (by kernel_rfl) (by kernel_rfl) rfl rfl ?_
    refine TA.y (listed' := #[false, true, true, false, true, true, false, true, false, false, false, false, false]) 7 [0, 0] rfl (Y.field_box kf33_3 rfl rfl) rfl rfl rfl (by kernel_rfl) (by kernel_rfl) (by kernel_rfl) rfl rfl ?_
    refine TA.y (listed' := #[false, true, true, false, true, true, false, true, true, false, false, false, false]) 8 [0, 0] rfl (Y.load_box (v := V_e3) 1 kk24 rfl rfl rfl) rfl rfl rfl (by kernel_rfl) (by kernel_rfl) (by kernel_rfl) rfl rfl ?_
    refine TA.three 0 6 11 (by kernel_rfl) ?_ ?_ ?_
    · refine TX.ef (listed' := #[true, true, true, false, true, true, false, true, true, false, false, false, false]) [1, 1] rfl (Ef.buildSlice (α := Ent) (Vs := []) ([] : List Ent) ke30 kz73 rfl rfl rfl rfl rfl) rfl rfl rfl rfl (fun _ => rfl) (fun B21 => ?_)
      refine TA.three 3 6 11 (by kernel_rfl) ?_ ?_ ?_
      · refine TX.ef (listed' := #[true, true, true, true, true, true, false, true, true, false, false, false, false]) [1, 1] rfl (Ef.append (α := Ent) (is' := [.box B2 33 [.slice none 0 0, .slice none 0 0, .int .i64 (0 : Int), .slice none 0 0], .box B1 33 [V_e0, V_e1, .int .i64 e.Seq, V_e3]]) [0, 0, 0] H8 ke30 kz73 rfl rfl rfl rfl rfl (Base.can HB_V_e0)) rfl rfl rfl rfl (fun _ => rfl) (fun V24 => ?_)
        refine TA.two 6 11 (by kernel_rfl) ?_ ?_
        · refine TX.ef (listed' := #[true, true, true, true, true, true, true, true, true, false, false, false, false]) [2, 2] rfl (Ef.buildSlice (α := Int) (Vs := []) ([] : List Int) ke24 kz3 rfl rfl rfl rfl rfl) rfl rfl rfl rfl (fun _ => rfl) (fun B27 => ?_)
          refine TA.two 9 11 (by kernel_rfl) ?_ ?_
          · refine TX.ef (listed' := #[true, true, true, true, true, true, true, true, true, true, false, false, false]) [2, 2] rfl (Ef.append (α := Int) (is' := [.own V24 (lc E7), .box B2 33 [.slice none 0 0, .slice none 0 0, .int .i64 (0 : Int), .slice none 0 0], .box B1 33 [V_e0, V_e1, .int .i64 e.Seq, V_e3]]) [0, 0, 0, 0] H15 ke24 kz3 rfl rfl rfl rfl rfl (Base.can HB_V_e3)) rfl rfl rfl rfl (fun _ => rfl) (fun V29 => ?_)
            refine TA.two 10 11 (by kernel_rfl) ?_ ?_
            · refine TX.y (listed' := #[true, true, true, true, true, true, true, true, true, true, true, false, false]) [2, 2] rfl (Y.build (cells := [V24, .slice none 0 0, .int .i64 e.Seq, V29]) [(0, [V24]), (2, [.int .i64 e.Seq]), (3, [V29])] kp33 kz33 ⟨rfl, ⟨_, rfl, (Cel.one (One.can (Can.own 1 rfl)))⟩, ⟨rfl, ⟨_, rfl, (Cel.plain rfl rfl)⟩, ⟨rfl, ⟨_, rfl, (Cel.one (One.can (Can.own 0 rfl)))⟩, trivial⟩⟩⟩ rfl) rfl rfl rfl rfl rfl ?_
              refine TA.one 11 (by kernel_rfl) ?_
              refine TX.ef (listed' := #[true, true, true, true, true, true, true, true, true, true, true, true, false]) [3, 3] rfl (Ef.alloc kz33 rfl) rfl rfl rfl rfl (fun _ => rfl) (fun B32 => ?_)
              refine TA.one 12 (by kernel_rfl) ?_
              refine TX.ef0 (listed' := #[true, true, true, true, true, true, true, true, true, true, true, true, true]) [3, 3] rfl (Ef.store_box (us := [V24, .slice none 0 0, .int .i64 e.Seq, V29]) (vs' := [V24, .slice none 0 0, .int .i64 e.Seq, V29]) (is' := [.box B32 33 [V24, .slice none 0 0, .int .i64 e.Seq, V29], .own V29 (lc E14), .own V24 (lc E7), .box B2 33 [.slice none 0 0, .slice none 0 0, .int .i64 (0 : Int), .slice none 0 0], .box B1 33 [V_e0, V_e1, .int .i64 e.Seq, V_e3]]) 0 kk33 rfl rfl rfl (Cel.agg ⟨(One.can (Can.own 2 rfl)), (One.plain rfl), (One.plain rfl), (One.can (Can.own 1 rfl)), trivial⟩) rfl rfl rfl rfl) rfl rfl rfl (fun _ => rfl) (fun _ => ?_)
              refine TA.nil (by kernel_rfl) ?_
              exact TE.jb_go (B32, V24, V29) [4, 3, 0, 1, 0] ⟨rfl, rfl, rfl, trivial⟩ rfl
            · refine TX.ef (listed' := #[true, true, true, true, true, true, true, true, true, true, false, true, false]) [3, 3] rfl (Ef.alloc kz33 rfl) rfl rfl rfl rfl (fun _ => rfl) (fun B31 => ?_)
              refine TA.one 10 (by kernel_rfl) ?_
              refine TX.y (listed' := #[true, true, true, true, true, true, true, true, true, true, true, true, false]) [3, 3] rfl (Y.build (cells := [V24, .slice none 0 0, .int .i64 e.Seq, V29]) [(0, [V24]), (2, [.int .i64 e.Seq]), (3, [V29])] kp33 kz33 ⟨rfl, ⟨_, rfl, (Cel.one (One.can (Can.own 2 rfl)))⟩, ⟨rfl, ⟨_, rfl, (Cel.plain rfl rfl)⟩, ⟨rfl, ⟨_, rfl, (Cel.one (One.can (Can.own 1 rfl)))⟩, trivial⟩⟩⟩ rfl) rfl rfl rfl rfl rfl ?_
              refine TA.one 12 (by kernel_rfl) ?_
              refine TX.ef0 (listed' := #[true, true, true, true, true, true, true, true, true, true, true, true, true]) [3, 3] rfl (Ef.store_box (us := [V24, .slice none 0 0, .int .i64 e.Seq, V29]) (vs' := [V24, .slice none 0 0, .int .i64 e.Seq, V29]) (is' := [.box B31 33 [V24, .slice none 0 0, .int .i64 e.Seq, V29], .own V29 (lc E14), .own V24 (lc E7), .box B2 33 [.slice none 0 0, .slice none 0 0, .int .i64 (0 : Int), .slice none 0 0], .box B1 33 [V_e0, V_e1, .int .i64 e.Seq, V_e3]]) 0 kk33 rfl rfl rfl (Cel.agg ⟨(One.can (Can.own 2 rfl)), (One.plain rfl), (One.plain rfl), (One.can (Can.own 1 rfl)), trivial⟩) rfl rfl rfl rfl) rfl rfl rfl (fun _ => rfl) (fun _ => ?_)
              refine TA.nil (by kernel_rfl) ?_
              exact TE.jb_go (B31, V24, V29) [4, 3, 0, 1, 0] ⟨rfl, rfl, rfl, trivial⟩ rfl
          · refine TX.ef (listed' := #[true, true, true, true, true, true, true, true, true, false, false, true, false]) [3, 3] rfl (Ef.alloc kz33 rfl) rfl rfl rfl rfl (fun _ => rfl) (fun B30 => ?_)
            refine TA.one 9 (by kernel_rfl) ?_
            refine TX.ef (listed' := #[true, true, true, true, true, true, true, true, true, true, false, true, false]) [3, 3] rfl (Ef.append (α := Int) (is' := [.box B30 33 [.slice none 0 0, .slice none 0 0, .int .i64 (0 : Int), .slice none 0 0], .own V24 (lc E7), .box B2 33 [.slice none 0 0, .slice none 0 0, .int .i64 (0 : Int), .slice none 0 0], .box B1 33 [V_e0, V_e1, .int .i64 e.Seq, V_e3]]) [1, 0, 0, 0, 0] H15 ke24 kz3 rfl rfl rfl rfl rfl (Base.can HB_V_e3)) rfl rfl rfl rfl (fun _ => rfl) (fun V31 => ?_)
            refine TA.one 10 (by kernel_rfl) ?_
            refine TX.y (listed' := #[true, true, true, true, true, true, true, true, true, true, true, true, false]) [3, 3] rfl (Y.build (cells := [V24, .slice none 0 0, .int .i64 e.Seq, V31]) [(0, [V24]), (2, [.int .i64 e.Seq]), (3, [V31])] kp33 kz33 ⟨rfl, ⟨_, rfl, (Cel.one (One.can (Can.own 2 rfl)))⟩, ⟨rfl, ⟨_, rfl, (Cel.plain rfl rfl)⟩, ⟨rfl, ⟨_, rfl, (Cel.one (One.can (Can.own 0 rfl)))⟩, trivial⟩⟩⟩ rfl) rfl rfl rfl rfl rfl ?_
            refine TA.one 12 (by kernel_rfl) ?_
            refine TX.ef0 (listed' := #[true, true, true, true, true, true, true, true, true, true, true, true, true]) [3, 3] rfl (Ef.store_box (us := [V24, .slice none 0 0, .int .i64 e.Seq, V31]) (vs' := [V24, .slice none 0 0, .int .i64 e.Seq, V31]) (is' := [.own V31 (lc E14), .box B30 33 [V24, .slice none 0 0, .int .i64 e.Seq, V31], .own V24 (lc E7), .box B2 33 [.slice none 0 0, .slice none 0 0, .int .i64 (0 : Int), .slice none 0 0], .box B1 33 [V_e0, V_e1, .int .i64 e.Seq, V_e3]]) 1 kk33 rfl rfl rfl (Cel.agg ⟨(One.can (Can.own 2 rfl)), (One.plain rfl), (One.plain rfl), (One.can (Can.own 0 rfl)), trivial⟩) rfl rfl rfl rfl) rfl rfl rfl (fun _ => rfl) (fun _ => ?_)
            refine TA.nil (by kernel_rfl) ?_
            exact TE.jb_go (B30, V24, V31) [4, 3, 1, 1, 0] ⟨rfl, rfl, rfl, trivial⟩ rfl
        · refine TX.ef (listed' := #[true, true, true, true, true, true, false, true, true, false, false, true, false]) [2, 2] rfl (Ef.alloc kz33 rfl) rfl rfl rfl rfl (fun _ => rfl) (fun B28 => ?_)
          refine TA.one 6 (by kernel_rfl) ?_
          refine TX.ef (listed' := #[true, true, true, true, true, true, true, true, true, false, false, true, false]) [3, 3] rfl (Ef.buildSlice (α := Int) (Vs := []) ([] : List Int) ke24 kz3 rfl rfl rfl rfl rfl) rfl rfl rfl rfl (fun _ => rfl) (fun B29 => ?_)
          refine TA.one 9 (by kernel_rfl) ?_
          refine TX.ef (listed' := #[true, true, true, true, true, true, true, true, true, true, false, true, false]) [3, 3] rfl (Ef.append (α := Int) (is' := [.box B28 33 [.slice none 0 0, .slice none 0 0, .int .i64 (0 : Int), .slice none 0 0], .own V24 (lc E7), .box B2 33 [.slice none 0 0, .slice none 0 0, .int .i64 (0 : Int), .slice none 0 0], .box B1 33 [V_e0, V_e1, .int .i64 e.Seq, V_e3]]) [0, 0, 0, 0, 0] H15 ke24 kz3 rfl rfl rfl rfl rfl (Base.can HB_V_e3)) rfl rfl rfl rfl (fun _ => rfl) (fun V30 => ?_)
          refine TA.one 10 (by kernel_rfl) ?_
          refine TX.y (listed' := #[true, true, true, true, true, true, true, true, true, true, true, true, false]) [3, 3] rfl (Y.build (cells := [V24, .slice none 0 0, .int .i64 e.Seq, V30]) [(0, [V24]), (2, [.int .i64 e.Seq]), (3, [V30])] kp33 kz33 ⟨rfl, ⟨_, rfl, (Cel.one (One.can (Can.own 2 rfl)))⟩, ⟨rfl, ⟨_, rfl, (Cel.plain rfl rfl)⟩, ⟨rfl, ⟨_, rfl, (Cel.one (One.can (Can.own 0 rfl)))⟩, trivial⟩⟩⟩ rfl) rfl rfl rfl rfl rfl ?_
          refine TA.one 12 (by kernel_rfl) ?_
          refine TX.ef0 (listed' := #[true, true, true, true, true, true, true, true, true, true, true, true, true]) [3, 3] rfl (Ef.store_box (us := [V24, .slice none 0 0, .int .i64 e.Seq, V30]) (vs' := [V24, .slice none 0 0, .int .i64 e.Seq, V30]) (is' := [.own V30 (lc E14), .box B28 33 [V24, .slice none 0 0, .int .i64 e.Seq, V30], .own V24 (lc E7), .box B2 33 [.slice none 0 0, .slice none 0 0, .int .i64 (0 : Int), .slice none 0 0], .box B1 33 [V_e0, V_e1, .int .i64 e.Seq, V_e3]]) 1 kk33 rfl rfl rfl (Cel.agg ⟨(One.can (Can.own 2 rfl)), (One.plain rfl), (One.plain rfl), (One.can (Can.own 0 rfl)), trivial⟩) rfl rfl rfl rfl) rfl rfl rfl (fun _ => rfl) (fun _ => ?_)
          refine TA.nil (by kernel_rfl) ?_
          exact TE.jb_go (B28, V24, V30) [4, 3, 1, 1, 0] ⟨rfl, rfl, rfl, trivial⟩ rfl
      · refine TX.ef (listed' := #[true, true, true, false, true, true, true, true, true, false, false, false, false]) [2, 2] rfl (Ef.buildSlice (α := Int) (Vs := []) ([] : List Int) ke24 kz3 rfl rfl rfl rfl rfl) rfl rfl rfl rfl (fun _ => rfl) (fun B25 => ?_)
        refine TA.two 3 11 (by kernel_rfl) ?_ ?_
        · refine TX.ef (listed' := #[true, true, true, true, true, true, true, true, true, false, false, false, false]) [2, 2] rfl (Ef.append (α := Ent) (is' := [.own (.slice (some ⟨B25, 0, none⟩) 0 0) (lc ([] : List Int)), .box B2 33 [.slice none 0 0, .slice none 0 0, .int .i64 (0 : Int), .slice none 0 0], .box B1 33 [V_e0, V_e1, .int .i64 e.Seq, V_e3]]) [1, 0, 0, 0] H8 ke30 kz73 rfl rfl rfl rfl rfl (Base.can HB_V_e0)) rfl rfl rfl rfl (fun _ => rfl) (fun V27 => ?_)
          refine TA.two 9 11 (by kernel_rfl) ?_ ?_
          · refine TX.ef (listed' := #[true, true, true, true, true, true, true, true, true, true, false, false, false]) [2, 2] rfl (Ef.append (α := Int) (is' := [.own V27 (lc E7), .box B2 33 [.slice none 0 0, .slice none 0 0, .int .i64 (0 : Int), .slice none 0 0], .box B1 33 [V_e0, V_e1, .int .i64 e.Seq, V_e3]]) [1, 0, 0, 0] H15 ke24 kz3 rfl rfl rfl rfl rfl (Base.can HB_V_e3)) rfl rfl rfl rfl (fun _ => rfl) (fun V29 => ?_)
            refine TA.two 10 11 (by kernel_rfl) ?_ ?_
            · refine TX.y (listed' := #[true, true, true, true, true, true, true, true, true, true, true, false, false]) [2, 2] rfl (Y.build (cells := [V27, .slice none 0 0, .int .i64 e.Seq, V29]) [(0, [V27]), (2, [.int .i64 e.Seq]), (3, [V29])] kp33 kz33 ⟨rfl, ⟨_, rfl, (Cel.one (One.can (Can.own 1 rfl)))⟩, ⟨rfl, ⟨_, rfl, (Cel.plain rfl rfl)⟩, ⟨rfl, ⟨_, rfl, (Cel.one (One.can (Can.own 0 rfl)))⟩, trivial⟩⟩⟩ rfl) rfl rfl rfl rfl rfl ?_
              refine TA.one 11 (by kernel_rfl) ?_
              refine TX.ef (listed' := #[true, true, true, true, true, true, true, true, true, true, true, true, false]) [3, 3] rfl (Ef.alloc kz33 rfl) rfl rfl rfl rfl (fun _ => rfl) (fun B32 => ?_)
              refine TA.one 12 (by kernel_rfl) ?_
              refine TX.ef0 (listed' := #[true, true, true, true, true, true, true, true, true, true, true, true, true]) [3, 3] rfl (Ef.store_box (us := [V27, .slice none 0 0, .int .i64 e.Seq, V29]) (vs' := [V27, .slice none 0 0, .int .i64 e.Seq, V29]) (is' := [.box B32 33 [V27, .slice none 0 0, .int .i64 e.Seq, V29], .own V29 (lc E14), .own V27 (lc E7), .box B2 33 [.slice none 0 0, .slice none 0 0, .int .i64 (0 : Int), .slice none 0 0], .box B1 33 [V_e0, V_e1, .int .i64 e.Seq, V_e3]]) 0 kk33 rfl rfl rfl (Cel.agg ⟨(One.can (Can.own 2 rfl)), (One.plain rfl), (One.plain rfl), (One.can (Can.own 1 rfl)), trivial⟩) rfl rfl rfl rfl) rfl rfl rfl (fun _ => rfl) (fun _ => ?_)
              refine TA.nil (by kernel_rfl) ?_
              exact TE.jb_go (B32, V27, V29) [4, 3, 0, 1, 0] ⟨rfl, rfl, rfl, trivial⟩ rfl
            · refine TX.ef (listed' := #[true, true, true, true, true, true, true, true, true, true, false, true, false]) [3, 3] rfl (Ef.alloc kz33 rfl) rfl rfl rfl rfl (fun _ => rfl) (fun B31 => ?_)
              refine TA.one 10 (by kernel_rfl) ?_
              refine TX.y (listed' := #[true, true, true, true, true, true, true, true, true, true, true, true, false]) [3, 3] rfl (Y.build (cells := [V27, .slice none 0 0, .int .i64 e.Seq, V29]) [(0, [V27]), (2, [.int .i64 e.Seq]), (3, [V29])] kp33 kz33 ⟨rfl, ⟨_, rfl, (Cel.one (One.can (Can.own 2 rfl)))⟩, ⟨rfl, ⟨_, rfl, (Cel.plain rfl rfl)⟩, ⟨rfl, ⟨_, rfl, (Cel.one (One.can (Can.own 1 rfl)))⟩, trivial⟩⟩⟩ rfl) rfl rfl rfl rfl rfl ?_
              refine TA.one 12 (by kernel_rfl) ?_
              refine TX.ef0 (listed' := #[true, true, true, true, true, true, true, true, true, true, true, true, true]) [3, 3] rfl (Ef.store_box (us := [V27, .slice none 0 0, .int .i64 e.Seq, V29]) (vs' := [V27, .slice none 0 0, .int .i64 e.Seq, V29]) (is' := [.box B31 33 [V27, .slice none 0 0, .int .i64 e.Seq, V29], .own V29 (lc E14), .own V27 (lc E7), .box B2 33 [.slice none 0 0, .slice none 0 0, .int .i64 (0 : Int), .slice none 0 0], .box B1 33 [V_e0, V_e1, .int .i64 e.Seq, V_e3]]) 0 kk33 rfl rfl rfl (Cel.agg ⟨(One.can (Can.own 2 rfl)), (One.plain rfl), (One.plain rfl), (One.can (Can.own 1 rfl)), trivial⟩) rfl rfl rfl rfl) rfl rfl rfl (fun _ => rfl) (fun _ => ?_)
              refine TA.nil (by kernel_rfl) ?_
              exact TE.jb_go (B31, V27, V29) [4, 3, 0, 1, 0] ⟨rfl, rfl, rfl, trivial⟩ rfl
          · refine TX.ef (listed' := #[true, true, true, true, true, true, true, true, true, false, false, true, false]) [3, 3] rfl (Ef.alloc kz33 rfl) rfl rfl rfl rfl (fun _ => rfl) (fun B30 => ?_)
            refine TA.one 9 (by kernel_rfl) ?_
            refine TX.ef (listed' := #[true, true, true, true, true, true, true, true, true, true, false, true, false]) [3, 3] rfl (Ef.append (α := Int) (is' := [.box B30 33 [.slice none 0 0, .slice none 0 0, .int .i64 (0 : Int), .slice none 0 0], .own V27 (lc E7), .box B2 33 [.slice none 0 0, .slice none 0 0, .int .i64 (0 : Int), .slice none 0 0], .box B1 33 [V_e0, V_e1, .int .i64 e.Seq, V_e3]]) [2, 0, 0, 0, 0] H15 ke24 kz3 rfl rfl rfl rfl rfl (Base.can HB_V_e3)) rfl rfl rfl rfl (fun _ => rfl) (fun V31 => ?_)
            refine TA.one 10 (by kernel_rfl) ?_
            refine TX.y (listed' := #[true, true, true, true, true, true, true, true, true, true, true, true, false]) [3, 3] rfl (Y.build (cells := [V27, .slice none 0 0, .int .i64 e.Seq, V31]) [(0, [V27]), (2, [.int .i64 e.Seq]), (3, [V31])] kp33 kz33 ⟨rfl, ⟨_, rfl, (Cel.one (One.can (Can.own 2 rfl)))⟩, ⟨rfl, ⟨_, rfl, (Cel.plain rfl rfl)⟩, ⟨rfl, ⟨_, rfl, (Cel.one (One.can (Can.own 0 rfl)))⟩, trivial⟩⟩⟩ rfl) rfl rfl rfl rfl rfl ?_
            refine TA.one 12 (by kernel_rfl) ?_
            refine TX.ef0 (listed' := #[true, true, true, true, true, true, true, true, true, true, true, true, true]) [3, 3] rfl (Ef.store_box (us := [V27, .slice none 0 0, .int .i64 e.Seq, V31]) (vs' := [V27, .slice none 0 0, .int .i64 e.Seq, V31]) (is' := [.own V31 (lc E14), .box B30 33 [V27, .slice none 0 0, .int .i64 e.Seq, V31], .own V27 (lc E7), .box B2 33 [.slice none 0 0, .slice none 0 0, .int .i64 (0 : Int), .slice none 0 0], .box B1 33 [V_e0, V_e1, .int .i64 e.Seq, V_e3]]) 1 kk33 rfl rfl rfl (Cel.agg ⟨(One.can (Can.own 2 rfl)), (One.plain rfl), (One.plain rfl), (One.can (Can.own 0 rfl)), trivial⟩) rfl rfl rfl rfl) rfl rfl rfl (fun _ => rfl) (fun _ => ?_)
            refine TA.nil (by kernel_rfl) ?_
            exact TE.jb_go (B30, V27, V31) [4, 3, 1, 1, 0] ⟨rfl, rfl, rfl, trivial⟩ rfl
        · refine TX.ef (listed' := #[true, true, true, false, true, true, true, true, true, false, false, true, false]) [3, 3] rfl (Ef.alloc kz33 rfl) rfl rfl rfl rfl (fun _ => rfl) (fun B28 => ?_)
          refine TA.one 3 (by kernel_rfl) ?_
          refine TX.ef (listed' := #[true, true, true, true, true, true, true, true, true, false, false, true, false]) [3, 3] rfl (Ef.append (α := Ent) (is' := [.box B28 33 [.slice none 0 0, .slice none 0 0, .int .i64 (0 : Int), .slice none 0 0], .own (.slice (some ⟨B25, 0, none⟩) 0 0) (lc ([] : List Int)), .box B2 33 [.slice none 0 0, .slice none 0 0, .int .i64 (0 : Int), .slice none 0 0], .box B1 33 [V_e0, V_e1, .int .i64 e.Seq, V_e3]]) [2, 0, 0, 0, 0] H8 ke30 kz73 rfl rfl rfl rfl rfl (Base.can HB_V_e0)) rfl rfl rfl rfl (fun _ => rfl) (fun V29 => ?_)
          refine TA.one 9 (by kernel_rfl) ?_
          refine TX.ef (listed' := #[true, true, true, true, true, true, true, true, true, true, false, true, false]) [3, 3] rfl (Ef.append (α := Int) (is' := [.own V29 (lc E7), .box B28 33 [.slice none 0 0, .slice none 0 0, .int .i64 (0 : Int), .slice none 0 0], .box B2 33 [.slice none 0 0, .slice none 0 0, .int .i64 (0 : Int), .slice none 0 0], .box B1 33 [V_e0, V_e1, .int .i64 e.Seq, V_e3]]) [2, 0, 0, 0, 0] H15 ke24 kz3 rfl rfl rfl rfl rfl (Base.can HB_V_e3)) rfl rfl rfl rfl (fun _ => rfl) (fun V30 => ?_)
          refine TA.one 10 (by kernel_rfl) ?_
          refine TX.y (listed' := #[true, true, true, true, true, true, true, true, true, true, true, true, false]) [3, 3] rfl (Y.build (cells := [V29, .slice none 0 0, .int .i64 e.Seq, V30]) [(0, [V29]), (2, [.int .i64 e.Seq]), (3, [V30])] kp33 kz33 ⟨rfl, ⟨_, rfl, (Cel.one (One.can (Can.own 1 rfl)))⟩, ⟨rfl, ⟨_, rfl, (Cel.plain rfl rfl)⟩, ⟨rfl, ⟨_, rfl, (Cel.one (One.can (Can.own 0 rfl)))⟩, trivial⟩⟩⟩ rfl) rfl rfl rfl rfl rfl ?_
          refine TA.one 12 (by kernel_rfl) ?_
          refine TX.ef0 (listed' := #[true, true, true, true, true, true, true, true, true, true, true, true, true]) [3, 3] rfl (Ef.store_box (us := [V29, .slice none 0 0, .int .i64 e.Seq, V30]) (vs' := [V29, .slice none 0 0, .int .i64 e.Seq, V30]) (is' := [.own V30 (lc E14), .own V29 (lc E7), .box B28 33 [V29, .slice none 0 0, .int .i64 e.Seq, V30], .box B2 33 [.slice none 0 0, .slice none 0 0, .int .i64 (0 : Int), .slice none 0 0], .box B1 33 [V_e0, V_e1, .int .i64 e.Seq, V_e3]]) 2 kk33 rfl rfl rfl (Cel.agg ⟨(One.can (Can.own 1 rfl)), (One.plain rfl), (One.plain rfl), (One.can (Can.own 0 rfl)), trivial⟩) rfl rfl rfl rfl) rfl rfl rfl (fun _ => rfl) (fun _ => ?_)
          refine TA.nil (by kernel_rfl) ?_
          exact TE.jb_go (B28, V29, V30) [4, 3, 2, 1, 0] ⟨rfl, rfl, rfl, trivial⟩ rfl
      · refine TX.ef (listed' := #[true, true, true, false, true, true, false, true, true, false, false, true, false]) [2, 2] rfl (Ef.alloc kz33 rfl) rfl rfl rfl rfl (fun _ => rfl) (fun B26 => ?_)
        refine TA.two 3 6 (by kernel_rfl) ?_ ?_
        · refine TX.ef (listed' := #[true, true, true, true, true, true, false, true, true, false, false, true, false]) [2, 2] rfl (Ef.append (α := Ent) (is' := [.box B26 33 [.slice none 0 0, .slice none 0 0, .int .i64 (0 : Int), .slice none 0 0], .box B2 33 [.slice none 0 0, .slice none 0 0, .int .i64 (0 : Int), .slice none 0 0], .box B1 33 [V_e0, V_e1, .int .i64 e.Seq, V_e3]]) [1, 0, 0, 0] H8 ke30 kz73 rfl rfl rfl rfl rfl (Base.can HB_V_e0)) rfl rfl rfl rfl (fun _ => rfl) (fun V27 => ?_)
          refine TA.one 6 (by kernel_rfl) ?_
          refine TX.ef (listed' := #[true, true, true, true, true, true, true, true, true, false, false, true, false]) [3, 3] rfl (Ef.buildSlice (α := Int) (Vs := []) ([] : List Int) ke24 kz3 rfl rfl rfl rfl rfl) rfl rfl rfl rfl (fun _ => rfl) (fun B29 => ?_)
          refine TA.one 9 (by kernel_rfl) ?_
          refine TX.ef (listed' := #[true, true, true, true, true, true, true, true, true, true, false, true, false]) [3, 3] rfl (Ef.append (α := Int) (is' := [.own V27 (lc E7), .box B26 33 [.slice none 0 0, .slice none 0 0, .int .i64 (0 : Int), .slice none 0 0], .box B2 33 [.slice none 0 0, .slice none 0 0, .int .i64 (0 : Int), .slice none 0 0], .box B1 33 [V_e0, V_e1, .int .i64 e.Seq, V_e3]]) [0, 0, 0, 0, 0] H15 ke24 kz3 rfl rfl rfl rfl rfl (Base.can HB_V_e3)) rfl rfl rfl rfl (fun _ => rfl) (fun V30 => ?_)
          refine TA.one 10 (by kernel_rfl) ?_
          refine TX.y (listed' := #[true, true, true, true, true, true, true, true, true, true, true, true, false]) [3, 3] rfl (Y.build (cells := [V27, .slice none 0 0, .int .i64 e.Seq, V30]) [(0, [V27]), (2, [.int .i64 e.Seq]), (3, [V30])] kp33 kz33 ⟨rfl, ⟨_, rfl, (Cel.one (One.can (Can.own 1 rfl)))⟩, ⟨rfl, ⟨_, rfl, (Cel.plain rfl rfl)⟩, ⟨rfl, ⟨_, rfl, (Cel.one (One.can (Can.own 0 rfl)))⟩, trivial⟩⟩⟩ rfl) rfl rfl rfl rfl rfl ?_
          refine TA.one 12 (by kernel_rfl) ?_
          refine TX.ef0 (listed' := #[true, true, true, true, true, true, true, true, true, true, true, true, true]) [3, 3] rfl (Ef.store_box (us := [V27, .slice none 0 0, .int .i64 e.Seq, V30]) (vs' := [V27, .slice none 0 0, .int .i64 e.Seq, V30]) (is' := [.own V30 (lc E14), .own V27 (lc E7), .box B26 33 [V27, .slice none 0 0, .int .i64 e.Seq, V30], .box B2 33 [.slice none 0 0, .slice none 0 0, .int .i64 (0 : Int), .slice none 0 0], .box B1 33 [V_e0, V_e1, .int .i64 e.Seq, V_e3]]) 2 kk33 rfl rfl rfl (Cel.agg ⟨(One.can (Can.own 1 rfl)), (One.plain rfl), (One.plain rfl), (One.can (Can.own 0 rfl)), trivial⟩) rfl rfl rfl rfl) rfl rfl rfl (fun _ => rfl) (fun _ => ?_)
          refine TA.nil (by kernel_rfl) ?_
          exact TE.jb_go (B26, V27, V30) [4, 3, 2, 1, 0] ⟨rfl, rfl, rfl, trivial⟩ rfl
        · refine TX.ef (listed' := #[true, true, true, false, true, true, true, true, true, false, false, true, false]) [3, 3] rfl (Ef.buildSlice (α := Int) (Vs := []) ([] : List Int) ke24 kz3 rfl rfl rfl rfl rfl) rfl rfl rfl rfl (fun _ => rfl) (fun B28 => ?_)
          refine TA.one 3 (by kernel_rfl) ?_
          refine TX.ef (listed' := #[true, true, true, true, true, true, true, true, true, false, false, true, false]) [3, 3] rfl (Ef.append (α := Ent) (is' := [.own (.slice (some ⟨B28, 0, none⟩) 0 0) (lc ([] : List Int)), .box B26 33 [.slice none 0 0, .slice none 0 0, .int .i64 (0 : Int), .slice none 0 0], .box B2 33 [.slice none 0 0, .slice none 0 0, .int .i64 (0 : Int), .slice none 0 0], .box B1 33 [V_e0, V_e1, .int .i64 e.Seq, V_e3]]) [2, 0, 0, 0, 0] H8 ke30 kz73 rfl rfl rfl rfl rfl (Base.can HB_V_e0)) rfl rfl rfl rfl (fun _ => rfl) (fun V29 => ?_)
          refine TA.one 9 (by kernel_rfl) ?_
          refine TX.ef (listed' := #[true, true, true, true, true, true, true, true, true, true, false, true, false]) [3, 3] rfl (Ef.append (α := Int) (is' := [.own V29 (lc E7), .box B26 33 [.slice none 0 0, .slice none 0 0, .int .i64 (0 : Int), .slice none 0 0], .box B2 33 [.slice none 0 0, .slice none 0 0, .int .i64 (0 : Int), .slice none 0 0], .box B1 33 [V_e0, V_e1, .int .i64 e.Seq, V_e3]]) [1, 0, 0, 0, 0] H15 ke24 kz3 rfl rfl rfl rfl rfl (Base.can HB_V_e3)) rfl rfl rfl rfl (fun _ => rfl) (fun V30 => ?_)
          refine TA.one 10 (by kernel_rfl) ?_
          refine TX.y (listed' := #[true, true, true, true, true, true, true, true, true, true, true, true, false]) [3, 3] rfl (Y.build (cells := [V29, .slice none 0 0, .int .i64 e.Seq, V30]) [(0, [V29]), (2, [.int .i64 e.Seq]), (3, [V30])] kp33 kz33 ⟨rfl, ⟨_, rfl, (Cel.one (One.can (Can.own 1 rfl)))⟩, ⟨rfl, ⟨_, rfl, (Cel.plain rfl rfl)⟩, ⟨rfl, ⟨_, rfl, (Cel.one (One.can (Can.own 0 rfl)))⟩, trivial⟩⟩⟩ rfl) rfl rfl rfl rfl rfl ?_
          refine TA.one 12 (by kernel_rfl) ?_
          refine TX.ef0 (listed' := #[true, true, true, true, true, true, true, true, true, true, true, true, true]) [3, 3] rfl (Ef.store_box (us := [V29, .slice none 0 0, .int .i64 e.Seq, V30]) (vs' := [V29, .slice none 0 0, .int .i64 e.Seq, V30]) (is' := [.own V30 (lc E14), .own V29 (lc E7), .box B26 33 [V29, .slice none 0 0, .int .i64 e.Seq, V30], .box B2 33 [.slice none 0 0, .slice none 0 0, .int .i64 (0 : Int), .slice none 0 0], .box B1 33 [V_e0, V_e1, .int .i64 e.Seq, V_e3]]) 2 kk33 rfl rfl rfl (Cel.agg ⟨(One.can (Can.own 1 rfl)), (One.plain rfl), (One.plain rfl), (One.can (Can.own 0 rfl)), trivial⟩) rfl rfl rfl rfl) rfl rfl rfl (fun _ => rfl) (fun _ => ?_)
          refine TA.nil (by kernel_rfl) ?_
          exact TE.jb_go (B26, V29, V30) [4, 3, 2, 1, 0] ⟨rfl, rfl, rfl, trivial⟩ rfl
    · refine TX.ef (listed' := #[false, true, true, false, true, true, true, true, true, false, false, false, false]) [1, 1] rfl (Ef.buildSlice (α := Int) (Vs := []) ([] : List Int) ke24 kz3 rfl rfl rfl rfl rfl) rfl rfl rfl rfl (fun _ => rfl) (fun B22 => ?_)
      refine TA.two 0 11 (by kernel_rfl) ?_ ?_
      · refine TX.ef (listed' := #[true, true, true, false, true, true, true, true, true, false, false, false, false]) [2, 2] rfl (Ef.buildSlice (α := Ent) (Vs := []) ([] : List Ent) ke30 kz73 rfl rfl rfl rfl rfl) rfl rfl rfl rfl (fun _ => rfl) (fun B24 => ?_)
        refine TA.two 3 11 (by kernel_rfl) ?_ ?_
        · refine TX.ef (listed' := #[true, true, true, true, true, true, true, true, true, false, false, false, false]) [2, 2] rfl (Ef.append (α := Ent) (is' := [.own (.slice (some ⟨B22, 0, none⟩) 0 0) (lc ([] : List Int)), .box B2 33 [.slice none 0 0, .slice none 0 0, .int .i64 (0 : Int), .slice none 0 0], .box B1 33 [V_e0, V_e1, .int .i64 e.Seq, V_e3]]) [0, 0, 0, 0] H8 ke30 kz73 rfl rfl rfl rfl rfl (Base.can HB_V_e0)) rfl rfl rfl rfl (fun _ => rfl) (fun V26 => ?_)
          refine TA.two 9 11 (by kernel_rfl) ?_ ?_
          · refine TX.ef (listed' := #[true, true, true, true, true, true, true, true, true, true, false, false, false]) [2, 2] rfl (Ef.append (α := Int) (is' := [.own V26 (lc E7), .box B2 33 [.slice none 0 0, .slice none 0 0, .int .i64 (0 : Int), .slice none 0 0], .box B1 33 [V_e0, V_e1, .int .i64 e.Seq, V_e3]]) [1, 0, 0, 0] H15 ke24 kz3 rfl rfl rfl rfl rfl (Base.can HB_V_e3)) rfl rfl rfl rfl (fun _ => rfl) (fun V28 => ?_)
            refine TA.two 10 11 (by kernel_rfl) ?_ ?_
            · refine TX.y (listed' := #[true, true, true, true, true, true, true, true, true, true, true, false, false]) [2, 2] rfl (Y.build (cells := [V26, .slice none 0 0, .int .i64 e.Seq, V28]) [(0, [V26]), (2, [.int .i64 e.Seq]), (3, [V28])] kp33 kz33 ⟨rfl, ⟨_, rfl, (Cel.one (One.can (Can.own 1 rfl)))⟩, ⟨rfl, ⟨_, rfl, (Cel.plain rfl rfl)⟩, ⟨rfl, ⟨_, rfl, (Cel.one (One.can (Can.own 0 rfl)))⟩, trivial⟩⟩⟩ rfl) rfl rfl rfl rfl rfl ?_
              refine TA.one 11 (by kernel_rfl) ?_
              refine TX.ef (listed' := #[true, true, true, true, true, true, true, true, true, true, true, true, false]) [3, 3] rfl (Ef.alloc kz33 rfl) rfl rfl rfl rfl (fun _ => rfl) (fun B31 => ?_)
              refine TA.one 12 (by kernel_rfl) ?_
              refine TX.ef0 (listed' := #[true, true, true, true, true, true, true, true, true, true, true, true, true]) [3, 3] rfl (Ef.store_box (us := [V26, .slice none 0 0, .int .i64 e.Seq, V28]) (vs' := [V26, .slice none 0 0, .int .i64 e.Seq, V28]) (is' := [.box B31 33 [V26, .slice none 0 0, .int .i64 e.Seq, V28], .own V28 (lc E14), .own V26 (lc E7), .box B2 33 [.slice none 0 0, .slice none 0 0, .int .i64 (0 : Int), .slice none 0 0], .box B1 33 [V_e0, V_e1, .int .i64 e.Seq, V_e3]]) 0 kk33 rfl rfl rfl (Cel.agg ⟨(One.can (Can.own 2 rfl)), (One.plain rfl), (One.plain rfl), (One.can (Can.own 1 rfl)), trivial⟩) rfl rfl rfl rfl) rfl rfl rfl (fun _ => rfl) (fun _ => ?_)
              refine TA.nil (by kernel_rfl) ?_
              exact TE.jb_go (B31, V26, V28) [4, 3, 0, 1, 0] ⟨rfl, rfl, rfl, trivial⟩ rfl
            · refine TX.ef (listed' := #[true, true, true, true, true, true, true, true, true, true, false, true, false]) [3, 3] rfl (Ef.alloc kz33 rfl) rfl rfl rfl rfl (fun _ => rfl) (fun B30 => ?_)
              refine TA.one 10 (by kernel_rfl) ?_
              refine TX.y (listed' := #[true, true, true, true, true, true, true, true, true, true, true, true, false]) [3, 3] rfl (Y.build (cells := [V26, .slice none 0 0, .int .i64 e.Seq, V28]) [(0, [V26]), (2, [.int .i64 e.Seq]), (3, [V28])] kp33 kz33 ⟨rfl, ⟨_, rfl, (Cel.one (One.can (Can.own 2 rfl)))⟩, ⟨rfl, ⟨_, rfl, (Cel.plain rfl rfl)⟩, ⟨rfl, ⟨_, rfl, (Cel.one (One.can (Can.own 1 rfl)))⟩, trivial⟩⟩⟩ rfl) rfl rfl rfl rfl rfl ?_
              refine TA.one 12 (by kernel_rfl) ?_
              refine TX.ef0 (listed' := #[true, true, true, true, true, true, true, true, true, true, true, true, true]) [3, 3] rfl (Ef.store_box (us := [V26, .slice none 0 0, .int .i64 e.Seq, V28]) (vs' := [V26, .slice none 0 0, .int .i64 e.Seq, V28]) (is' := [.box B30 33 [V26, .slice none 0 0, .int .i64 e.Seq, V28], .own V28 (lc E14), .own V26 (lc E7), .box B2 33 [.slice none 0 0, .slice none 0 0, .int .i64 (0 : Int), .slice none 0 0], .box B1 33 [V_e0, V_e1, .int .i64 e.Seq, V_e3]]) 0 kk33 rfl rfl rfl (Cel.agg ⟨(One.can (Can.own 2 rfl)), (One.plain rfl), (One.plain rfl), (One.can (Can.own 1 rfl)), trivial⟩) rfl rfl rfl rfl) rfl rfl rfl (fun _ => rfl) (fun _ => ?_)
              refine TA.nil (by kernel_rfl) ?_
              exact TE.jb_go (B30, V26, V28) [4, 3, 0, 1, 0] ⟨rfl, rfl, rfl, trivial⟩ rfl
          · refine TX.ef (listed' := #[true, true, true, true, true, true, true, true, true, false, false, true, false]) [3, 3] rfl (Ef.alloc kz33 rfl) rfl rfl rfl rfl (fun _ => rfl) (fun B29 => ?_)
            refine TA.one 9 (by kernel_rfl) ?_
            refine TX.ef (listed' := #[true, true, true, true, true, true, true, true, true, true, false, true, false]) [3, 3] rfl (Ef.append (α := Int) (is' := [.box B29 33 [.slice none 0 0, .slice none 0 0, .int .i64 (0 : Int), .slice none 0 0], .own V26 (lc E7), .box B2 33 [.slice none 0 0, .slice none 0 0, .int .i64 (0 : Int), .slice none 0 0], .box B1 33 [V_e0, V_e1, .int .i64 e.Seq, V_e3]]) [2, 0, 0, 0, 0] H15 ke24 kz3 rfl rfl rfl rfl rfl (Base.can HB_V_e3)) rfl rfl rfl rfl (fun _ => rfl) (fun V30 => ?_)
            refine TA.one 10 (by kernel_rfl) ?_
            refine TX.y (listed' := #[true, true, true, true, true, true, true, true, true, true, true, true, false]) [3, 3] rfl (Y.build (cells := [V26, .slice none 0 0, .int .i64 e.Seq, V30]) [(0, [V26]), (2, [.int .i64 e.Seq]), (3, [V30])] kp33 kz33 ⟨rfl, ⟨_, rfl, (Cel.one (One.can (Can.own 2 rfl)))⟩, ⟨rfl, ⟨_, rfl, (Cel.plain rfl rfl)⟩, ⟨rfl, ⟨_, rfl, (Cel.one (One.can (Can.own 0 rfl)))⟩, trivial⟩⟩⟩ rfl) rfl rfl rfl rfl rfl ?_
            refine TA.one 12 (by kernel_rfl) ?_
            refine TX.ef0 (listed' := #[true, true, true, true, true, true, true, true, true, true, true, true, true]) [3, 3] rfl (Ef.store_box (us := [V26, .slice none 0 0, .int .i64 e.Seq, V30]) (vs' := [V26, .slice none 0 0, .int .i64 e.Seq, V30]) (is' := [.own V30 (lc E14), .box B29 33 [V26, .slice none 0 0, .int .i64 e.Seq, V30], .own V26 (lc E7), .box B2 33 [.slice none 0 0, .slice none 0 0, .int .i64 (0 : Int), .slice none 0 0], .box B1 33 [V_e0, V_e1, .int .i64 e.Seq, V_e3]]) 1 kk33 rfl rfl rfl (Cel.agg ⟨(One.can (Can.own 2 rfl)), (One.plain rfl), (One.plain rfl), (One.can (Can.own 0 rfl)), trivial⟩) rfl rfl rfl rfl) rfl rfl rfl (fun _ => rfl) (fun _ => ?_)
            refine TA.nil (by kernel_rfl) ?_
            exact TE.jb_go (B29, V26, V30) [4, 3, 1, 1, 0] ⟨rfl, rfl, rfl, trivial⟩ rfl
        · refine TX.ef (listed' := #[true, true, true, false, true, true, true, true, true, false, false, true, false]) [3, 3] rfl (Ef.alloc kz33 rfl) rfl rfl rfl rfl (fun _ => rfl) (fun B27 => ?_)
          refine TA.one 3 (by kernel_rfl) ?_
          refine TX.ef (listed' := #[true, true, true, true, true, true, true, true, true, false, false, true, false]) [3, 3] rfl (Ef.append (α := Ent) (is' := [.box B27 33 [.slice none 0 0, .slice none 0 0, .int .i64 (0 : Int), .slice none 0 0], .own (.slice (some ⟨B22, 0, none⟩) 0 0) (lc ([] : List Int)), .box B2 33 [.slice none 0 0, .slice none 0 0, .int .i64 (0 : Int), .slice none 0 0], .box B1 33 [V_e0, V_e1, .int .i64 e.Seq, V_e3]]) [1, 0, 0, 0, 0] H8 ke30 kz73 rfl rfl rfl rfl rfl (Base.can HB_V_e0)) rfl rfl rfl rfl (fun _ => rfl) (fun V28 => ?_)
          refine TA.one 9 (by kernel_rfl) ?_
          refine TX.ef (listed' := #[true, true, true, true, true, true, true, true, true, true, false, true, false]) [3, 3] rfl (Ef.append (α := Int) (is' := [.own V28 (lc E7), .box B27 33 [.slice none 0 0, .slice none 0 0, .int .i64 (0 : Int), .slice none 0 0], .box B2 33 [.slice none 0 0, .slice none 0 0, .int .i64 (0 : Int), .slice none 0 0], .box B1 33 [V_e0, V_e1, .int .i64 e.Seq, V_e3]]) [2, 0, 0, 0, 0] H15 ke24 kz3 rfl rfl rfl rfl rfl (Base.can HB_V_e3)) rfl rfl rfl rfl (fun _ => rfl) (fun V29 => ?_)
          refine TA.one 10 (by kernel_rfl) ?_
          refine TX.y (listed' := #[true, true, true, true, true, true, true, true, true, true, true, true, false]) [3, 3] rfl (Y.build (cells := [V28, .slice none 0 0, .int .i64 e.Seq, V29]) [(0, [V28]), (2, [.int .i64 e.Seq]), (3, [V29])] kp33 kz33 ⟨rfl, ⟨_, rfl, (Cel.one (One.can (Can.own 1 rfl)))⟩, ⟨rfl, ⟨_, rfl, (Cel.plain rfl rfl)⟩, ⟨rfl, ⟨_, rfl, (Cel.one (One.can (Can.own 0 rfl)))⟩, trivial⟩⟩⟩ rfl) rfl rfl rfl rfl rfl ?_
          refine TA.one 12 (by kernel_rfl) ?_
          refine TX.ef0 (listed' := #[true, true, true, true, true, true, true, true, true, true, true, true, true]) [3, 3] rfl (Ef.store_box (us := [V28, .slice none 0 0, .int .i64 e.Seq, V29]) (vs' := [V28, .slice none 0 0, .int .i64 e.Seq, V29]) (is' := [.own V29 (lc E14), .own V28 (lc E7), .box B27 33 [V28, .slice none 0 0, .int .i64 e.Seq, V29], .box B2 33 [.slice none 0 0, .slice none 0 0, .int .i64 (0 : Int), .slice none 0 0], .box B1 33 [V_e0, V_e1, .int .i64 e.Seq, V_e3]]) 2 kk33 rfl rfl rfl (Cel.agg ⟨(One.can (Can.own 1 rfl)), (One.plain rfl), (One.plain rfl), (One.can (Can.own 0 rfl)), trivial⟩) rfl rfl rfl rfl) rfl rfl rfl (fun _ => rfl) (fun _ => ?_)
          refine TA.nil (by kernel_rfl) ?_
          exact TE.jb_go (B27, V28, V29) [4, 3, 2, 1, 0] ⟨rfl, rfl, rfl, trivial⟩ rfl
      · refine TX.ef (listed' := #[false, true, true, false, true, true, true, true, true, false, false, true, false]) [2, 2] rfl (Ef.alloc kz33 rfl) rfl rfl rfl rfl (fun _ => rfl) (fun B25 => ?_)
        refine TA.one 0 (by kernel_rfl) ?_
        refine TX.ef (listed' := #[true, true, true, false, true, true, true, true, true, false, false, true, false]) [3, 3] rfl (Ef.buildSlice (α := Ent) (Vs := []) ([] : List Ent) ke30 kz73 rfl rfl rfl rfl rfl) rfl rfl rfl rfl (fun _ => rfl) (fun B26 => ?_)
        refine TA.one 3 (by kernel_rfl) ?_
        refine TX.ef (listed' := #[true, true, true, true, true, true, true, true, true, false, false, true, false]) [3, 3] rfl (Ef.append (α := Ent) (is' := [.box B25 33 [.slice none 0 0, .slice none 0 0, .int .i64 (0 : Int), .slice none 0 0], .own (.slice (some ⟨B22, 0, none⟩) 0 0) (lc ([] : List Int)), .box B2 33 [.slice none 0 0, .slice none 0 0, .int .i64 (0 : Int), .slice none 0 0], .box B1 33 [V_e0, V_e1, .int .i64 e.Seq, V_e3]]) [0, 0, 0, 0, 0] H8 ke30 kz73 rfl rfl rfl rfl rfl (Base.can HB_V_e0)) rfl rfl rfl rfl (fun _ => rfl) (fun V27 => ?_)
        refine TA.one 9 (by kernel_rfl) ?_
        refine TX.ef (listed' := #[true, true, true, true, true, true, true, true, true, true, false, true, false]) [3, 3] rfl (Ef.append (α := Int) (is' := [.own V27 (lc E7), .box B25 33 [.slice none 0 0, .slice none 0 0, .int .i64 (0 : Int), .slice none 0 0], .box B2 33 [.slice none 0 0, .slice none 0 0, .int .i64 (0 : Int), .slice none 0 0], .box B1 33 [V_e0, V_e1, .int .i64 e.Seq, V_e3]]) [2, 0, 0, 0, 0] H15 ke24 kz3 rfl rfl rfl rfl rfl (Base.can HB_V_e3)) rfl rfl rfl rfl (fun _ => rfl) (fun V28 => ?_)
        refine TA.one 10 (by kernel_rfl) ?_
        refine TX.y (listed' := #[true, true, true, true, true, true, true, true, true, true, true, true, false]) [3, 3] rfl (Y.build (cells := [V27, .slice none 0 0, .int .i64 e.Seq, V28]) [(0, [V27]), (2, [.int .i64 e.Seq]), (3, [V28])] kp33 kz33 ⟨rfl, ⟨_, rfl, (Cel.one (One.can (Can.own 1 rfl)))⟩, ⟨rfl, ⟨_, rfl, (Cel.plain rfl rfl)⟩, ⟨rfl, ⟨_, rfl, (Cel.one (One.can (Can.own 0 rfl)))⟩, trivial⟩⟩⟩ rfl) rfl rfl rfl rfl rfl ?_
        refine TA.one 12 (by kernel_rfl) ?_
        refine TX.ef0 (listed' := #[true, true, true, true, true, true, true, true, true, true, true, true, true]) [3, 3] rfl (Ef.store_box (us := [V27, .slice none 0 0, .int .i64 e.Seq, V28]) (vs' := [V27, .slice none 0 0, .int .i64 e.Seq, V28]) (is' := [.own V28 (lc E14), .own V27 (lc E7), .box B25 33 [V27, .slice none 0 0, .int .i64 e.Seq, V28], .box B2 33 [.slice none 0 0, .slice none 0 0, .int .i64 (0 : Int), .slice none 0 0], .box B1 33 [V_e0, V_e1, .int .i64 e.Seq, V_e3]]) 2 kk33 rfl rfl rfl (Cel.agg ⟨(One.can (Can.own 1 rfl)), (One.plain rfl), (One.plain rfl), (One.can (Can.own 0 rfl)), trivial⟩) rfl rfl rfl rfl) rfl rfl rfl (fun _ => rfl) (fun _ => ?_)
        refine TA.nil (by kernel_rfl) ?_
        exact TE.jb_go (B25, V27, V28) [4, 3, 2, 1, 0] ⟨rfl, rfl, rfl, trivial⟩ rfl
    · refine TX.ef (listed' := #[false, true, true, false, true, true, false, true, true, false, false, true, false]) [1, 1] rfl (Ef.alloc kz33 rfl) rfl rfl rfl rfl (fun _ => rfl) (fun B23 => ?_)
      refine TA.two 0 6 (by kernel_rfl) ?_ ?_
      · refine TX.ef (listed' := #[true, true, true, false, true, true, false, true, true, false, false, true, false]) [2, 2] rfl (Ef.buildSlice (α := Ent) (Vs := []) ([] : List Ent) ke30 kz73 rfl rfl rfl rfl rfl) rfl rfl rfl rfl (fun _ => rfl) (fun B24 => ?_)
        refine TA.two 3 6 (by kernel_rfl) ?_ ?_
        · refine TX.ef (listed' := #[true, true, true, true, true, true, false, true, true, false, false, true, false]) [2, 2] rfl (Ef.append (α := Ent) (is' := [.box B23 33 [.slice none 0 0, .slice none 0 0, .int .i64 (0 : Int), .slice none 0 0], .box B2 33 [.slice none 0 0, .slice none 0 0, .int .i64 (0 : Int), .slice none 0 0], .box B1 33 [V_e0, V_e1, .int .i64 e.Seq, V_e3]]) [0, 0, 0, 0] H8 ke30 kz73 rfl rfl rfl rfl rfl (Base.can HB_V_e0)) rfl rfl rfl rfl (fun _ => rfl) (fun V26 => ?_)
          refine TA.one 6 (by kernel_rfl) ?_
          refine TX.ef (listed' := #[true, true, true, true, true, true, true, true, true, false, false, true, false]) [3, 3] rfl (Ef.buildSlice (α := Int) (Vs := []) ([] : List Int) ke24 kz3 rfl rfl rfl rfl rfl) rfl rfl rfl rfl (fun _ => rfl) (fun B28 => ?_)
          refine TA.one 9 (by kernel_rfl) ?_
          refine TX.ef (listed' := #[true, true, true, true, true, true, true, true, true, true, false, true, false]) [3, 3] rfl (Ef.append (α := Int) (is' := [.own V26 (lc E7), .box B23 33 [.slice none 0 0, .slice none 0 0, .int .i64 (0 : Int), .slice none 0 0], .box B2 33 [.slice none 0 0, .slice none 0 0, .int .i64 (0 : Int), .slice none 0 0], .box B1 33 [V_e0, V_e1, .int .i64 e.Seq, V_e3]]) [0, 0, 0, 0, 0] H15 ke24 kz3 rfl rfl rfl rfl rfl (Base.can HB_V_e3)) rfl rfl rfl rfl (fun _ => rfl) (fun V29 => ?_)
          refine TA.one 10 (by kernel_rfl) ?_
          refine TX.y (listed' := #[true, true, true, true, true, true, true, true, true, true, true, true, false]) [3, 3] rfl (Y.build (cells := [V26, .slice none 0 0, .int .i64 e.Seq, V29]) [(0, [V26]), (2, [.int .i64 e.Seq]), (3, [V29])] kp33 kz33 ⟨rfl, ⟨_, rfl, (Cel.one (One.can (Can.own 1 rfl)))⟩, ⟨rfl, ⟨_, rfl, (Cel.plain rfl rfl)⟩, ⟨rfl, ⟨_, rfl, (Cel.one (One.can (Can.own 0 rfl)))⟩, trivial⟩⟩⟩ rfl) rfl rfl rfl rfl rfl ?_
          refine TA.one 12 (by kernel_rfl) ?_
          refine TX.ef0 (listed' := #[true, true, true, true, true, true, true, true, true, true, true, true, true]) [3, 3] rfl (Ef.store_box (us := [V26, .slice none 0 0, .int .i64 e.Seq, V29]) (vs' := [V26, .slice none 0 0, .int .i64 e.Seq, V29]) (is' := [.own V29 (lc E14), .own V26 (lc E7), .box B23 33 [V26, .slice none 0 0, .int .i64 e.Seq, V29], .box B2 33 [.slice none 0 0, .slice none 0 0, .int .i64 (0 : Int), .slice none 0 0], .box B1 33 [V_e0, V_e1, .int .i64 e.Seq, V_e3]]) 2 kk33 rfl rfl rfl (Cel.agg ⟨(One.can (Can.own 1 rfl)), (One.plain rfl), (One.plain rfl), (One.can (Can.own 0 rfl)), trivial⟩) rfl rfl rfl rfl) rfl rfl rfl (fun _ => rfl) (fun _ => ?_)
          refine TA.nil (by kernel_rfl) ?_
          exact TE.jb_go (B23, V26, V29) [4, 3, 2, 1, 0] ⟨rfl, rfl, rfl, trivial⟩ rfl
        · refine TX.ef (listed' := #[true, true, true, false, true, true, true, true, true, false, false, true, false]) [3, 3] rfl (Ef.buildSlice (α := Int) (Vs := []) ([] : List Int) ke24 kz3 rfl rfl rfl rfl rfl) rfl rfl rfl rfl (fun _ => rfl) (fun B27 => ?_)
          refine TA.one 3 (by kernel_rfl) ?_
          refine TX.ef (listed' := #[true, true, true, true, true, true, true, true, true, false, false, true, false]) [3, 3] rfl (Ef.append (α := Ent) (is' := [.own (.slice (some ⟨B27, 0, none⟩) 0 0) (lc ([] : List Int)), .box B23 33 [.slice none 0 0, .slice none 0 0, .int .i64 (0 : Int), .slice none 0 0], .box B2 33 [.slice none 0 0, .slice none 0 0, .int .i64 (0 : Int), .slice none 0 0], .box B1 33 [V_e0, V_e1, .int .i64 e.Seq, V_e3]]) [1, 0, 0, 0, 0] H8 ke30 kz73 rfl rfl rfl rfl rfl (Base.can HB_V_e0)) rfl rfl rfl rfl (fun _ => rfl) (fun V28 => ?_)
          refine TA.one 9 (by kernel_rfl) ?_
          refine TX.ef (listed' := #[true, true, true, true, true, true, true, true, true, true, false, true, false]) [3, 3] rfl (Ef.append (α := Int) (is' := [.own V28 (lc E7), .box B23 33 [.slice none 0 0, .slice none 0 0, .int .i64 (0 : Int), .slice none 0 0], .box B2 33 [.slice none 0 0, .slice none 0 0, .int .i64 (0 : Int), .slice none 0 0], .box B1 33 [V_e0, V_e1, .int .i64 e.Seq, V_e3]]) [1, 0, 0, 0, 0] H15 ke24 kz3 rfl rfl rfl rfl rfl (Base.can HB_V_e3)) rfl rfl rfl rfl (fun _ => rfl) (fun V29 => ?_)
          refine TA.one 10 (by kernel_rfl) ?_
          refine TX.y (listed' := #[true, true, true, true, true, true, true, true, true, true, true, true, false]) [3, 3] rfl (Y.build (cells := [V28, .slice none 0 0, .int .i64 e.Seq, V29]) [(0, [V28]), (2, [.int .i64 e.Seq]), (3, [V29])] kp33 kz33 ⟨rfl, ⟨_, rfl, (Cel.one (One.can (Can.own 1 rfl)))⟩, ⟨rfl, ⟨_, rfl, (Cel.plain rfl rfl)⟩, ⟨rfl, ⟨_, rfl, (Cel.one (One.can (Can.own 0 rfl)))⟩, trivial⟩⟩⟩ rfl) rfl rfl rfl rfl rfl ?_
          refine TA.one 12 (by kernel_rfl) ?_
          refine TX.ef0 (listed' := #[true, true, true, true, true, true, true, true, true, true, true, true, true]) [3, 3] rfl (Ef.store_box (us := [V28, .slice none 0 0, .int .i64 e.Seq, V29]) (vs' := [V28, .slice none 0 0, .int .i64 e.Seq, V29]) (is' := [.own V29 (lc E14), .own V28 (lc E7), .box B23 33 [V28, .slice none 0 0, .int .i64 e.Seq, V29], .box B2 33 [.slice none 0 0, .slice none 0 0, .int .i64 (0 : Int), .slice none 0 0], .box B1 33 [V_e0, V_e1, .int .i64 e.Seq, V_e3]]) 2 kk33 rfl rfl rfl (Cel.agg ⟨(One.can (Can.own 1 rfl)), (One.plain rfl), (One.plain rfl), (One.can (Can.own 0 rfl)), trivial⟩) rfl rfl rfl rfl) rfl rfl rfl (fun _ => rfl) (fun _ => ?_)
          refine TA.nil (by kernel_rfl) ?_
          exact TE.jb_go (B23, V28, V29) [4, 3, 2, 1, 0] ⟨rfl, rfl, rfl, trivial⟩ rfl
      · refine TX.ef (listed' := #[false, true, true, false, true, true, true, true, true, false, false, true, false]) [2, 2] rfl (Ef.buildSlice (α := Int) (Vs := []) ([] : List Int) ke24 kz3 rfl rfl rfl rfl rfl) rfl rfl rfl rfl (fun _ => rfl) (fun B25 => ?_)
        refine TA.one 0 (by kernel_rfl) ?_
        refine TX.ef (listed' := #[true, true, true, false, true, true, true, true, true, false, false, true, false]) [3, 3] rfl (Ef.buildSlice (α := Ent) (Vs := []) ([] : List Ent) ke30 kz73 rfl rfl rfl rfl rfl) rfl rfl rfl rfl (fun _ => rfl) (fun B26 => ?_)
        refine TA.one 3 (by kernel_rfl) ?_
        refine TX.ef (listed' := #[true, true, true, true, true, true, true, true, true, false, false, true, false]) [3, 3] rfl (Ef.append (α := Ent) (is' := [.own (.slice (some ⟨B25, 0, none⟩) 0 0) (lc ([] : List Int)), .box B23 33 [.slice none 0 0, .slice none 0 0, .int .i64 (0 : Int), .slice none 0 0], .box B2 33 [.slice none 0 0, .slice none 0 0, .int .i64 (0 : Int), .slice none 0 0], .box B1 33 [V_e0, V_e1, .int .i64 e.Seq, V_e3]]) [0, 0, 0, 0, 0] H8 ke30 kz73 rfl rfl rfl rfl rfl (Base.can HB_V_e0)) rfl rfl rfl rfl (fun _ => rfl) (fun V27 => ?_)
        refine TA.one 9 (by kernel_rfl) ?_
        refine TX.ef (listed' := #[true, true, true, true, true, true, true, true, true, true, false, true, false]) [3, 3] rfl (Ef.append (α := Int) (is' := [.own V27 (lc E7), .box B23 33 [.slice none 0 0, .slice none 0 0, .int .i64 (0 : Int), .slice none 0 0], .box B2 33 [.slice none 0 0, .slice none 0 0, .int .i64 (0 : Int), .slice none 0 0], .box B1 33 [V_e0, V_e1, .int .i64 e.Seq, V_e3]]) [1, 0, 0, 0, 0] H15 ke24 kz3 rfl rfl rfl rfl rfl (Base.can HB_V_e3)) rfl rfl rfl rfl (fun _ => rfl) (fun V28 => ?_)
        refine TA.one 10 (by kernel_rfl) ?_
        refine TX.y (listed' := #[true, true, true, true, true, true, true, true, true, true, true, true, false]) [3, 3] rfl (Y.build (cells := [V27, .slice none 0 0, .int .i64 e.Seq, V28]) [(0, [V27]), (2, [.int .i64 e.Seq]), (3, [V28])] kp33 kz33 ⟨rfl, ⟨_, rfl, (Cel.one (One.can (Can.own 1 rfl)))⟩, ⟨rfl, ⟨_, rfl, (Cel.plain rfl rfl)⟩, ⟨rfl, ⟨_, rfl, (Cel.one (One.can (Can.own 0 rfl)))⟩, trivial⟩⟩⟩ rfl) rfl rfl rfl rfl rfl ?_
        refine TA.one 12 (by kernel_rfl) ?_
        refine TX.ef0 (listed' := #[true, true, true, true, true, true, true, true, true, true, true, true, true]) [3, 3] rfl (Ef.store_box (us := [V27, .slice none 0 0, .int .i64 e.Seq, V28]) (vs' := [V27, .slice none 0 0, .int .i64 e.Seq, V28]) (is' := [.own V28 (lc E14), .own V27 (lc E7), .box B23 33 [V27, .slice none 0 0, .int .i64 e.Seq, V28], .box B2 33 [.slice none 0 0, .slice none 0 0, .int .i64 (0 : Int), .slice none 0 0], .box B1 33 [V_e0, V_e1, .int .i64 e.Seq, V_e3]]) 2 kk33 rfl rfl rfl (Cel.agg ⟨(One.can (Can.own 1 rfl)), (One.plain rfl), (One.plain rfl), (One.can (Can.own 0 rfl)), trivial⟩) rfl rfl rfl rfl) rfl rfl rfl (fun _ => rfl) (fun _ => ?_)
        refine TA.nil (by kernel_rfl) ?_
        exact TE.jb_go (B23, V27, V28) [4, 3, 2, 1, 0] ⟨rfl, rfl, rfl, trivial⟩ rfl
  · refine TE.next ?_
    refine TW.seq ?_
    refine TW.seq ?_
    refine TW.region ?_
    refine TO.y (Y.assign rfl) rfl rfl rfl ?_
    refine TO.nil ?_
    refine TE.next ?_
    refine TW.joinX (τ := List (List Ent)) (X := Value) (fun _ _ => [(2, .pointer (some ⟨B2, 0, none⟩)), (3, .pointer (some ⟨X20.1, 0, none⟩))]) (fun T X => [.box B2 33 [.slice none 0 0, .slice none 0 0, .int .i64 (0 : Int), .slice none 0 0], .box X20.1 33 [X20.2.1, X, .int .i64 e.Seq, X20.2.2], .own X20.2.1 (lc E7), .own X (lc T), .own X20.2.2 (lc E14)]) ?_ (fun T26 X27 => ?_)
    · refine TW.block ?_
      refine TW.nilItem 1 ?_
      refine TW.loopX (σ := Int × List (List Ent)) (X := Value) (fun T _ => [(1, .pointer (some ⟨B1, 0, none⟩)), (2, .pointer (some ⟨B2, 0, none⟩)), (3, .pointer (some ⟨X20.1, 0, none⟩)), (4, .int .i64 T.1)]) (fun T X => [.box B1 33 [V_e0, V_e1, .int .i64 e.Seq, V_e3], .box B2 33 [.slice none 0 0, .slice none 0 0, .int .i64 (0 : Int), .slice none 0 0], .box X20.1 33 [X20.2.1, X, .int .i64 e.Seq, X20.2.2], .own X20.2.1 (lc E7), .own X (lc T.2), .own X20.2.2 (lc E14)]) (.slice none 0 0) [1, 1, 1, 1, 0, 0] ⟨rfl, rfl, rfl, rfl, trivial⟩ rfl (fun S24 X25 => ?_)
      refine TW.seq ?_
      refine TW.seq ?_
      refine TW.region ?_
      refine TO.y (Y.move rfl) rfl rfl rfl ?_
      refine TO.y (Y.field_box kf33_1 rfl rfl) rfl rfl rfl ?_
      refine TO.y (Y.load_box (v := V_e1) 0 kk31 rfl rfl rfl) rfl rfl rfl ?_
      refine TO.y (Y.len (l := e.Tables) ke31 (Base.can HB_V_e1) rfl) rfl rfl rfl ?_
      refine TO.y (Y.lss rfl rfl) rfl rfl rfl ?_
      refine TO.nil ?_
      refine TE.next ?_
      refine TW.cond rfl (fun H28 => ?_) (fun H28 => ?_)
      · refine TW.skip ?_
        refine TE.next ?_
        refine TW.seq ?_
        refine TW.block ?_
        refine TW.bind fun E29 H30 => ?_
        refine TW.bind fun E35 H36 => ?_
        refine TW.bind fun E39 H40 => ?_
        refine TW.joinU (X := Value) (fun _ _ => [(1, .pointer (some ⟨B1, 0, none⟩)), (2, .pointer (some ⟨B2, 0, none⟩)), (3, .pointer (some ⟨X20.1, 0, none⟩)), (4, .int .i64 S24.1)]) (fun _ X => [.box B1 33 [V_e0, V_e1, .int .i64 e.Seq, V_e3], .box B2 33 [.slice none 0 0, .slice none 0 0, .int .i64 (0 : Int), .slice none 0 0], .box X20.1 33 [X20.2.1, X, .int .i64 e.Seq, X20.2.2], .own X20.2.1 (lc E7), .own X (lc E39), .own X20.2.2 (lc E14)]) ?_ (fun _ X42 => ?_)
        · refine TW.draw (isH := [.box B1 33 [V_e0, V_e1, .int .i64 e.Seq, V_e3], .box B2 33 [.slice none 0 0, .slice none 0 0, .int .i64 (0 : Int), .slice none 0 0], .own X20.2.1 (lc E7), .own X20.2.2 (lc E14)]) hMix ?_
          refine TA.y (listed' := #[true, false, false, false, false, false, false, false, false, false, false, false, false]) 0 [0, 0, 1, 2] rfl (Y.field_box kf33_1 rfl rfl) rfl rfl rfl (by kernel_rfl) (by kernel_rfl) (by kernel_rfl) rfl rfl ?_
          refine TA.y (listed' := #[true, false, false, true, false, false, false, false, false, false, false, false, false]) 3 [0, 0, 1, 2] rfl (Y.field_box kf33_1 rfl rfl) rfl rfl rfl (by kernel_rfl) (by kernel_rfl) (by kernel_rfl) rfl rfl ?_
          refine TA.y (listed' := #[true, false, false, true, true, false, false, false, false, false, false, false, false]) 4 [0, 0, 1, 2] rfl (Y.load_box (v := V_e1) 0 kk31 rfl rfl rfl) rfl rfl rfl (by kernel_rfl) (by kernel_rfl) (by kernel_rfl) rfl rfl ?_
          refine TA.y (listed' := #[true, false, false, true, true, true, false, false, false, false, false, false, false]) 5 [0, 0, 1, 2] rfl (Y.move rfl) rfl rfl rfl (by kernel_rfl) (by kernel_rfl) (by kernel_rfl) rfl rfl ?_
          refine TA.y (listed' := #[true, false, false, true, true, true, true, false, false, false, false, false, false]) 6 [0, 0, 1, 2] rfl (Y.index ke31 (Base.can HB_V_e1) H30 rfl rfl) rfl rfl rfl (by kernel_rfl) (by kernel_rfl) (by kernel_rfl) rfl rfl ?_
          have Q43 : Base w S (elv w V_e1 (S24.1.toNat * 1 + 0)) (lc E29) := Base.el HB_V_e1 (idx_get H30).2.2 rfl rfl
          refine TA.y (listed' := #[true, false, false, true, true, true, true, true, false, false, false, false, false]) 7 [0, 0, 1, 2] rfl (Y.load_base (α := List Ent) (u := (elv w V_e1 (S24.1.toNat * 1 + 0))) kk30 rfl HB_V_e1 (idx_get H30).2.2 rfl rfl rfl rfl rfl) rfl rfl rfl (by kernel_rfl) (by kernel_rfl) (by kernel_rfl) rfl rfl ?_
          refine TA.two 1 2 (by kernel_rfl) ?_ ?_
          · refine TX.y (listed' := #[true, true, false, true, true, true, true, true, false, false, false, false, false]) [0, 0, 1, 2] rfl (Y.load_box (v := X25) 2 kk31 rfl rfl rfl) rfl rfl rfl rfl rfl ?_
            refine TA.one 2 (by kernel_rfl) ?_
            refine TX.ef (listed' := #[true, true, true, true, true, true, true, true, false, false, false, false, false]) [1, 1, 2, 3] rfl (Ef.buildSlice (α := Ent) (Vs := []) ([] : List Ent) ke30 kz73 rfl rfl rfl rfl rfl) rfl rfl rfl rfl (fun _ => rfl) (fun B45 => ?_)
            refine TA.one 8 (by kernel_rfl) ?_
            refine TX.ef (listed' := #[true, true, true, true, true, true, true, true, true, false, false, false, false]) [1, 1, 2, 3] rfl (Ef.append (α := Ent) (is' := [.box B1 33 [V_e0, V_e1, .int .i64 e.Seq, V_e3], .box B2 33 [.slice none 0 0, .slice none 0 0, .int .i64 (0 : Int), .slice none 0 0], .box X20.1 33 [X20.2.1, X25, .int .i64 e.Seq, X20.2.2], .own X20.2.1 (lc E7), .own X25 (lc S24.2), .own X20.2.2 (lc E14)]) [0, 0, 0, 0, 0, 0, 0] H36 ke30 kz73 rfl rfl rfl rfl rfl (Base.can Q43)) rfl rfl rfl rfl (fun _ => rfl) (fun V46 => ?_)
            refine TA.one 9 (by kernel_rfl) ?_
            refine TX.ef (listed' := #[true, true, true, true, true, true, true, true, true, true, false, false, false]) [2, 2, 3, 4] rfl (Ef.buildSliceR (Vs := [V46]) [[V46]] [.raw V46] ke31 kz30 rfl rfl rfl rfl rfl ⟨(Cel.one (One.can (Can.own 0 rfl))), trivial⟩ rfl) rfl rfl rfl rfl (fun _ => rfl) (fun B47 => ?_)
            refine TA.ghost (is' := fun _ => [.own (.slice (some ⟨B47, 0, none⟩) 1 1) (lc ([E35])), .box B1 33 [V_e0, V_e1, .int .i64 e.Seq, V_e3], .box B2 33 [.slice none 0 0, .slice none 0 0, .int .i64 (0 : Int), .slice none 0 0], .box X20.1 33 [X20.2.1, X25, .int .i64 e.Seq, X20.2.2], .own X20.2.1 (lc E7), .own X25 (lc S24.2), .own X20.2.2 (lc E14)]) (Gh.closeAll (js := [.own V46 (lc E35)]) (r := [.box B1 33 [V_e0, V_e1, .int .i64 e.Seq, V_e3], .box B2 33 [.slice none 0 0, .slice none 0 0, .int .i64 (0 : Int), .slice none 0 0], .box X20.1 33 [X20.2.1, X25, .int .i64 e.Seq, X20.2.2], .own X20.2.1 (lc E7), .own X25 (lc S24.2), .own X20.2.2 (lc E14)]) [0, 0, 0, 0, 0, 0, 0, 0] rfl (Cls.fill Cls.nil)) (fun _ => ?_)
            refine TA.one 10 (by kernel_rfl) ?_
            refine TX.ef (listed' := #[true, true, true, true, true, true, true, true, true, true, true, false, false]) [1, 1, 2, 2] rfl (Ef.appN (α := List Ent) (is' := [.box B1 33 [V_e0, V_e1, .int .i64 e.Seq, V_e3], .box B2 33 [.slice none 0 0, .slice none 0 0, .int .i64 (0 : Int), .slice none 0 0], .box X20.1 33 [X20.2.1, X25, .int .i64 e.Seq, X20.2.2], .own X20.2.1 (lc E7), .own X20.2.2 (lc E14)]) [5, 0, 0, 0, 0, 0, 0] H40 ke31 kz30 rfl rfl rfl rfl rfl) rfl rfl rfl rfl (fun _ => rfl) (fun V48 => ?_)
            refine TA.y (listed' := #[true, true, true, true, true, true, true, true, true, true, true, true, false]) 11 [1, 1, 2, 2] rfl (Y.field_box kf33_1 rfl rfl) rfl rfl rfl (by kernel_rfl) (by kernel_rfl) (by kernel_rfl) rfl rfl ?_
            refine TA.one 12 (by kernel_rfl) ?_
            refine TX.ef0 (listed' := #[true, true, true, true, true, true, true, true, true, true, true, true, true]) [1, 1, 2, 2] rfl (Ef.store_box (us := [V48]) (vs' := [X20.2.1, V48, .int .i64 e.Seq, X20.2.2]) (is' := [.own V48 (lc E39), .box B1 33 [V_e0, V_e1, .int .i64 e.Seq, V_e3], .box B2 33 [.slice none 0 0, .slice none 0 0, .int .i64 (0 : Int), .slice none 0 0], .box X20.1 33 [X20.2.1, V48, .int .i64 e.Seq, X20.2.2], .own X20.2.1 (lc E7), .own X20.2.2 (lc E14)]) 3 kk31 rfl rfl rfl (Cel.one (One.can (Can.own 0 rfl))) rfl rfl rfl rfl) rfl rfl rfl (fun _ => rfl) (fun _ => ?_)
            refine TA.nil (by kernel_rfl) ?_
            exact TE.jb_go V48 [1, 1, 1, 1, 0, 0] ⟨rfl, rfl, rfl, rfl, trivial⟩ rfl
          · refine TX.ef (listed' := #[true, false, true, true, true, true, true, true, false, false, false, false, false]) [1, 1, 2, 3] rfl (Ef.buildSlice (α := Ent) (Vs := []) ([] : List Ent) ke30 kz73 rfl rfl rfl rfl rfl) rfl rfl rfl rfl (fun _ => rfl) (fun B44 => ?_)
            refine TA.two 1 8 (by kernel_rfl) ?_ ?_
            · refine TX.y (listed' := #[true, true, true, true, true, true, true, true, false, false, false, false, false]) [1, 1, 2, 3] rfl (Y.load_box (v := X25) 3 kk31 rfl rfl rfl) rfl rfl rfl rfl rfl ?_
              refine TA.one 8 (by kernel_rfl) ?_
              refine TX.ef (listed' := #[true, true, true, true, true, true, true, true, true, false, false, false, false]) [1, 1, 2, 3] rfl (Ef.append (α := Ent) (is' := [.box B1 33 [V_e0, V_e1, .int .i64 e.Seq, V_e3], .box B2 33 [.slice none 0 0, .slice none 0 0, .int .i64 (0 : Int), .slice none 0 0], .box X20.1 33 [X20.2.1, X25, .int .i64 e.Seq, X20.2.2], .own X20.2.1 (lc E7), .own X25 (lc S24.2), .own X20.2.2 (lc E14)]) [0, 0, 0, 0, 0, 0, 0] H36 ke30 kz73 rfl rfl rfl rfl rfl (Base.can Q43)) rfl rfl rfl rfl (fun _ => rfl) (fun V46 => ?_)
              refine TA.one 9 (by kernel_rfl) ?_
              refine TX.ef (listed' := #[true, true, true, true, true, true, true, true, true, true, false, false, false]) [2, 2, 3, 4] rfl (Ef.buildSliceR (Vs := [V46]) [[V46]] [.raw V46] ke31 kz30 rfl rfl rfl rfl rfl ⟨(Cel.one (One.can (Can.own 0 rfl))), trivial⟩ rfl) rfl rfl rfl rfl (fun _ => rfl) (fun B47 => ?_)
              refine TA.ghost (is' := fun _ => [.own (.slice (some ⟨B47, 0, none⟩) 1 1) (lc ([E35])), .box B1 33 [V_e0, V_e1, .int .i64 e.Seq, V_e3], .box B2 33 [.slice none 0 0, .slice none 0 0, .int .i64 (0 : Int), .slice none 0 0], .box X20.1 33 [X20.2.1, X25, .int .i64 e.Seq, X20.2.2], .own X20.2.1 (lc E7), .own X25 (lc S24.2), .own X20.2.2 (lc E14)]) (Gh.closeAll (js := [.own V46 (lc E35)]) (r := [.box B1 33 [V_e0, V_e1, .int .i64 e.Seq, V_e3], .box B2 33 [.slice none 0 0, .slice none 0 0, .int .i64 (0 : Int), .slice none 0 0], .box X20.1 33 [X20.2.1, X25, .int .i64 e.Seq, X20.2.2], .own X20.2.1 (lc E7), .own X25 (lc S24.2), .own X20.2.2 (lc E14)]) [0, 0, 0, 0, 0, 0, 0, 0] rfl (Cls.fill Cls.nil)) (fun _ => ?_)
              refine TA.one 10 (by kernel_rfl) ?_
              refine TX.ef (listed' := #[true, true, true, true, true, true, true, true, true, true, true, false, false]) [1, 1, 2, 2] rfl (Ef.appN (α := List Ent) (is' := [.box B1 33 [V_e0, V_e1, .int .i64 e.Seq, V_e3], .box B2 33 [.slice none 0 0, .slice none 0 0, .int .i64 (0 : Int), .slice none 0 0], .box X20.1 33 [X20.2.1, X25, .int .i64 e.Seq, X20.2.2], .own X20.2.1 (lc E7), .own X20.2.2 (lc E14)]) [5, 0, 0, 0, 0, 0, 0] H40 ke31 kz30 rfl rfl rfl rfl rfl) rfl rfl rfl rfl (fun _ => rfl) (fun V48 => ?_)
              refine TA.y (listed' := #[true, true, true, true, true, true, true, true, true, true, true, true, false]) 11 [1, 1, 2, 2] rfl (Y.field_box kf33_1 rfl rfl) rfl rfl rfl (by kernel_rfl) (by kernel_rfl) (by kernel_rfl) rfl rfl ?_
              refine TA.one 12 (by kernel_rfl) ?_
              refine TX.ef0 (listed' := #[true, true, true, true, true, true, true, true, true, true, true, true, true]) [1, 1, 2, 2] rfl (Ef.store_box (us := [V48]) (vs' := [X20.2.1, V48, .int .i64 e.Seq, X20.2.2]) (is' := [.own V48 (lc E39), .box B1 33 [V_e0, V_e1, .int .i64 e.Seq, V_e3], .box B2 33 [.slice none 0 0, .slice none 0 0, .int .i64 (0 : Int), .slice none 0 0], .box X20.1 33 [X20.2.1, V48, .int .i64 e.Seq, X20.2.2], .own X20.2.1 (lc E7), .own X20.2.2 (lc E14)]) 3 kk31 rfl rfl rfl (Cel.one (One.can (Can.own 0 rfl))) rfl rfl rfl rfl) rfl rfl rfl (fun _ => rfl) (fun _ => ?_)
              refine TA.nil (by kernel_rfl) ?_
              exact TE.jb_go V48 [1, 1, 1, 1, 0, 0] ⟨rfl, rfl, rfl, rfl, trivial⟩ rfl
            · refine TX.ef (listed' := #[true, false, true, true, true, true, true, true, true, false, false, false, false]) [1, 1, 2, 3] rfl (Ef.append (α := Ent) (is' := [.box B1 33 [V_e0, V_e1, .int .i64 e.Seq, V_e3], .box B2 33 [.slice none 0 0, .slice none 0 0, .int .i64 (0 : Int), .slice none 0 0], .box X20.1 33 [X20.2.1, X25, .int .i64 e.Seq, X20.2.2], .own X20.2.1 (lc E7), .own X25 (lc S24.2), .own X20.2.2 (lc E14)]) [0, 0, 0, 0, 0, 0, 0] H36 ke30 kz73 rfl rfl rfl rfl rfl (Base.can Q43)) rfl rfl rfl rfl (fun _ => rfl) (fun V45 => ?_)
              refine TA.two 1 9 (by kernel_rfl) ?_ ?_
              · refine TX.y (listed' := #[true, true, true, true, true, true, true, true, true, false, false, false, false]) [1, 1, 2, 3] rfl (Y.load_box (v := X25) 3 kk31 rfl rfl rfl) rfl rfl rfl rfl rfl ?_
                refine TA.one 9 (by kernel_rfl) ?_
                refine TX.ef (listed' := #[true, true, true, true, true, true, true, true, true, true, false, false, false]) [2, 2, 3, 4] rfl (Ef.buildSliceR (Vs := [V45]) [[V45]] [.raw V45] ke31 kz30 rfl rfl rfl rfl rfl ⟨(Cel.one (One.can (Can.own 0 rfl))), trivial⟩ rfl) rfl rfl rfl rfl (fun _ => rfl) (fun B47 => ?_)
                refine TA.ghost (is' := fun _ => [.own (.slice (some ⟨B47, 0, none⟩) 1 1) (lc ([E35])), .box B1 33 [V_e0, V_e1, .int .i64 e.Seq, V_e3], .box B2 33 [.slice none 0 0, .slice none 0 0, .int .i64 (0 : Int), .slice none 0 0], .box X20.1 33 [X20.2.1, X25, .int .i64 e.Seq, X20.2.2], .own X20.2.1 (lc E7), .own X25 (lc S24.2), .own X20.2.2 (lc E14)]) (Gh.closeAll (js := [.own V45 (lc E35)]) (r := [.box B1 33 [V_e0, V_e1, .int .i64 e.Seq, V_e3], .box B2 33 [.slice none 0 0, .slice none 0 0, .int .i64 (0 : Int), .slice none 0 0], .box X20.1 33 [X20.2.1, X25, .int .i64 e.Seq, X20.2.2], .own X20.2.1 (lc E7), .own X25 (lc S24.2), .own X20.2.2 (lc E14)]) [0, 0, 0, 0, 0, 0, 0, 0] rfl (Cls.fill Cls.nil)) (fun _ => ?_)
                refine TA.one 10 (by kernel_rfl) ?_
                refine TX.ef (listed' := #[true, true, true, true, true, true, true, true, true, true, true, false, false]) [1, 1, 2, 2] rfl (Ef.appN (α := List Ent) (is' := [.box B1 33 [V_e0, V_e1, .int .i64 e.Seq, V_e3], .box B2 33 [.slice none 0 0, .slice none 0 0, .int .i64 (0 : Int), .slice none 0 0], .box X20.1 33 [X20.2.1, X25, .int .i64 e.Seq, X20.2.2], .own X20.2.1 (lc E7), .own X20.2.2 (lc E14)]) [5, 0, 0, 0, 0, 0, 0] H40 ke31 kz30 rfl rfl rfl rfl rfl) rfl rfl rfl rfl (fun _ => rfl) (fun V48 => ?_)
                refine TA.y (listed' := #[true, true, true, true, true, true, true, true, true, true, true, true, false]) 11 [1, 1, 2, 2] rfl (Y.field_box kf33_1 rfl rfl) rfl rfl rfl (by kernel_rfl) (by kernel_rfl) (by kernel_rfl) rfl rfl ?_
                refine TA.one 12 (by kernel_rfl) ?_
                refine TX.ef0 (listed' := #[true, true, true, true, true, true, true, true, true, true, true, true, true]) [1, 1, 2, 2] rfl (Ef.store_box (us := [V48]) (vs' := [X20.2.1, V48, .int .i64 e.Seq, X20.2.2]) (is' := [.own V48 (lc E39), .box B1 33 [V_e0, V_e1, .int .i64 e.Seq, V_e3], .box B2 33 [.slice none 0 0, .slice none 0 0, .int .i64 (0 : Int), .slice none 0 0], .box X20.1 33 [X20.2.1, V48, .int .i64 e.Seq, X20.2.2], .own X20.2.1 (lc E7), .own X20.2.2 (lc E14)]) 3 kk31 rfl rfl rfl (Cel.one (One.can (Can.own 0 rfl))) rfl rfl rfl rfl) rfl rfl rfl (fun _ => rfl) (fun _ => ?_)
                refine TA.nil (by kernel_rfl) ?_
                exact TE.jb_go V48 [1, 1, 1, 1, 0, 0] ⟨rfl, rfl, rfl, rfl, trivial⟩ rfl
              · refine TX.ef (listed' := #[true, false, true, true, true, true, true, true, true, true, false, false, false]) [2, 2, 3, 4] rfl (Ef.buildSliceR (Vs := [V45]) [[V45]] [.raw V45] ke31 kz30 rfl rfl rfl rfl rfl ⟨(Cel.one (One.can (Can.own 0 rfl))), trivial⟩ rfl) rfl rfl rfl rfl (fun _ => rfl) (fun B46 => ?_)
                refine TA.ghost (is' := fun _ => [.own (.slice (some ⟨B46, 0, none⟩) 1 1) (lc ([E35])), .box B1 33 [V_e0, V_e1, .int .i64 e.Seq, V_e3], .box B2 33 [.slice none 0 0, .slice none 0 0, .int .i64 (0 : Int), .slice none 0 0], .box X20.1 33 [X20.2.1, X25, .int .i64 e.Seq, X20.2.2], .own X20.2.1 (lc E7), .own X25 (lc S24.2), .own X20.2.2 (lc E14)]) (Gh.closeAll (js := [.own V45 (lc E35)]) (r := [.box B1 33 [V_e0, V_e1, .int .i64 e.Seq, V_e3], .box B2 33 [.slice none 0 0, .slice none 0 0, .int .i64 (0 : Int), .slice none 0 0], .box X20.1 33 [X20.2.1, X25, .int .i64 e.Seq, X20.2.2], .own X20.2.1 (lc E7), .own X25 (lc S24.2), .own X20.2.2 (lc E14)]) [0, 0, 0, 0, 0, 0, 0, 0] rfl (Cls.fill Cls.nil)) (fun _ => ?_)
                refine TA.one 1 (by kernel_rfl) ?_
                refine TX.y (listed' := #[true, true, true, true, true, true, true, true, true, true, false, false, false]) [1, 1, 2, 3] rfl (Y.load_box (v := X25) 3 kk31 rfl rfl rfl) rfl rfl rfl rfl rfl ?_
                refine TA.one 10 (by kernel_rfl) ?_
                refine TX.ef (listed' := #[true, true, true, true, true, true, true, true, true, true, true, false, false]) [1, 1, 2, 2] rfl (Ef.appN (α := List Ent) (is' := [.box B1 33 [V_e0, V_e1, .int .i64 e.Seq, V_e3], .box B2 33 [.slice none 0 0, .slice none 0 0, .int .i64 (0 : Int), .slice none 0 0], .box X20.1 33 [X20.2.1, X25, .int .i64 e.Seq, X20.2.2], .own X20.2.1 (lc E7), .own X20.2.2 (lc E14)]) [5, 0, 0, 0, 0, 0, 0] H40 ke31 kz30 rfl rfl rfl rfl rfl) rfl rfl rfl rfl (fun _ => rfl) (fun V47 => ?_)
                refine TA.y (listed' := #[true, true, true, true, true, true, true, true, true, true, true, true, false]) 11 [1, 1, 2, 2] rfl (Y.field_box kf33_1 rfl rfl) rfl rfl rfl (by kernel_rfl) (by kernel_rfl) (by kernel_rfl) rfl rfl ?_
                refine TA.one 12 (by kernel_rfl) ?_
                refine TX.ef0 (listed' := #[true, true, true, true, true, true, true, true, true, true, true, true, true]) [1, 1, 2, 2] rfl (Ef.store_box (us := [V47]) (vs' := [X20.2.1, V47, .int .i64 e.Seq, X20.2.2]) (is' := [.own V47 (lc E39), .box B1 33 [V_e0, V_e1, .int .i64 e.Seq, V_e3], .box B2 33 [.slice none 0 0, .slice none 0 0, .int .i64 (0 : Int), .slice none 0 0], .box X20.1 33 [X20.2.1, V47, .int .i64 e.Seq, X20.2.2], .own X20.2.1 (lc E7), .own X20.2.2 (lc E14)]) 3 kk31 rfl rfl rfl (Cel.one (One.can (Can.own 0 rfl))) rfl rfl rfl rfl) rfl rfl rfl (fun _ => rfl) (fun _ => ?_)
                refine TA.nil (by kernel_rfl) ?_
                exact TE.jb_go V47 [1, 1, 1, 1, 0, 0] ⟨rfl, rfl, rfl, rfl, trivial⟩ rfl
        · refine TE.block_normal ?_
          refine TE.next ?_
          refine TW.region ?_
          refine TO.y (Y.move rfl) rfl rfl rfl ?_
          refine TO.y (Y.add rfl rfl) rfl rfl rfl ?_
          refine TO.y (Y.assign rfl) rfl rfl rfl ?_
          refine TO.nil ?_
          exact TE.lp_go X42 [0, 0, 0, 0, 0, 0] ⟨rfl, rfl, rfl, rfl, trivial⟩ rfl
      · refine TW.exit ?_
        refine TE.then_exit ?_
        refine TE.lp_exit ?_
        refine TE.block_exit ?_
        exact TE.jn_go X25 [1, 1, 1, 1, 1] ⟨rfl, rfl, trivial⟩ rfl
    · refine TE.next ?_
      refine TW.seq ?_
      refine TW.region ?_
      refine TO.y (Y.load_box (v := .agg #[X20.2.1, X27, .int .i64 e.Seq, X20.2.2]) 1 kk33 rfl rfl rfl) rfl rfl rfl ?_
      refine TO.ef0 (Ef.store_box (us := [X20.2.1, X27, .int .i64 e.Seq, X20.2.2]) (vs' := [X20.2.1, X27, .int .i64 e.Seq, X20.2.2]) (is' := [.box B2 33 [X20.2.1, X27, .int .i64 e.Seq, X20.2.2], .box X20.1 33 [X20.2.1, X27, .int .i64 e.Seq, X20.2.2], .own X20.2.1 (lc E7), .own X27 (lc T26), .own X20.2.2 (lc E14)]) 0 kk33 rfl rfl rfl (Cel.agg ⟨(One.can (Can.own 2 rfl)), (One.can (Can.own 3 rfl)), (One.plain rfl), (One.can (Can.own 4 rfl)), trivial⟩) rfl rfl rfl rfl) rfl rfl (fun _ => ?_)
      refine TO.nil ?_
      refine TE.next ?_
      refine TW.ret ?_
      exact TE.leaf fun _ _ hf_ hs_ => ret_any (rs := [.cell 2 33]) (vs := [.agg #[X20.2.1, X27, .int .i64 e.Seq, X20.2.2]]) (.inl rfl) rfl (RV.cell 0 rfl rfl kk33 rfl trivial) hf_ hs_ ⟨(X20.2.1, X27, X20.2.2), rfl, hs_.pulls [2, 2, 2] rfl⟩

/-- loop.example/g00950/spec.BatchOk -/
noncomputable def spec_BatchOk (l : List Op) : Option Bool :=
  (spec_l1In ((l.length : Nat) : Int) (1 : Int) (6 : Int)).bind fun R1 =>
  if (!R1) = true then (some false)
  else (bindC (loopO (fun (S5 : Int) => if (decide (S5 < ((l.length : Nat) : Int))) = true then ((idx l S5).bind fun E10 =>
  (spec_l7Op E10).bind fun R12 =>
  if (!R12) = true then (some (.done (.done false)))
  else (some (.go (IntKind.i64.wrap (S5 + (1 : Int))))))
  else (some (.done (.go ()))))
  (0 : Int))
  (fun (T7 : Unit) => some true))

theorem spec_BatchOk_con (l : List Op) (V_l0 : Value) (r : Bool) (hm : spec_BatchOk l = some r) :
    Con Try.prog 33 [V_l0] [] [(V_l0, lc l)] (fun _ : Unit => .bool r) (fun _ => []) := by
  refine Con.intro (args := [V_l0]) (n := 20) (val := fun r (_ : Unit) => .bool r) (post := fun _ _ => []) (m := spec_BatchOk l) Try.func33 rfl rfl rfl hm ?_
  intro w S hrd
  have HB_V_l0 := hrd _ (.head _)
  clear hrd
  unfold spec_BatchOk
  refine TW.seq ?_
  refine TW.region ?_
  refine TO.y (Y.assign rfl) rfl rfl rfl ?_
  refine TO.nil ?_
  refine TE.next ?_
  refine TW.seq ?_
  refine TW.seq ?_
  refine TW.region ?_
  refine TO.y (Y.move rfl) rfl rfl rfl ?_
  refine TO.y (Y.len (l := l) ke37 (Base.can HB_V_l0) rfl) rfl rfl rfl ?_
  refine TO.bind fun R1 H2 => ?_
  refine TO.ef (Ef.call (rest := []) [] (spec_l1In_con ((l.length : Nat) : Int) (1 : Int) (6 : Int)  R1 H2) kc66 rfl rfl trivial) rfl rfl rfl (fun _ => ?_)
  refine TO.y (Y.not rfl) rfl rfl rfl ?_
  refine TO.nil ?_
  refine TE.next ?_
  refine TW.cond rfl (fun H4 => ?_) (fun H4 => ?_)
  · refine TW.seq ?_
    refine TW.region ?_
    refine TO.y (Y.assign rfl) rfl rfl rfl ?_
    refine TO.nil ?_
    refine TE.next ?_
    refine TW.ret ?_
    refine TE.then_ret ?_
    exact TE.leaf fun _ _ hf_ hs_ => ret_any (rs := [.tmp 2]) (vs := [.bool false]) (.inl rfl) rfl ⟨rfl, trivial⟩ hf_ hs_ ⟨(), rfl, hs_.pulls [] rfl⟩
  · refine TW.skip ?_
    refine TE.next ?_
    refine TW.seq ?_
    refine TW.seq ?_
    refine TW.region ?_
    refine TO.y (Y.assign rfl) rfl rfl rfl ?_
    refine TO.nil ?_
    refine TE.next ?_
    refine TW.joinX (τ := Unit) (X := Unit) (fun _ _ => []) (fun _ _ => []) ?_ (fun T7 X8 => ?_)
    · refine TW.block ?_
      refine TW.loopX (σ := Int) (X := Unit) (fun T _ => [(0, V_l0), (3, .int .i64 T)]) (fun _ _ => []) () [] ⟨rfl, rfl, trivial⟩ rfl (fun S5 X6 => ?_)
      refine TW.seq ?_
      refine TW.seq ?_
      refine TW.region ?_
      refine TO.y (Y.move rfl) rfl rfl rfl ?_
      refine TO.y (Y.move rfl) rfl rfl rfl ?_
      refine TO.y (Y.len (l := l) ke37 (Base.can HB_V_l0) rfl) rfl rfl rfl ?_
      refine TO.y (Y.lss rfl rfl) rfl rfl rfl ?_
      refine TO.nil ?_
      refine TE.next ?_
      refine TW.cond rfl (fun H9 => ?_) (fun H9 => ?_)
      · refine TW.skip ?_
        refine TE.next ?_
        refine TW.seq ?_
        refine TW.block ?_
        refine TW.seq ?_
        refine TW.region ?_
        refine TO.y (Y.move rfl) rfl rfl rfl ?_
        refine TO.y (Y.move rfl) rfl rfl rfl ?_
        refine TO.bind fun E10 H11 => ?_
        refine TO.y (Y.index ke37 (Base.can HB_V_l0) H11 rfl rfl) rfl rfl rfl ?_
        refine TO.y (Y.load_el (us := [strV E10.Key, .bool E10.Del, strV E10.Val]) (u := .agg #[strV E10.Key, .bool E10.Del, strV E10.Val]) kk70 rfl (Base.can HB_V_l0) (idx_get H11).2.2 rfl rfl rfl rfl rfl) rfl rfl rfl ?_
        refine TO.bind fun R12 H13 => ?_
        refine TO.ef (Ef.call (rest := []) [] (spec_l7Op_con E10  R12 H13) kc69 rfl rfl trivial) rfl rfl rfl (fun _ => ?_)
        refine TO.y (Y.not rfl) rfl rfl rfl ?_
        refine TO.nil ?_
        refine TE.next ?_
        refine TW.cond rfl (fun H15 => ?_) (fun H15 => ?_)
        · refine TW.seq ?_
          refine TW.region ?_
          refine TO.y (Y.assign rfl) rfl rfl rfl ?_
          refine TO.nil ?_
          refine TE.next ?_
          refine TW.ret ?_
          refine TE.block_ret ?_
          refine TE.then_ret ?_
          refine TE.lp_ret ?_
          refine TE.block_ret ?_
          refine TE.jn_done ?_
          refine TE.then_ret ?_
          exact TE.leaf fun _ _ hf_ hs_ => ret_any (rs := [.tmp 2]) (vs := [.bool false]) (.inl rfl) rfl ⟨rfl, trivial⟩ hf_ hs_ ⟨(), rfl, hs_.pulls [] rfl⟩
        · refine TW.skip ?_
          refine TE.block_normal ?_
          refine TE.next ?_
          refine TW.region ?_
          refine TO.y (Y.move rfl) rfl rfl rfl ?_
          refine TO.y (Y.add rfl rfl) rfl rfl rfl ?_
          refine TO.y (Y.assign rfl) rfl rfl rfl ?_
          refine TO.nil ?_
          exact TE.lp_go () [] ⟨rfl, rfl, trivial⟩ rfl
      · refine TW.exit ?_
        refine TE.then_exit ?_
        refine TE.lp_exit ?_
        refine TE.block_exit ?_
        exact TE.jn_go () [] trivial rfl
    · refine TE.next ?_
      refine TW.seq ?_
      refine TW.region ?_
      refine TO.y (Y.assign rfl) rfl rfl rfl ?_
      refine TO.nil ?_
      refine TE.next ?_
      refine TW.ret ?_
      exact TE.leaf fun _ _ hf_ hs_ => ret_any (rs := [.tmp 2]) (vs := [.bool true]) (.inl rfl) rfl ⟨rfl, trivial⟩ hf_ hs_ ⟨(), rfl, hs_.pulls [] rfl⟩

/-- loop.example/g00950/spec.l9Put -/
noncomputable def spec_l9Put (l : List Ent) (e : Ent) : Option (List Ent) :=
  bindC (loopO (fun (S3 : Bool × Int × List Ent) => if (decide (S3.2.1 < ((l.length : Nat) : Int))) = true then ((if (!S3.1) = true then ((idx l S3.2.1).bind fun E11 =>
  (spec_l9Ahead e E11).bind fun R13 =>
  some R13)
  else (some false)).bind (fun (T8 : Bool) =>
  bindC (if T8 = true then ((app 48 S3.2.2 ([e])).bind fun E21 =>
  some (.go (true, E21)))
  else (some (.go (S3.1, S3.2.2))))
  (fun (T16 : Bool × List Ent) => (idx l S3.2.1).bind fun E23 =>
  (app 48 T16.2 ([E23])).bind fun E27 =>
  some (.go (T16.1, IntKind.i64.wrap (S3.2.1 + (1 : Int)), E27)))))
  else (some (.done (.go (S3.1, S3.2.2)))))
  (false, (0 : Int), ([] : List Ent)))
  (fun (T5 : Bool × List Ent) => bindC (if (!T5.1) = true then ((app 48 T5.2 ([e])).bind fun E34 =>
  some (.go E34))
  else (some (.go T5.2)))
  (fun (T29 : List Ent) => some T29))

theorem spec_l9Put_con (l : List Ent) (e : Ent) (V_l0 : Value) (r : List Ent) (hm : spec_l9Put l e = some r) :
    Con Try.prog 34 [V_l0, .agg #[strV e.Key, .int .i64 e.Seq, .bool e.Del, strV e.Val]] [] [(V_l0, lc l)] (fun X : Value => X) (fun X => [.own X (lc r)]) := by
  refine Con.intro (args := [V_l0, .agg #[strV e.Key, .int .i64 e.Seq, .bool e.Del, strV e.Val]]) (n := 43) (val := fun _ (X : Value) => X) (post := fun r X => [.own X (lc r)]) (m := spec_l9Put l e) Try.func34 rfl rfl rfl hm ?_
  intro w S hrd
  have HB_V_l0 := hrd _ (.head _)
  clear hrd
  unfold spec_l9Put
  refine TW.seq ?_
  refine TW.region ?_
  refine TO.ef (Ef.box rfl (Cel.plain rfl rfl)) rfl rfl rfl (fun B1 => ?_)
  refine TO.y (Y.assign rfl) rfl rfl rfl ?_
  refine TO.nil ?_
  refine TE.next ?_
  refine TW.seq ?_
  refine TW.region ?_
  refine TO.ef (Ef.buildSlice (α := Ent) (Vs := []) ([] : List Ent) ke30 kz73 rfl rfl rfl rfl rfl) rfl rfl rfl (fun B2 => ?_)
  refine TO.y (Y.assign rfl) rfl rfl rfl ?_
  refine TO.nil ?_
  refine TE.next ?_
  refine TW.seq ?_
  refine TW.region ?_
  refine TO.y (Y.assign rfl) rfl rfl rfl ?_
  refine TO.nil ?_
  refine TE.next ?_
  refine TW.seq ?_
  refine TW.seq ?_
  refine TW.region ?_
  refine TO.y (Y.assign rfl) rfl rfl rfl ?_
  refine TO.nil ?_
  refine TE.next ?_
  refine TW.joinX (τ := Bool × List Ent) (X := Value) (fun T X => [(3, .pointer (some ⟨B1, 0, none⟩)), (5, X), (6, .bool T.1)]) (fun T X => [.box B1 73 [strV e.Key, .int .i64 e.Seq, .bool e.Del, strV e.Val], .own X (lc T.2)]) ?_ (fun T5 X6 => ?_)
  · refine TW.block ?_
    refine TW.loopX (σ := Bool × Int × List Ent) (X := Value) (fun T X => [(0, V_l0), (3, .pointer (some ⟨B1, 0, none⟩)), (5, X), (6, .bool T.1), (7, .int .i64 T.2.1)]) (fun T X => [.box B1 73 [strV e.Key, .int .i64 e.Seq, .bool e.Del, strV e.Val], .own X (lc T.2.2)]) (.slice (some ⟨B2, 0, none⟩) 0 0) [1, 0] ⟨rfl, rfl, rfl, rfl, rfl, trivial⟩ rfl (fun S3 X4 => ?_)
    refine TW.seq ?_
    refine TW.seq ?_
    refine TW.region ?_
    refine TO.y (Y.move rfl) rfl rfl rfl ?_
    refine TO.y (Y.move rfl) rfl rfl rfl ?_
    refine TO.y (Y.len (l := l) ke30 (Base.can HB_V_l0) rfl) rfl rfl rfl ?_
    refine TO.y (Y.lss rfl rfl) rfl rfl rfl ?_
    refine TO.nil ?_
    refine TE.next ?_
    refine TW.cond rfl (fun H7 => ?_) (fun H7 => ?_)
    · refine TW.skip ?_
      refine TE.next ?_
      refine TW.seq ?_
      refine TW.block ?_
      refine TW.seq ?_
      refine TW.seq ?_
      refine TW.joinBX (τ := Bool) (X := Unit) (fun T _ => [(0, V_l0), (3, .pointer (some ⟨B1, 0, none⟩)), (5, X4), (6, .bool S3.1), (7, .int .i64 S3.2.1), (24, .bool T)]) (fun _ _ => [.box B1 73 [strV e.Key, .int .i64 e.Seq, .bool e.Del, strV e.Val], .own X4 (lc S3.2.2)]) ?_ (fun T8 X9 => ?_)
      · refine TW.draw (isH := [.box B1 73 [strV e.Key, .int .i64 e.Seq, .bool e.Del, strV e.Val], .own X4 (lc S3.2.2)]) hMix ?_
        refine TA.y (listed' := #[true, false, false, false, false, false, false, false, false, false]) 0 [0, 0] rfl (Y.move rfl) rfl rfl rfl (by kernel_rfl) (by kernel_rfl) (by kernel_rfl) rfl rfl ?_
        refine TA.y (listed' := #[true, true, false, false, false, false, false, false, false, false]) 1 [0, 0] rfl (Y.not rfl) rfl rfl rfl (by kernel_rfl) (by kernel_rfl) (by kernel_rfl) rfl rfl ?_
        refine TA.y (listed' := #[true, true, true, false, false, false, false, false, false, false]) 2 [0, 0] rfl (Y.move rfl) rfl rfl rfl (by kernel_rfl) (by kernel_rfl) (by kernel_rfl) rfl rfl ?_
        refine TA.ite (b := !S3.1) (fun H10 => ?_) (fun H10 => ?_)
        · refine TA.y (listed' := #[true, true, true, true, false, false, false, false, false, false]) 3 [0, 0] rfl (Y.load_box (v := .agg #[strV e.Key, .int .i64 e.Seq, .bool e.Del, strV e.Val]) 0 kk73 rfl rfl rfl) (Gd.at 2 true 17 (!S3.1) rfl rfl rfl (beq_tt H10)) rfl rfl (by kernel_rfl) (by kernel_rfl) (by kernel_rfl) rfl rfl ?_
          refine TA.y (listed' := #[true, true, true, true, true, false, false, false, false, false]) 4 [0, 0] rfl (Y.move rfl) (Gd.at 2 true 17 (!S3.1) rfl rfl rfl (beq_tt H10)) rfl rfl (by kernel_rfl) (by kernel_rfl) (by kernel_rfl) rfl rfl ?_
          refine TA.y (listed' := #[true, true, true, true, true, true, false, false, false, false]) 5 [0, 0] rfl (Y.move rfl) (Gd.at 2 true 17 (!S3.1) rfl rfl rfl (beq_tt H10)) rfl rfl (by kernel_rfl) (by kernel_rfl) (by kernel_rfl) rfl rfl ?_
          refine TA.bind fun E11 H12 => ?_
          refine TA.y (listed' := #[true, true, true, true, true, true, true, false, false, false]) 6 [0, 0] rfl (Y.index ke30 (Base.can HB_V_l0) H12 rfl rfl) (Gd.at 2 true 17 (!S3.1) rfl rfl rfl (beq_tt H10)) rfl rfl (by kernel_rfl) (by kernel_rfl) (by kernel_rfl) rfl rfl ?_
          refine TA.y (listed' := #[true, true, true, true, true, true, true, true, false, false]) 7 [0, 0] rfl (Y.load_el (us := [strV E11.Key, .int .i64 E11.Seq, .bool E11.Del, strV E11.Val]) (u := .agg #[strV E11.Key, .int .i64 E11.Seq, .bool E11.Del, strV E11.Val]) kk73 rfl (Base.can HB_V_l0) (idx_get H12).2.2 rfl rfl rfl rfl rfl) (Gd.at 2 true 17 (!S3.1) rfl rfl rfl (beq_tt H10)) rfl rfl (by kernel_rfl) (by kernel_rfl) (by kernel_rfl) rfl rfl ?_
          refine TA.bind fun R13 H14 => ?_
          refine TA.one 8 (by kernel_rfl) ?_
          refine TX.ef (listed' := #[true, true, true, true, true, true, true, true, true, false]) [0, 0] rfl (Ef.call (rest := [.box B1 73 [strV e.Key, .int .i64 e.Seq, .bool e.Del, strV e.Val], .own X4 (lc S3.2.2)]) [0, 0] (spec_l9Ahead_con e E11  R13 H14) kc70 rfl rfl trivial) (Gd.at 2 true 17 (!S3.1) rfl rfl rfl (beq_tt H10)) rfl rfl rfl (fun _ => rfl) (fun _ => ?_)
          refine TA.y (listed' := #[true, true, true, true, true, true, true, true, true, true]) 9 [0, 0] rfl (Y.pick_t H10 rfl rfl) rfl rfl rfl (by kernel_rfl) (by kernel_rfl) (by kernel_rfl) rfl rfl ?_
          refine TA.nil (by kernel_rfl) ?_
          exact TE.jb_go () [0, 0] ⟨rfl, rfl, rfl, rfl, rfl, rfl, trivial⟩ rfl
        · refine TA.off (listed' := #[true, true, true, true, false, false, false, false, false, false]) 3 [0, 0] rfl (Gd.at 2 true 17 (!S3.1) rfl rfl rfl (beq_ft H10)) rfl rfl (by kernel_rfl) (by kernel_rfl) (by kernel_rfl) rfl rfl ?_
          refine TA.off (listed' := #[true, true, true, true, true, false, false, false, false, false]) 4 [0, 0] rfl (Gd.at 2 true 17 (!S3.1) rfl rfl rfl (beq_ft H10)) rfl rfl (by kernel_rfl) (by kernel_rfl) (by kernel_rfl) rfl rfl ?_
          refine TA.off (listed' := #[true, true, true, true, true, true, false, false, false, false]) 5 [0, 0] rfl (Gd.at 2 true 17 (!S3.1) rfl rfl rfl (beq_ft H10)) rfl rfl (by kernel_rfl) (by kernel_rfl) (by kernel_rfl) rfl rfl ?_
          refine TA.off (listed' := #[true, true, true, true, true, true, true, false, false, false]) 6 [0, 0] rfl (Gd.at 2 true 17 (!S3.1) rfl rfl rfl (beq_ft H10)) rfl rfl (by kernel_rfl) (by kernel_rfl) (by kernel_rfl) rfl rfl ?_
          refine TA.off (listed' := #[true, true, true, true, true, true, true, true, false, false]) 7 [0, 0] rfl (Gd.at 2 true 17 (!S3.1) rfl rfl rfl (beq_ft H10)) rfl rfl (by kernel_rfl) (by kernel_rfl) (by kernel_rfl) rfl rfl ?_
          refine TA.off (listed' := #[true, true, true, true, true, true, true, true, true, false]) 8 [0, 0] rfl (Gd.at 2 true 17 (!S3.1) rfl rfl rfl (beq_ft H10)) rfl rfl (by kernel_rfl) (by kernel_rfl) (by kernel_rfl) rfl rfl ?_
          refine TA.y (listed' := #[true, true, true, true, true, true, true, true, true, true]) 9 [0, 0] rfl (Y.pick_f H10 rfl rfl) rfl rfl rfl (by kernel_rfl) (by kernel_rfl) (by kernel_rfl) rfl rfl ?_
          refine TA.nil (by kernel_rfl) ?_
          exact TE.jb_go () [0, 0] ⟨rfl, rfl, rfl, rfl, rfl, rfl, trivial⟩ rfl
      · refine TE.next ?_
        refine TW.joinX (τ := Bool × List Ent) (X := Value) (fun T X => [(0, V_l0), (3, .pointer (some ⟨B1, 0, none⟩)), (5, X), (6, .bool T.1), (7, .int .i64 S3.2.1)]) (fun T X => [.box B1 73 [strV e.Key, .int .i64 e.Seq, .bool e.Del, strV e.Val], .own X (lc T.2)]) ?_ (fun T16 X17 => ?_)
        · refine TW.cond rfl (fun H18 => ?_) (fun H18 => ?_)
          · refine TW.seq ?_
            refine TW.region ?_
            refine TO.y (Y.move rfl) rfl rfl rfl ?_
            refine TO.y (Y.load_box (v := .agg #[strV e.Key, .int .i64 e.Seq, .bool e.Del, strV e.Val]) 0 kk73 rfl rfl rfl) rfl rfl rfl ?_
            refine TO.ef (Ef.buildSlice (α := Ent) (Vs := [.agg #[strV e.Key, .int .i64 e.Seq, .bool e.Del, strV e.Val]]) [e] ke30 kz73 rfl rfl rfl rfl rfl) rfl rfl rfl (fun B19 => ?_)
            refine TO.bind fun E21 H22 => ?_
            refine TO.ef (Ef.append (α := Ent) (is' := [.own (.slice (some ⟨B19, 0, none⟩) 1 1) (lc ([e])), .box B1 73 [strV e.Key, .int .i64 e.Seq, .bool e.Del, strV e.Val]]) [2, 0, 0] H22 ke30 kz73 rfl rfl rfl rfl rfl (Can.own 0 rfl)) rfl rfl rfl (fun V20 => ?_)
            refine TO.y (Y.assign rfl) rfl rfl rfl ?_
            refine TO.nil ?_
            refine TE.next ?_
            refine TW.region ?_
            refine TO.y (Y.assign rfl) rfl rfl rfl ?_
            refine TO.nil ?_
            exact TE.jn_go V20 [2, 0] ⟨rfl, rfl, rfl, rfl, rfl, trivial⟩ rfl
          · refine TW.skip ?_
            exact TE.jn_go X4 [0, 0] ⟨rfl, rfl, rfl, rfl, rfl, trivial⟩ rfl
        · refine TE.next ?_
          refine TW.region ?_
          refine TO.y (Y.move rfl) rfl rfl rfl ?_
          refine TO.y (Y.move rfl) rfl rfl rfl ?_
          refine TO.y (Y.move rfl) rfl rfl rfl ?_
          refine TO.bind fun E23 H24 => ?_
          refine TO.y (Y.index ke30 (Base.can HB_V_l0) H24 rfl rfl) rfl rfl rfl ?_
          refine TO.y (Y.load_el (us := [strV E23.Key, .int .i64 E23.Seq, .bool E23.Del, strV E23.Val]) (u := .agg #[strV E23.Key, .int .i64 E23.Seq, .bool E23.Del, strV E23.Val]) kk73 rfl (Base.can HB_V_l0) (idx_get H24).2.2 rfl rfl rfl rfl rfl) rfl rfl rfl ?_
          refine TO.ef (Ef.buildSlice (α := Ent) (Vs := [.agg #[strV E23.Key, .int .i64 E23.Seq, .bool E23.Del, strV E23.Val]]) [E23] ke30 kz73 rfl rfl rfl rfl rfl) rfl rfl rfl (fun B25 => ?_)
          refine TO.bind fun E27 H28 => ?_
          refine TO.ef (Ef.append (α := Ent) (is' := [.own (.slice (some ⟨B25, 0, none⟩) 1 1) (lc ([E23])), .box B1 73 [strV e.Key, .int .i64 e.Seq, .bool e.Del, strV e.Val]]) [2, 0, 0] H28 ke30 kz73 rfl rfl rfl rfl rfl (Can.own 0 rfl)) rfl rfl rfl (fun V26 => ?_)
          refine TO.y (Y.assign rfl) rfl rfl rfl ?_
          refine TO.nil ?_
          refine TE.block_normal ?_
          refine TE.next ?_
          refine TW.region ?_
          refine TO.y (Y.move rfl) rfl rfl rfl ?_
          refine TO.y (Y.add rfl rfl) rfl rfl rfl ?_
          refine TO.y (Y.assign rfl) rfl rfl rfl ?_
          refine TO.nil ?_
          exact TE.lp_go V26 [2, 0] ⟨rfl, rfl, rfl, rfl, rfl, trivial⟩ rfl
    · refine TW.exit ?_
      refine TE.then_exit ?_
      refine TE.lp_exit ?_
      refine TE.block_exit ?_
      exact TE.jn_go X4 [0, 0] ⟨rfl, rfl, rfl, trivial⟩ rfl
  · refine TE.next ?_
    refine TW.seq ?_
    refine TW.seq ?_
    refine TW.region ?_
    refine TO.y (Y.move rfl) rfl rfl rfl ?_
    refine TO.y (Y.not rfl) rfl rfl rfl ?_
    refine TO.nil ?_
    refine TE.next ?_
    refine TW.joinX (τ := List Ent) (X := Value) (fun _ X => [(5, X)]) (fun T X => [.own X (lc T)]) ?_ (fun T29 X30 => ?_)
    · refine TW.cond rfl (fun H31 => ?_) (fun H31 => ?_)
      · refine TW.region ?_
        refine TO.y (Y.move rfl) rfl rfl rfl ?_
        refine TO.y (Y.load_box (v := .agg #[strV e.Key, .int .i64 e.Seq, .bool e.Del, strV e.Val]) 0 kk73 rfl rfl rfl) rfl rfl rfl ?_
        refine TO.ef (Ef.buildSlice (α := Ent) (Vs := [.agg #[strV e.Key, .int .i64 e.Seq, .bool e.Del, strV e.Val]]) [e] ke30 kz73 rfl rfl rfl rfl rfl) rfl rfl rfl (fun B32 => ?_)
        refine TO.bind fun E34 H35 => ?_
        refine TO.ef (Ef.append (α := Ent) (is' := [.own (.slice (some ⟨B32, 0, none⟩) 1 1) (lc ([e])), .box B1 73 [strV e.Key, .int .i64 e.Seq, .bool e.Del, strV e.Val]]) [2, 0, 0] H35 ke30 kz73 rfl rfl rfl rfl rfl (Can.own 0 rfl)) rfl rfl rfl (fun V33 => ?_)
        refine TO.y (Y.assign rfl) rfl rfl rfl ?_
        refine TO.nil ?_
        exact TE.jn_go V33 [0] ⟨rfl, trivial⟩ rfl
      · refine TW.skip ?_
        exact TE.jn_go X6 [1] ⟨rfl, trivial⟩ rfl
    · refine TE.next ?_
      refine TW.seq ?_
      refine TW.region ?_
      refine TO.y (Y.move rfl) rfl rfl rfl ?_
      refine TO.y (Y.assign rfl) rfl rfl rfl ?_
      refine TO.nil ?_
      refine TE.next ?_
      refine TW.ret ?_
      exact TE.leaf fun _ _ hf_ hs_ => ret_any (rs := [.tmp 4]) (vs := [X30]) (.inl rfl) rfl ⟨rfl, trivial⟩ hf_ hs_ ⟨X30, rfl, hs_.pulls [0] rfl⟩

/-- loop.example/g00950/spec.EngPut -/
noncomputable def spec_EngPut (e : Eng) (l : List Op) : Option (Eng × Bool) :=
  (spec_EngOk e).bind fun R3 =>
  if (!R3) = true then (some ({ Mem := ([] : List Ent), Tables := ([] : List (List Ent)), Seq := (0 : Int), Snaps := ([] : List Int) : Eng }, false))
  else ((spec_l20Copy e).bind fun R10 =>
  (spec_BatchOk l).bind fun R14 =>
  if (!R14) = true then (some (R10, false))
  else (bindC (loopO (fun (S18 : Int × List Ent) => if (decide (S18.1 < ((l.length : Nat) : Int))) = true then (bindC (loopO (fun (S23 : Bool × Int) => if (decide (S23.2 < ((l.length : Nat) : Int))) = true then ((if S23.1 = true then ((idx l S23.2).bind fun E31 =>
  (idx l S18.1).bind fun E33 =>
  some (!(decide (E31.Key = E33.Key))))
  else (some false)).bind (fun (T28 : Bool) =>
  some (.go (T28, IntKind.i64.wrap (S23.2 + (1 : Int))))))
  else (some (.done (.go S23.1))))
  (true, IntKind.i64.wrap (S18.1 + (1 : Int))))
  (fun (T25 : Bool) => bindC (if T25 = true then ((idx l S18.1).bind fun E38 =>
  (spec_l9Put S18.2 ({ Key := E38.Key, Seq := IntKind.i64.wrap (R10.Seq + (1 : Int)), Del := E38.Del, Val := E38.Val : Ent })).bind fun R40 =>
  some (.go R40))
  else (some (.go S18.2)))
  (fun (T35 : List Ent) => some (.go (IntKind.i64.wrap (S18.1 + (1 : Int)), T35)))))
  else (some (.done (.go S18.2))))
  ((0 : Int), R10.Mem))
  (fun (T20 : List Ent) => (spec_EngOk ({ Mem := T20, Tables := R10.Tables, Seq := IntKind.i64.wrap (R10.Seq + (1 : Int)), Snaps := R10.Snaps : Eng })).bind fun R45 =>
  if (!R45) = true then (some (R10, false))
  else (some ({ Mem := T20, Tables := R10.Tables, Seq := IntKind.i64.wrap (R10.Seq + (1 : Int)), Snaps := R10.Snaps : Eng }, true)))))

theorem spec_EngPut_con (e : Eng) (l : List Op) (V_e0 : Value) (V_e1 : Value) (V_e3 : Value) (V_l0 : Value) (r : Eng × Bool) (hm : spec_EngPut e l = some r) :
    Con Try.prog 7 [.agg #[V_e0, V_e1, .int .i64 e.Seq, V_e3], V_l0] [] [(V_e0, lc e.Mem), (V_e1, lc e.Tables), (V_e3, lc e.Snaps), (V_l0, lc l)] (fun X : Value × Value × Value => .tuple #[.agg #[X.1, X.2.1, .int .i64 r.1.Seq, X.2.2], .bool r.2]) (fun X => [.own X.1 (lc r.1.Mem), .own X.2.1 (lc r.1.Tables), .own X.2.2 (lc r.1.Snaps)]) := by
  refine Con.intro (args := [.agg #[V_e0, V_e1, .int .i64 e.Seq, V_e3], V_l0]) (n := 81) (val := fun r (X : Value × Value × Value) => .tuple #[.agg #[X.1, X.2.1, .int .i64 r.1.Seq, X.2.2], .bool r.2]) (post := fun r X => [.own X.1 (lc r.1.Mem), .own X.2.1 (lc r.1.Tables), .own X.2.2 (lc r.1.Snaps)]) (m := spec_EngPut e l) Try.func7 rfl rfl rfl hm ?_
  intro w S hrd
  have HB_V_e0 := hrd _ (.head _)
  have HB_V_e1 := hrd _ (.tail _ (.head _))
  have HB_V_e3 := hrd _ (.tail _ (.tail _ (.head _)))
  have HB_V_l0 := hrd _ (.tail _ (.tail _ (.tail _ (.head _))))
  clear hrd
  unfold spec_EngPut
  refine TW.seq ?_
  refine TW.region ?_
  refine TO.ef (Ef.box rfl (Cel.agg ⟨(One.can (Base.can HB_V_e0)), (One.can (Base.can HB_V_e1)), (One.plain rfl), (One.can (Base.can HB_V_e3)), trivial⟩)) rfl rfl rfl (fun B1 => ?_)
  refine TO.ef (Ef.alloc kz33 rfl) rfl rfl rfl (fun B2 => ?_)
  refine TO.y (Y.assign rfl) rfl rfl rfl ?_
  refine TO.nil ?_
  refine TE.next ?_
  refine TW.seq ?_
  refine TW.seq ?_
  refine TW.region ?_
  refine TO.y (Y.load_box (v := .agg #[V_e0, V_e1, .int .i64 e.Seq, V_e3]) 1 kk33 rfl rfl rfl) rfl rfl rfl ?_
  refine TO.bind fun R3 H4 => ?_
  refine TO.ef (Ef.call (rest := [.box B2 33 [.slice none 0 0, .slice none 0 0, .int .i64 (0 : Int), .slice none 0 0], .box B1 33 [V_e0, V_e1, .int .i64 e.Seq, V_e3]]) [0, 0] (spec_EngOk_con e V_e0 V_e1 V_e3 R3 H4) kc31 rfl rfl ⟨(Base.can HB_V_e0), (Base.can HB_V_e1), (Base.can HB_V_e3), trivial⟩) rfl rfl rfl (fun _ => ?_)
  refine TO.y (Y.not rfl) rfl rfl rfl ?_
  refine TO.nil ?_
  refine TE.next ?_
  refine TW.cond rfl (fun H6 => ?_) (fun H6 => ?_)
  · refine TW.seq ?_
    refine TW.region ?_
    refine TO.y (Y.build (cells := [.slice none 0 0, .slice none 0 0, .int .i64 (0 : Int), .slice none 0 0]) [] kp33 kz33 trivial rfl) rfl rfl rfl ?_
    refine TO.ef0 (Ef.store_box (us := [.slice none 0 0, .slice none 0 0, .int .i64 (0 : Int), .slice none 0 0]) (vs' := [.slice none 0 0, .slice none 0 0, .int .i64 (0 : Int), .slice none 0 0]) (is' := [.box B2 33 [.slice none 0 0, .slice none 0 0, .int .i64 (0 : Int), .slice none 0 0], .box B1 33 [V_e0, V_e1, .int .i64 e.Seq, V_e3]]) 0 kk33 rfl rfl rfl (Cel.plain rfl rfl) rfl rfl rfl rfl) rfl rfl (fun _ => ?_)
    refine TO.y (Y.assign rfl) rfl rfl rfl ?_
    refine TO.nil ?_
    refine TE.next ?_
    refine TW.ret ?_
    refine TE.then_ret ?_
    exact TE.leaf fun _ _ hf_ hs_ => ret_any (rs := [.cell 4 33, .tmp 5]) (vs := [.agg #[.slice none 0 0, .slice none 0 0, .int .i64 (0 : Int), .slice none 0 0], .bool false]) (.inl rfl) rfl (RV.cell 0 rfl rfl kk33 rfl ⟨rfl, trivial⟩) hf_ hs_ ⟨((.slice none 0 0), (.slice none 0 0), (.slice none 0 0)), rfl, (((hs_.nilItem 4).nilItem 1).nilItem 1).pulls [2, 1, 0] rfl⟩
  · refine TW.skip ?_
    refine TE.next ?_
    refine TW.seq ?_
    refine TW.region ?_
    refine TO.y (Y.load_box (v := .agg #[V_e0, V_e1, .int .i64 e.Seq, V_e3]) 1 kk33 rfl rfl rfl) rfl rfl rfl ?_
    refine TO.bind fun R10 H11 => ?_
    refine TO.ef (Ef.call (rest := [.box B2 33 [.slice none 0 0, .slice none 0 0, .int .i64 (0 : Int), .slice none 0 0], .box B1 33 [V_e0, V_e1, .int .i64 e.Seq, V_e3]]) [0, 0] (spec_l20Copy_con e V_e0 V_e1 V_e3 R10 H11) kc32 rfl rfl ⟨(Base.can HB_V_e0), (Base.can HB_V_e1), (Base.can HB_V_e3), trivial⟩) rfl rfl rfl (fun Y12 => ?_)
    refine TO.ef (Ef.alloc kz33 rfl) rfl rfl rfl (fun B13 => ?_)
    refine TO.ef0 (Ef.store_box (us := [Y12.1, Y12.2.1, .int .i64 R10.Seq, Y12.2.2]) (vs' := [Y12.1, Y12.2.1, .int .i64 R10.Seq, Y12.2.2]) (is' := [.box B13 33 [Y12.1, Y12.2.1, .int .i64 R10.Seq, Y12.2.2], .own Y12.1 (lc R10.Mem), .own Y12.2.1 (lc R10.Tables), .own Y12.2.2 (lc R10.Snaps), .box B2 33 [.slice none 0 0, .slice none 0 0, .int .i64 (0 : Int), .slice none 0 0], .box B1 33 [V_e0, V_e1, .int .i64 e.Seq, V_e3]]) 0 kk33 rfl rfl rfl (Cel.agg ⟨(One.can (Can.own 1 rfl)), (One.can (Can.own 2 rfl)), (One.plain rfl), (One.can (Can.own 3 rfl)), trivial⟩) rfl rfl rfl rfl) rfl rfl (fun _ => ?_)
    refine TO.nil ?_
    refine TE.next ?_
    refine TW.seq ?_
    refine TW.seq ?_
    refine TW.region ?_
    refine TO.y (Y.move rfl) rfl rfl rfl ?_
    refine TO.bind fun R14 H15 => ?_
    refine TO.ef (Ef.call (rest := [.box B13 33 [Y12.1, Y12.2.1, .int .i64 R10.Seq, Y12.2.2], .own Y12.1 (lc R10.Mem), .own Y12.2.1 (lc R10.Tables), .own Y12.2.2 (lc R10.Snaps), .box B2 33 [.slice none 0 0, .slice none 0 0, .int .i64 (0 : Int), .slice none 0 0], .box B1 33 [V_e0, V_e1, .int .i64 e.Seq, V_e3]]) [0, 0, 0, 0, 0, 0] (spec_BatchOk_con l V_l0 R14 H15) kc33 rfl rfl ⟨(Base.can HB_V_l0), trivial⟩) rfl rfl rfl (fun _ => ?_)
    refine TO.y (Y.not rfl) rfl rfl rfl ?_
    refine TO.nil ?_
    refine TE.next ?_
    refine TW.cond rfl (fun H17 => ?_) (fun H17 => ?_)
    · refine TW.seq ?_
      refine TW.region ?_
      refine TO.y (Y.load_box (v := .agg #[Y12.1, Y12.2.1, .int .i64 R10.Seq, Y12.2.2]) 0 kk33 rfl rfl rfl) rfl rfl rfl ?_
      refine TO.ef0 (Ef.store_box (us := [Y12.1, Y12.2.1, .int .i64 R10.Seq, Y12.2.2]) (vs' := [Y12.1, Y12.2.1, .int .i64 R10.Seq, Y12.2.2]) (is' := [.box B13 33 [Y12.1, Y12.2.1, .int .i64 R10.Seq, Y12.2.2], .own Y12.1 (lc R10.Mem), .own Y12.2.1 (lc R10.Tables), .own Y12.2.2 (lc R10.Snaps), .box B2 33 [Y12.1, Y12.2.1, .int .i64 R10.Seq, Y12.2.2], .box B1 33 [V_e0, V_e1, .int .i64 e.Seq, V_e3]]) 4 kk33 rfl rfl rfl (Cel.agg ⟨(One.can (Can.own 1 rfl)), (One.can (Can.own 2 rfl)), (One.plain rfl), (One.can (Can.own 3 rfl)), trivial⟩) rfl rfl rfl rfl) rfl rfl (fun _ => ?_)
      refine TO.y (Y.assign rfl) rfl rfl rfl ?_
      refine TO.nil ?_
      refine TE.next ?_
      refine TW.ret ?_
      refine TE.then_ret ?_
      exact TE.leaf fun _ _ hf_ hs_ => ret_any (rs := [.cell 4 33, .tmp 5]) (vs := [.agg #[Y12.1, Y12.2.1, .int .i64 R10.Seq, Y12.2.2], .bool false]) (.inl rfl) rfl (RV.cell 4 rfl rfl kk33 rfl ⟨rfl, trivial⟩) hf_ hs_ ⟨(Y12.1, Y12.2.1, Y12.2.2), rfl, hs_.pulls [1, 1, 1] rfl⟩
    · refine TW.skip ?_
      refine TE.next ?_
      refine TW.seq ?_
      refine TW.region ?_
      refine TO.y (Y.field_box kf33_2 rfl rfl) rfl rfl rfl ?_
      refine TO.y (Y.load_box (v := .int .i64 R10.Seq) 0 kk3 rfl rfl rfl) rfl rfl rfl ?_
      refine TO.y (Y.add rfl rfl) rfl rfl rfl ?_
      refine TO.y (Y.field_box kf33_2 rfl rfl) rfl rfl rfl ?_
      refine TO.ef0 (Ef.store_box (us := [.int .i64 (IntKind.i64.wrap (R10.Seq + (1 : Int)))]) (vs' := [Y12.1, Y12.2.1, .int .i64 (IntKind.i64.wrap (R10.Seq + (1 : Int))), Y12.2.2]) (is' := [.box B13 33 [Y12.1, Y12.2.1, .int .i64 (IntKind.i64.wrap (R10.Seq + (1 : Int))), Y12.2.2], .own Y12.1 (lc R10.Mem), .own Y12.2.1 (lc R10.Tables), .own Y12.2.2 (lc R10.Snaps), .box B2 33 [.slice none 0 0, .slice none 0 0, .int .i64 (0 : Int), .slice none 0 0], .box B1 33 [V_e0, V_e1, .int .i64 e.Seq, V_e3]]) 0 kk3 rfl rfl rfl (Cel.plain rfl rfl) rfl rfl rfl rfl) rfl rfl (fun _ => ?_)
      refine TO.nil ?_
      refine TE.next ?_
      refine TW.seq ?_
      refine TW.seq ?_
      refine TW.region ?_
      refine TO.y (Y.assign rfl) rfl rfl rfl ?_
      refine TO.nil ?_
      refine TE.next ?_
      refine TW.joinX (τ := List Ent) (X := Value) (fun _ _ => [(2, .pointer (some ⟨B1, 0, none⟩)), (4, .pointer (some ⟨B2, 0, none⟩)), (6, .pointer (some ⟨B13, 0, none⟩))]) (fun T X => [.box B1 33 [V_e0, V_e1, .int .i64 e.Seq, V_e3], .box B2 33 [.slice none 0 0, .slice none 0 0, .int .i64 (0 : Int), .slice none 0 0], .box B13 33 [X, Y12.2.1, .int .i64 (IntKind.i64.wrap (R10.Seq + (1 : Int))), Y12.2.2], .own X (lc T), .own Y12.2.1 (lc R10.Tables), .own Y12.2.2 (lc R10.Snaps)]) ?_ (fun T20 X21 => ?_)
      · refine TW.block ?_
        refine TW.loopX (σ := Int × List Ent) (X := Value) (fun T _ => [(1, V_l0), (2, .pointer (some ⟨B1, 0, none⟩)), (4, .pointer (some ⟨B2, 0, none⟩)), (6, .pointer (some ⟨B13, 0, none⟩)), (7, .int .i64 T.1)]) (fun T X => [.box B1 33 [V_e0, V_e1, .int .i64 e.Seq, V_e3], .box B2 33 [.slice none 0 0, .slice none 0 0, .int .i64 (0 : Int), .slice none 0 0], .box B13 33 [X, Y12.2.1, .int .i64 (IntKind.i64.wrap (R10.Seq + (1 : Int))), Y12.2.2], .own X (lc T.2), .own Y12.2.1 (lc R10.Tables), .own Y12.2.2 (lc R10.Snaps)]) Y12.1 [5, 4, 0, 0, 0, 0] ⟨rfl, rfl, rfl, rfl, rfl, trivial⟩ rfl (fun S18 X19 => ?_)
        refine TW.seq ?_
        refine TW.seq ?_
        refine TW.region ?_
        refine TO.y (Y.move rfl) rfl rfl rfl ?_
        refine TO.y (Y.move rfl) rfl rfl rfl ?_
        refine TO.y (Y.len (l := l) ke37 (Base.can HB_V_l0) rfl) rfl rfl rfl ?_
        refine TO.y (Y.lss rfl rfl) rfl rfl rfl ?_
        refine TO.nil ?_
        refine TE.next ?_
        refine TW.cond rfl (fun H22 => ?_) (fun H22 => ?_)
        · refine TW.skip ?_
          refine TE.next ?_
          refine TW.seq ?_
          refine TW.block ?_
          refine TW.seq ?_
          refine TW.region ?_
          refine TO.y (Y.assign rfl) rfl rfl rfl ?_
          refine TO.nil ?_
          refine TE.next ?_
          refine TW.seq ?_
          refine TW.seq ?_
          refine TW.region ?_
          refine TO.y (Y.move rfl) rfl rfl rfl ?_
          refine TO.y (Y.add rfl rfl) rfl rfl rfl ?_
          refine TO.y (Y.assign rfl) rfl rfl rfl ?_
          refine TO.nil ?_
          refine TE.next ?_
          refine TW.joinX (τ := Bool) (X := Unit) (fun T _ => [(1, V_l0), (2, .pointer (some ⟨B1, 0, none⟩)), (4, .pointer (some ⟨B2, 0, none⟩)), (6, .pointer (some ⟨B13, 0, none⟩)), (7, .int .i64 S18.1), (8, .bool T)]) (fun _ _ => [.box B1 33 [V_e0, V_e1, .int .i64 e.Seq, V_e3], .box B2 33 [.slice none 0 0, .slice none 0 0, .int .i64 (0 : Int), .slice none 0 0], .box B13 33 [X19, Y12.2.1, .int .i64 (IntKind.i64.wrap (R10.Seq + (1 : Int))), Y12.2.2], .own X19 (lc S18.2), .own Y12.2.1 (lc R10.Tables), .own Y12.2.2 (lc R10.Snaps)]) ?_ (fun T25 X26 => ?_)
          · refine TW.block ?_
            refine TW.loopX (σ := Bool × Int) (X := Unit) (fun T _ => [(1, V_l0), (2, .pointer (some ⟨B1, 0, none⟩)), (4, .pointer (some ⟨B2, 0, none⟩)), (6, .pointer (some ⟨B13, 0, none⟩)), (7, .int .i64 S18.1), (8, .bool T.1), (9, .int .i64 T.2)]) (fun _ _ => [.box B1 33 [V_e0, V_e1, .int .i64 e.Seq, V_e3], .box B2 33 [.slice none 0 0, .slice none 0 0, .int .i64 (0 : Int), .slice none 0 0], .box B13 33 [X19, Y12.2.1, .int .i64 (IntKind.i64.wrap (R10.Seq + (1 : Int))), Y12.2.2], .own X19 (lc S18.2), .own Y12.2.1 (lc R10.Tables), .own Y12.2.2 (lc R10.Snaps)]) () [0, 0, 0, 0, 0, 0] ⟨rfl, rfl, rfl, rfl, rfl, rfl, rfl, trivial⟩ rfl (fun S23 X24 => ?_)
            refine TW.seq ?_
            refine TW.seq ?_
            refine TW.region ?_
            refine TO.y (Y.move rfl) rfl rfl rfl ?_
            refine TO.y (Y.move rfl) rfl rfl rfl ?_
            refine TO.y (Y.len (l := l) ke37 (Base.can HB_V_l0) rfl) rfl rfl rfl ?_
            refine TO.y (Y.lss rfl rfl) rfl rfl rfl ?_
            refine TO.nil ?_
            refine TE.next ?_
            refine TW.cond rfl (fun H27 => ?_) (fun H27 => ?_)
            · refine TW.skip ?_
              refine TE.next ?_
              refine TW.seq ?_
              refine TW.block ?_
              refine TW.joinBX (τ := Bool) (X := Unit) (fun T _ => [(1, V_l0), (2, .pointer (some ⟨B1, 0, none⟩)), (4, .pointer (some ⟨B2, 0, none⟩)), (6, .pointer (some ⟨B13, 0, none⟩)), (7, .int .i64 S18.1), (8, .bool T), (9, .int .i64 S23.2)]) (fun _ _ => [.box B1 33 [V_e0, V_e1, .int .i64 e.Seq, V_e3], .box B2 33 [.slice none 0 0, .slice none 0 0, .int .i64 (0 : Int), .slice none 0 0], .box B13 33 [X19, Y12.2.1, .int .i64 (IntKind.i64.wrap (R10.Seq + (1 : Int))), Y12.2.2], .own X19 (lc S18.2), .own Y12.2.1 (lc R10.Tables), .own Y12.2.2 (lc R10.Snaps)]) ?_ (fun T28 X29 => ?_)
              · refine TW.draw (isH := [.box B1 33 [V_e0, V_e1, .int .i64 e.Seq, V_e3], .box B2 33 [.slice none 0 0, .slice none 0 0, .int .i64 (0 : Int), .slice none 0 0], .box B13 33 [X19, Y12.2.1, .int .i64 (IntKind.i64.wrap (R10.Seq + (1 : Int))), Y12.2.2], .own X19 (lc S18.2), .own Y12.2.1 (lc R10.Tables), .own Y12.2.2 (lc R10.Snaps)]) hMix ?_
                refine TA.y (listed' := #[true, false, false, false, false, false, false, false, false, false, false, false, false, false, false]) 0 [0, 0, 0, 0, 0, 0] rfl (Y.move rfl) rfl rfl rfl (by kernel_rfl) (by kernel_rfl) (by kernel_rfl) rfl rfl ?_
                refine TA.y (listed' := #[true, true, false, false, false, false, false, false, false, false, false, false, false, false, false]) 1 [0, 0, 0, 0, 0, 0] rfl (Y.move rfl) rfl rfl rfl (by kernel_rfl) (by kernel_rfl) (by kernel_rfl) rfl rfl ?_
                refine TA.ite (b := S23.1) (fun H30 => ?_) (fun H30 => ?_)
                · refine TA.y (listed' := #[true, true, true, false, false, false, false, false, false, false, false, false, false, false, false]) 2 [0, 0, 0, 0, 0, 0] rfl (Y.move rfl) (Gd.at 1 true 39 S23.1 rfl rfl rfl (beq_tt H30)) rfl rfl (by kernel_rfl) (by kernel_rfl) (by kernel_rfl) rfl rfl ?_
                  refine TA.y (listed' := #[true, true, true, true, false, false, false, false, false, false, false, false, false, false, false]) 3 [0, 0, 0, 0, 0, 0] rfl (Y.move rfl) (Gd.at 1 true 39 S23.1 rfl rfl rfl (beq_tt H30)) rfl rfl (by kernel_rfl) (by kernel_rfl) (by kernel_rfl) rfl rfl ?_
                  refine TA.bind fun E31 H32 => ?_
                  refine TA.y (listed' := #[true, true, true, true, true, false, false, false, false, false, false, false, false, false, false]) 4 [0, 0, 0, 0, 0, 0] rfl (Y.index ke37 (Base.can HB_V_l0) H32 rfl rfl) (Gd.at 1 true 39 S23.1 rfl rfl rfl (beq_tt H30)) rfl rfl (by kernel_rfl) (by kernel_rfl) (by kernel_rfl) rfl rfl ?_
                  refine TA.y (listed' := #[true, true, true, true, true, true, false, false, false, false, false, false, false, false, false]) 5 [0, 0, 0, 0, 0, 0] rfl (Y.field_el kf70_0 (Base.can HB_V_l0) (idx_get H32).2.2 rfl rfl) (Gd.at 1 true 39 S23.1 rfl rfl rfl (beq_tt H30)) rfl rfl (by kernel_rfl) (by kernel_rfl) (by kernel_rfl) rfl rfl ?_
                  refine TA.y (listed' := #[true, true, true, true, true, true, true, false, false, false, false, false, false, false, false]) 6 [0, 0, 0, 0, 0, 0] rfl (Y.load_el (us := [strV E31.Key]) (u := strV E31.Key) kk9 rfl (Base.can HB_V_l0) (idx_get H32).2.2 rfl rfl rfl rfl rfl) (Gd.at 1 true 39 S23.1 rfl rfl rfl (beq_tt H30)) rfl rfl (by kernel_rfl) (by kernel_rfl) (by kernel_rfl) rfl rfl ?_
                  refine TA.y (listed' := #[true, true, true, true, true, true, true, true, false, false, false, false, false, false, false]) 7 [0, 0, 0, 0, 0, 0] rfl (Y.move rfl) (Gd.at 1 true 39 S23.1 rfl rfl rfl (beq_tt H30)) rfl rfl (by kernel_rfl) (by kernel_rfl) (by kernel_rfl) rfl rfl ?_
                  refine TA.y (listed' := #[true, true, true, true, true, true, true, true, true, false, false, false, false, false, false]) 8 [0, 0, 0, 0, 0, 0] rfl (Y.move rfl) (Gd.at 1 true 39 S23.1 rfl rfl rfl (beq_tt H30)) rfl rfl (by kernel_rfl) (by kernel_rfl) (by kernel_rfl) rfl rfl ?_
                  refine TA.bind fun E33 H34 => ?_
                  refine TA.y (listed' := #[true, true, true, true, true, true, true, true, true, true, false, false, false, false, false]) 9 [0, 0, 0, 0, 0, 0] rfl (Y.index ke37 (Base.can HB_V_l0) H34 rfl rfl) (Gd.at 1 true 39 S23.1 rfl rfl rfl (beq_tt H30)) rfl rfl (by kernel_rfl) (by kernel_rfl) (by kernel_rfl) rfl rfl ?_
                  refine TA.y (listed' := #[true, true, true, true, true, true, true, true, true, true, true, false, false, false, false]) 10 [0, 0, 0, 0, 0, 0] rfl (Y.field_el kf70_0 (Base.can HB_V_l0) (idx_get H34).2.2 rfl rfl) (Gd.at 1 true 39 S23.1 rfl rfl rfl (beq_tt H30)) rfl rfl (by kernel_rfl) (by kernel_rfl) (by kernel_rfl) rfl rfl ?_
                  refine TA.y (listed' := #[true, true, true, true, true, true, true, true, true, true, true, true, false, false, false]) 11 [0, 0, 0, 0, 0, 0] rfl (Y.load_el (us := [strV E33.Key]) (u := strV E33.Key) kk9 rfl (Base.can HB_V_l0) (idx_get H34).2.2 rfl rfl rfl rfl rfl) (Gd.at 1 true 39 S23.1 rfl rfl rfl (beq_tt H30)) rfl rfl (by kernel_rfl) (by kernel_rfl) (by kernel_rfl) rfl rfl ?_
                  refine TA.y (listed' := #[true, true, true, true, true, true, true, true, true, true, true, true, true, false, false]) 12 [0, 0, 0, 0, 0, 0] rfl (Y.sneq rfl rfl) (Gd.at 1 true 39 S23.1 rfl rfl rfl (beq_tt H30)) rfl rfl (by kernel_rfl) (by kernel_rfl) (by kernel_rfl) rfl rfl ?_
                  refine TA.y (listed' := #[true, true, true, true, true, true, true, true, true, true, true, true, true, true, false]) 13 [0, 0, 0, 0, 0, 0] rfl (Y.pick_t H30 rfl rfl) rfl rfl rfl (by kernel_rfl) (by kernel_rfl) (by kernel_rfl) rfl rfl ?_
                  refine TA.y (listed' := #[true, true, true, true, true, true, true, true, true, true, true, true, true, true, true]) 14 [0, 0, 0, 0, 0, 0] rfl (Y.assign rfl) rfl rfl rfl (by kernel_rfl) (by kernel_rfl) (by kernel_rfl) rfl rfl ?_
                  refine TA.nil (by kernel_rfl) ?_
                  exact TE.jb_go () [0, 0, 0, 0, 0, 0] ⟨rfl, rfl, rfl, rfl, rfl, rfl, rfl, trivial⟩ rfl
                · refine TA.off (listed' := #[true, true, true, false, false, false, false, false, false, false, false, false, false, false, false]) 2 [0, 0, 0, 0, 0, 0] rfl (Gd.at 1 true 39 S23.1 rfl rfl rfl (beq_ft H30)) rfl rfl (by kernel_rfl) (by kernel_rfl) (by kernel_rfl) rfl rfl ?_
                  refine TA.off (listed' := #[true, true, true, true, false, false, false, false, false, false, false, false, false, false, false]) 3 [0, 0, 0, 0, 0, 0] rfl (Gd.at 1 true 39 S23.1 rfl rfl rfl (beq_ft H30)) rfl rfl (by kernel_rfl) (by kernel_rfl) (by kernel_rfl) rfl rfl ?_
                  refine TA.off (listed' := #[true, true, true, true, true, false, false, false, false, false, false, false, false, false, false]) 4 [0, 0, 0, 0, 0, 0] rfl (Gd.at 1 true 39 S23.1 rfl rfl rfl (beq_ft H30)) rfl rfl (by kernel_rfl) (by kernel_rfl) (by kernel_rfl) rfl rfl ?_
                  refine TA.off (listed' := #[true, true, true, true, true, true, false, false, false, false, false, false, false, false, false]) 5 [0, 0, 0, 0, 0, 0] rfl (Gd.at 1 true 39 S23.1 rfl rfl rfl (beq_ft H30)) rfl rfl (by kernel_rfl) (by kernel_rfl) (by kernel_rfl) rfl rfl ?_
                  refine TA.off (listed' := #[true, true, true, true, true, true, true, false, false, false, false, false, false, false, false]) 6 [0, 0, 0, 0, 0, 0] rfl (Gd.at 1 true 39 S23.1 rfl rfl rfl (beq_ft H30)) rfl rfl (by kernel_rfl) (by kernel_rfl) (by kernel_rfl) rfl rfl ?_
                  refine TA.off (listed' := #[true, true, true, true, true, true, true, true, false, false, false, false, false, false, false]) 7 [0, 0, 0, 0, 0, 0] rfl (Gd.at 1 true 39 S23.1 rfl rfl rfl (beq_ft H30)) rfl rfl (by kernel_rfl) (by kernel_rfl) (by kernel_rfl) rfl rfl ?_
                  refine TA.off (listed' := #[true, true, true, true, true, true, true, true, true, false, false, false, false, false, false]) 8 [0, 0, 0, 0, 0, 0] rfl (Gd.at 1 true 39 S23.1 rfl rfl rfl (beq_ft H30)) rfl rfl (by kernel_rfl) (by kernel_rfl) (by kernel_rfl) rfl rfl ?_
                  refine TA.off (listed' := #[true, true, true, true, true, true, true, true, true, true, false, false, false, false, false]) 9 [0, 0, 0, 0, 0, 0] rfl (Gd.at 1 true 39 S23.1 rfl rfl rfl (beq_ft H30)) rfl rfl (by kernel_rfl) (by kernel_rfl) (by kernel_rfl) rfl rfl ?_
                  refine TA.off (listed' := #[true, true, true, true, true, true, true, true, true, true, true, false, false, false, false]) 10 [0, 0, 0, 0, 0, 0] rfl (Gd.at 1 true 39 S23.1 rfl rfl rfl (beq_ft H30)) rfl rfl (by kernel_rfl) (by kernel_rfl) (by kernel_rfl) rfl rfl ?_
                  refine TA.off (listed' := #[true, true, true, true, true, true, true, true, true, true, true, true, false, false, false]) 11 [0, 0, 0, 0, 0, 0] rfl (Gd.at 1 true 39 S23.1 rfl rfl rfl (beq_ft H30)) rfl rfl (by kernel_rfl) (by kernel_rfl) (by kernel_rfl) rfl rfl ?_
                  refine TA.off (listed' := #[true, true, true, true, true, true, true, true, true, true, true, true, true, false, false]) 12 [0, 0, 0, 0, 0, 0] rfl (Gd.at 1 true 39 S23.1 rfl rfl rfl (beq_ft H30)) rfl rfl (by kernel_rfl) (by kernel_rfl) (by kernel_rfl) rfl rfl ?_
                  refine TA.y (listed' := #[true, true, true, true, true, true, true, true, true, true, true, true, true, true, false]) 13 [0, 0, 0, 0, 0, 0] rfl (Y.pick_f H30 rfl rfl) rfl rfl rfl (by kernel_rfl) (by kernel_rfl) (by kernel_rfl) rfl rfl ?_
                  refine TA.y (listed' := #[true, true, true, true, true, true, true, true, true, true, true, true, true, true, true]) 14 [0, 0, 0, 0, 0, 0] rfl (Y.assign rfl) rfl rfl rfl (by kernel_rfl) (by kernel_rfl) (by kernel_rfl) rfl rfl ?_
                  refine TA.nil (by kernel_rfl) ?_
                  exact TE.jb_go () [0, 0, 0, 0, 0, 0] ⟨rfl, rfl, rfl, rfl, rfl, rfl, rfl, trivial⟩ rfl
              · refine TE.block_normal ?_
                refine TE.next ?_
                refine TW.region ?_
                refine TO.y (Y.move rfl) rfl rfl rfl ?_
                refine TO.y (Y.add rfl rfl) rfl rfl rfl ?_
                refine TO.y (Y.assign rfl) rfl rfl rfl ?_
                refine TO.nil ?_
                exact TE.lp_go () [0, 0, 0, 0, 0, 0] ⟨rfl, rfl, rfl, rfl, rfl, rfl, rfl, trivial⟩ rfl
            · refine TW.exit ?_
              refine TE.then_exit ?_
              refine TE.lp_exit ?_
              refine TE.block_exit ?_
              exact TE.jn_go () [0, 0, 0, 0, 0, 0] ⟨rfl, rfl, rfl, rfl, rfl, rfl, trivial⟩ rfl
          · refine TE.next ?_
            refine TW.seq ?_
            refine TW.region ?_
            refine TO.y (Y.move rfl) rfl rfl rfl ?_
            refine TO.nil ?_
            refine TE.next ?_
            refine TW.joinX (τ := List Ent) (X := Value) (fun _ _ => [(1, V_l0), (2, .pointer (some ⟨B1, 0, none⟩)), (4, .pointer (some ⟨B2, 0, none⟩)), (6, .pointer (some ⟨B13, 0, none⟩)), (7, .int .i64 S18.1)]) (fun T X => [.box B1 33 [V_e0, V_e1, .int .i64 e.Seq, V_e3], .box B2 33 [.slice none 0 0, .slice none 0 0, .int .i64 (0 : Int), .slice none 0 0], .box B13 33 [X, Y12.2.1, .int .i64 (IntKind.i64.wrap (R10.Seq + (1 : Int))), Y12.2.2], .own X (lc T), .own Y12.2.1 (lc R10.Tables), .own Y12.2.2 (lc R10.Snaps)]) ?_ (fun T35 X36 => ?_)
            · refine TW.cond rfl (fun H37 => ?_) (fun H37 => ?_)
              · refine TW.bind fun E38 H39 => ?_
                refine TW.bind fun R40 H41 => ?_
                refine TW.joinU (X := Value) (fun _ _ => [(1, V_l0), (2, .pointer (some ⟨B1, 0, none⟩)), (4, .pointer (some ⟨B2, 0, none⟩)), (6, .pointer (some ⟨B13, 0, none⟩)), (7, .int .i64 S18.1)]) (fun _ X => [.box B1 33 [V_e0, V_e1, .int .i64 e.Seq, V_e3], .box B2 33 [.slice none 0 0, .slice none 0 0, .int .i64 (0 : Int), .slice none 0 0], .box B13 33 [X, Y12.2.1, .int .i64 (IntKind.i64.wrap (R10.Seq + (1 : Int))), Y12.2.2], .own X (lc R40), .own Y12.2.1 (lc R10.Tables), .own Y12.2.2 (lc R10.Snaps)]) ?_ (fun _ X44 => ?_)
                · refine TW.draw (isH := [.box B1 33 [V_e0, V_e1, .int .i64 e.Seq, V_e3], .box B2 33 [.slice none 0 0, .slice none 0 0, .int .i64 (0 : Int), .slice none 0 0], .own X19 (lc S18.2), .own Y12.2.1 (lc R10.Tables), .own Y12.2.2 (lc R10.Snaps)]) hMix ?_
                  refine TA.y (listed' := #[true, false, false, false, false, false, false, false, false, false, false, false, false, false, false, false, false, false, false, false, false, false, false]) 0 [0, 0, 1, 1, 1] rfl (Y.field_box kf33_0 rfl rfl) rfl rfl rfl (by kernel_rfl) (by kernel_rfl) (by kernel_rfl) rfl rfl ?_
                  refine TA.y (listed' := #[true, false, true, false, false, false, false, false, false, false, false, false, false, false, false, false, false, false, false, false, false, false, false]) 2 [0, 0, 1, 1, 1] rfl (Y.move rfl) rfl rfl rfl (by kernel_rfl) (by kernel_rfl) (by kernel_rfl) rfl rfl ?_
                  refine TA.y (listed' := #[true, false, true, true, false, false, false, false, false, false, false, false, false, false, false, false, false, false, false, false, false, false, false]) 3 [0, 0, 1, 1, 1] rfl (Y.move rfl) rfl rfl rfl (by kernel_rfl) (by kernel_rfl) (by kernel_rfl) rfl rfl ?_
                  refine TA.y (listed' := #[true, false, true, true, true, false, false, false, false, false, false, false, false, false, false, false, false, false, false, false, false, false, false]) 4 [0, 0, 1, 1, 1] rfl (Y.index ke37 (Base.can HB_V_l0) H39 rfl rfl) rfl rfl rfl (by kernel_rfl) (by kernel_rfl) (by kernel_rfl) rfl rfl ?_
                  refine TA.y (listed' := #[true, false, true, true, true, true, false, false, false, false, false, false, false, false, false, false, false, false, false, false, false, false, false]) 5 [0, 0, 1, 1, 1] rfl (Y.field_el kf70_0 (Base.can HB_V_l0) (idx_get H39).2.2 rfl rfl) rfl rfl rfl (by kernel_rfl) (by kernel_rfl) (by kernel_rfl) rfl rfl ?_
                  refine TA.y (listed' := #[true, false, true, true, true, true, true, false, false, false, false, false, false, false, false, false, false, false, false, false, false, false, false]) 6 [0, 0, 1, 1, 1] rfl (Y.load_el (us := [strV E38.Key]) (u := strV E38.Key) kk9 rfl (Base.can HB_V_l0) (idx_get H39).2.2 rfl rfl rfl rfl rfl) rfl rfl rfl (by kernel_rfl) (by kernel_rfl) (by kernel_rfl) rfl rfl ?_
                  refine TA.y (listed' := #[true, false, true, true, true, true, true, true, false, false, false, false, false, false, false, false, false, false, false, false, false, false, false]) 7 [0, 0, 1, 1, 1] rfl (Y.field_box kf33_2 rfl rfl) rfl rfl rfl (by kernel_rfl) (by kernel_rfl) (by kernel_rfl) rfl rfl ?_
                  refine TA.y (listed' := #[true, false, true, true, true, true, true, true, false, true, false, false, false, false, false, false, false, false, false, false, false, false, false]) 9 [0, 0, 1, 1, 1] rfl (Y.move rfl) rfl rfl rfl (by kernel_rfl) (by kernel_rfl) (by kernel_rfl) rfl rfl ?_
                  refine TA.y (listed' := #[true, false, true, true, true, true, true, true, false, true, true, false, false, false, false, false, false, false, false, false, false, false, false]) 10 [0, 0, 1, 1, 1] rfl (Y.move rfl) rfl rfl rfl (by kernel_rfl) (by kernel_rfl) (by kernel_rfl) rfl rfl ?_
                  refine TA.y (listed' := #[true, false, true, true, true, true, true, true, false, true, true, true, false, false, false, false, false, false, false, false, false, false, false]) 11 [0, 0, 1, 1, 1] rfl (Y.index ke37 (Base.can HB_V_l0) H39 rfl rfl) rfl rfl rfl (by kernel_rfl) (by kernel_rfl) (by kernel_rfl) rfl rfl ?_
                  refine TA.y (listed' := #[true, false, true, true, true, true, true, true, false, true, true, true, true, false, false, false, false, false, false, false, false, false, false]) 12 [0, 0, 1, 1, 1] rfl (Y.field_el kf70_1 (Base.can HB_V_l0) (idx_get H39).2.2 rfl rfl) rfl rfl rfl (by kernel_rfl) (by kernel_rfl) (by kernel_rfl) rfl rfl ?_
                  refine TA.y (listed' := #[true, false, true, true, true, true, true, true, false, true, true, true, true, true, false, false, false, false, false, false, false, false, false]) 13 [0, 0, 1, 1, 1] rfl (Y.load_el (us := [.bool E38.Del]) (u := .bool E38.Del) kk4 rfl (Base.can HB_V_l0) (idx_get H39).2.2 rfl rfl rfl rfl rfl) rfl rfl rfl (by kernel_rfl) (by kernel_rfl) (by kernel_rfl) rfl rfl ?_
                  refine TA.y (listed' := #[true, false, true, true, true, true, true, true, false, true, true, true, true, true, true, false, false, false, false, false, false, false, false]) 14 [0, 0, 1, 1, 1] rfl (Y.move rfl) rfl rfl rfl (by kernel_rfl) (by kernel_rfl) (by kernel_rfl) rfl rfl ?_
                  refine TA.y (listed' := #[true, false, true, true, true, true, true, true, false, true, true, true, true, true, true, true, false, false, false, false, false, false, false]) 15 [0, 0, 1, 1, 1] rfl (Y.move rfl) rfl rfl rfl (by kernel_rfl) (by kernel_rfl) (by kernel_rfl) rfl rfl ?_
                  refine TA.y (listed' := #[true, false, true, true, true, true, true, true, false, true, true, true, true, true, true, true, true, false, false, false, false, false, false]) 16 [0, 0, 1, 1, 1] rfl (Y.index ke37 (Base.can HB_V_l0) H39 rfl rfl) rfl rfl rfl (by kernel_rfl) (by kernel_rfl) (by kernel_rfl) rfl rfl ?_
                  refine TA.y (listed' := #[true, false, true, true, true, true, true, true, false, true, true, true, true, true, true, true, true, true, false, false, false, false, false]) 17 [0, 0, 1, 1, 1] rfl (Y.field_el kf70_2 (Base.can HB_V_l0) (idx_get H39).2.2 rfl rfl) rfl rfl rfl (by kernel_rfl) (by kernel_rfl) (by kernel_rfl) rfl rfl ?_
                  refine TA.y (listed' := #[true, false, true, true, true, true, true, true, false, true, true, true, true, true, true, true, true, true, true, false, false, false, false]) 18 [0, 0, 1, 1, 1] rfl (Y.load_el (us := [strV E38.Val]) (u := strV E38.Val) kk9 rfl (Base.can HB_V_l0) (idx_get H39).2.2 rfl rfl rfl rfl rfl) rfl rfl rfl (by kernel_rfl) (by kernel_rfl) (by kernel_rfl) rfl rfl ?_
                  refine TA.two 1 8 (by kernel_rfl) ?_ ?_
                  · refine TX.y (listed' := #[true, true, true, true, true, true, true, true, false, true, true, true, true, true, true, true, true, true, true, false, false, false, false]) [0, 0, 1, 1, 1] rfl (Y.load_box (v := X19) 2 kk30 rfl rfl rfl) rfl rfl rfl rfl rfl ?_
                    refine TA.one 8 (by kernel_rfl) ?_
                    refine TX.y (listed' := #[true, true, true, true, true, true, true, true, true, true, true, true, true, true, true, true, true, true, true, false, false, false, false]) [0, 0, 1, 1, 1] rfl (Y.load_box (v := .int .i64 (IntKind.i64.wrap (R10.Seq + (1 : Int)))) 2 kk3 rfl rfl rfl) rfl rfl rfl rfl rfl ?_
                    refine TA.y (listed' := #[true, true, true, true, true, true, true, true, true, true, true, true, true, true, true, true, true, true, true, true, false, false, false]) 19 [0, 0, 1, 1, 1] rfl (Y.build (cells := [strV E38.Key, .int .i64 (IntKind.i64.wrap (R10.Seq + (1 : Int))), .bool E38.Del, strV E38.Val]) [(0, [strV E38.Key]), (1, [.int .i64 (IntKind.i64.wrap (R10.Seq + (1 : Int)))]), (2, [.bool E38.Del]), (3, [strV E38.Val])] kp73 kz73 ⟨rfl, ⟨_, rfl, (Cel.plain rfl rfl)⟩, ⟨rfl, ⟨_, rfl, (Cel.plain rfl rfl)⟩, ⟨rfl, ⟨_, rfl, (Cel.plain rfl rfl)⟩, ⟨rfl, ⟨_, rfl, (Cel.plain rfl rfl)⟩, trivial⟩⟩⟩⟩ rfl) rfl rfl rfl (by kernel_rfl) (by kernel_rfl) (by kernel_rfl) rfl rfl ?_
                    refine TA.one 20 (by kernel_rfl) ?_
                    refine TX.ef (listed' := #[true, true, true, true, true, true, true, true, true, true, true, true, true, true, true, true, true, true, true, true, true, false, false]) [1, 1, 2, 2, 2] rfl (Ef.call (rest := [.box B1 33 [V_e0, V_e1, .int .i64 e.Seq, V_e3], .box B2 33 [.slice none 0 0, .slice none 0 0, .int .i64 (0 : Int), .slice none 0 0], .box B13 33 [X19, Y12.2.1, .int .i64 (IntKind.i64.wrap (R10.Seq + (1 : Int))), Y12.2.2], .own X19 (lc S18.2), .own Y12.2.1 (lc R10.Tables), .own Y12.2.2 (lc R10.Snaps)]) [0, 0, 0, 0, 0, 0] (spec_l9Put_con S18.2 ({ Key := E38.Key, Seq := IntKind.i64.wrap (R10.Seq + (1 : Int)), Del := E38.Del, Val := E38.Val : Ent }) X19 R40 H41) kc34 rfl rfl ⟨(Can.own 3 rfl), trivial⟩) rfl rfl rfl rfl (fun _ => rfl) (fun Y45 => ?_)
                    refine TA.y (listed' := #[true, true, true, true, true, true, true, true, true, true, true, true, true, true, true, true, true, true, true, true, true, true, false]) 21 [1, 1, 2, 2, 2] rfl (Y.field_box kf33_0 rfl rfl) rfl rfl rfl (by kernel_rfl) (by kernel_rfl) (by kernel_rfl) rfl rfl ?_
                    refine TA.one 22 (by kernel_rfl) ?_
                    refine TX.ef0 (listed' := #[true, true, true, true, true, true, true, true, true, true, true, true, true, true, true, true, true, true, true, true, true, true, true]) [1, 1, 2, 2, 2] rfl (Ef.store_box (us := [Y45]) (vs' := [Y45, Y12.2.1, .int .i64 (IntKind.i64.wrap (R10.Seq + (1 : Int))), Y12.2.2]) (is' := [.own Y45 (lc R40), .box B1 33 [V_e0, V_e1, .int .i64 e.Seq, V_e3], .box B2 33 [.slice none 0 0, .slice none 0 0, .int .i64 (0 : Int), .slice none 0 0], .box B13 33 [Y45, Y12.2.1, .int .i64 (IntKind.i64.wrap (R10.Seq + (1 : Int))), Y12.2.2], .own X19 (lc S18.2), .own Y12.2.1 (lc R10.Tables), .own Y12.2.2 (lc R10.Snaps)]) 3 kk30 rfl rfl rfl (Cel.one (One.can (Can.own 0 rfl))) rfl rfl rfl rfl) rfl rfl rfl (fun _ => rfl) (fun _ => ?_)
                    refine TA.nil (by kernel_rfl) ?_
                    exact TE.jb_go Y45 [1, 1, 1, 0, 1, 1] ⟨rfl, rfl, rfl, rfl, rfl, trivial⟩ rfl
                  · refine TX.y (listed' := #[true, false, true, true, true, true, true, true, true, true, true, true, true, true, true, true, true, true, true, false, false, false, false]) [0, 0, 1, 1, 1] rfl (Y.load_box (v := .int .i64 (IntKind.i64.wrap (R10.Seq + (1 : Int)))) 2 kk3 rfl rfl rfl) rfl rfl rfl rfl rfl ?_
                    refine TA.y (listed' := #[true, false, true, true, true, true, true, true, true, true, true, true, true, true, true, true, true, true, true, true, false, false, false]) 19 [0, 0, 1, 1, 1] rfl (Y.build (cells := [strV E38.Key, .int .i64 (IntKind.i64.wrap (R10.Seq + (1 : Int))), .bool E38.Del, strV E38.Val]) [(0, [strV E38.Key]), (1, [.int .i64 (IntKind.i64.wrap (R10.Seq + (1 : Int)))]), (2, [.bool E38.Del]), (3, [strV E38.Val])] kp73 kz73 ⟨rfl, ⟨_, rfl, (Cel.plain rfl rfl)⟩, ⟨rfl, ⟨_, rfl, (Cel.plain rfl rfl)⟩, ⟨rfl, ⟨_, rfl, (Cel.plain rfl rfl)⟩, ⟨rfl, ⟨_, rfl, (Cel.plain rfl rfl)⟩, trivial⟩⟩⟩⟩ rfl) rfl rfl rfl (by kernel_rfl) (by kernel_rfl) (by kernel_rfl) rfl rfl ?_
                    refine TA.one 1 (by kernel_rfl) ?_
                    refine TX.y (listed' := #[true, true, true, true, true, true, true, true, true, true, true, true, true, true, true, true, true, true, true, true, false, false, false]) [0, 0, 1, 1, 1] rfl (Y.load_box (v := X19) 2 kk30 rfl rfl rfl) rfl rfl rfl rfl rfl ?_
                    refine TA.one 20 (by kernel_rfl) ?_
                    refine TX.ef (listed' := #[true, true, true, true, true, true, true, true, true, true, true, true, true, true, true, true, true, true, true, true, true, false, false]) [1, 1, 2, 2, 2] rfl (Ef.call (rest := [.box B1 33 [V_e0, V_e1, .int .i64 e.Seq, V_e3], .box B2 33 [.slice none 0 0, .slice none 0 0, .int .i64 (0 : Int), .slice none 0 0], .box B13 33 [X19, Y12.2.1, .int .i64 (IntKind.i64.wrap (R10.Seq + (1 : Int))), Y12.2.2], .own X19 (lc S18.2), .own Y12.2.1 (lc R10.Tables), .own Y12.2.2 (lc R10.Snaps)]) [0, 0, 0, 0, 0, 0] (spec_l9Put_con S18.2 ({ Key := E38.Key, Seq := IntKind.i64.wrap (R10.Seq + (1 : Int)), Del := E38.Del, Val := E38.Val : Ent }) X19 R40 H41) kc34 rfl rfl ⟨(Can.own 3 rfl), trivial⟩) rfl rfl rfl rfl (fun _ => rfl) (fun Y45 => ?_)
                    refine TA.y (listed' := #[true, true, true, true, true, true, true, true, true, true, true, true, true, true, true, true, true, true, true, true, true, true, false]) 21 [1, 1, 2, 2, 2] rfl (Y.field_box kf33_0 rfl rfl) rfl rfl rfl (by kernel_rfl) (by kernel_rfl) (by kernel_rfl) rfl rfl ?_
                    refine TA.one 22 (by kernel_rfl) ?_
                    refine TX.ef0 (listed' := #[true, true, true, true, true, true, true, true, true, true, true, true, true, true, true, true, true, true, true, true, true, true, true]) [1, 1, 2, 2, 2] rfl (Ef.store_box (us := [Y45]) (vs' := [Y45, Y12.2.1, .int .i64 (IntKind.i64.wrap (R10.Seq + (1 : Int))), Y12.2.2]) (is' := [.own Y45 (lc R40), .box B1 33 [V_e0, V_e1, .int .i64 e.Seq, V_e3], .box B2 33 [.slice none 0 0, .slice none 0 0, .int .i64 (0 : Int), .slice none 0 0], .box B13 33 [Y45, Y12.2.1, .int .i64 (IntKind.i64.wrap (R10.Seq + (1 : Int))), Y12.2.2], .own X19 (lc S18.2), .own Y12.2.1 (lc R10.Tables), .own Y12.2.2 (lc R10.Snaps)]) 3 kk30 rfl rfl rfl (Cel.one (One.can (Can.own 0 rfl))) rfl rfl rfl rfl) rfl rfl rfl (fun _ => rfl) (fun _ => ?_)
                    refine TA.nil (by kernel_rfl) ?_
                    exact TE.jb_go Y45 [1, 1, 1, 0, 1, 1] ⟨rfl, rfl, rfl, rfl, rfl, trivial⟩ rfl
                · exact TE.jn_go X44 [0, 0, 0, 0, 0, 0] ⟨rfl, rfl, rfl, rfl, rfl, trivial⟩ rfl
              · refine TW.skip ?_
                exact TE.jn_go X19 [0, 0, 0, 0, 0, 0] ⟨rfl, rfl, rfl, rfl, rfl, trivial⟩ rfl
            · refine TE.block_normal ?_
              refine TE.next ?_
              refine TW.region ?_
              refine TO.y (Y.move rfl) rfl rfl rfl ?_
              refine TO.y (Y.add rfl rfl) rfl rfl rfl ?_
              refine TO.y (Y.assign rfl) rfl rfl rfl ?_
              refine TO.nil ?_
              exact TE.lp_go X36 [0, 0, 0, 0, 0, 0] ⟨rfl, rfl, rfl, rfl, rfl, trivial⟩ rfl
        · refine TW.exit ?_
          refine TE.then_exit ?_
          refine TE.lp_exit ?_
          refine TE.block_exit ?_
          exact TE.jn_go X19 [0, 0, 0, 0, 0, 0] ⟨rfl, rfl, rfl, trivial⟩ rfl
      · refine TE.next ?_
        refine TW.seq ?_
        refine TW.seq ?_
        refine TW.region ?_
        refine TO.y (Y.load_box (v := .agg #[X21, Y12.2.1, .int .i64 (IntKind.i64.wrap (R10.Seq + (1 : Int))), Y12.2.2]) 2 kk33 rfl rfl rfl) rfl rfl rfl ?_
        refine TO.bind fun R45 H46 => ?_
        refine TO.ef (Ef.call (rest := [.box B1 33 [V_e0, V_e1, .int .i64 e.Seq, V_e3], .box B2 33 [.slice none 0 0, .slice none 0 0, .int .i64 (0 : Int), .slice none 0 0], .box B13 33 [X21, Y12.2.1, .int .i64 (IntKind.i64.wrap (R10.Seq + (1 : Int))), Y12.2.2], .own X21 (lc T20), .own Y12.2.1 (lc R10.Tables), .own Y12.2.2 (lc R10.Snaps)]) [0, 0, 0, 0, 0, 0] (spec_EngOk_con ({ Mem := T20, Tables := R10.Tables, Seq := IntKind.i64.wrap (R10.Seq + (1 : Int)), Snaps := R10.Snaps : Eng }) X21 Y12.2.1 Y12.2.2 R45 H46) kc31 rfl rfl ⟨(Can.own 3 rfl), (Can.own 4 rfl), (Can.own 5 rfl), trivial⟩) rfl rfl rfl (fun _ => ?_)
        refine TO.y (Y.not rfl) rfl rfl rfl ?_
        refine TO.nil ?_
        refine TE.next ?_
        refine TW.cond rfl (fun H48 => ?_) (fun H48 => ?_)
        · refine TW.seq ?_
          refine TW.region ?_
          refine TO.y (Y.load_box (v := .agg #[V_e0, V_e1, .int .i64 e.Seq, V_e3]) 0 kk33 rfl rfl rfl) rfl rfl rfl ?_
          refine TO.ef (Ef.call (rest := [.box B1 33 [V_e0, V_e1, .int .i64 e.Seq, V_e3], .box B2 33 [.slice none 0 0, .slice none 0 0, .int .i64 (0 : Int), .slice none 0 0], .box B13 33 [X21, Y12.2.1, .int .i64 (IntKind.i64.wrap (R10.Seq + (1 : Int))), Y12.2.2], .own X21 (lc T20), .own Y12.2.1 (lc R10.Tables), .own Y12.2.2 (lc R10.Snaps)]) [0, 0, 0, 0, 0, 0] (spec_l20Copy_con e V_e0 V_e1 V_e3 R10 H11) kc32 rfl rfl ⟨(Base.can HB_V_e0), (Base.can HB_V_e1), (Base.can HB_V_e3), trivial⟩) rfl rfl rfl (fun Y49 => ?_)
          refine TO.ef0 (Ef.store_box (us := [Y49.1, Y49.2.1, .int .i64 R10.Seq, Y49.2.2]) (vs' := [Y49.1, Y49.2.1, .int .i64 R10.Seq, Y49.2.2]) (is' := [.own Y49.1 (lc R10.Mem), .own Y49.2.1 (lc R10.Tables), .own Y49.2.2 (lc R10.Snaps), .box B1 33 [V_e0, V_e1, .int .i64 e.Seq, V_e3], .box B2 33 [Y49.1, Y49.2.1, .int .i64 R10.Seq, Y49.2.2], .box B13 33 [X21, Y12.2.1, .int .i64 (IntKind.i64.wrap (R10.Seq + (1 : Int))), Y12.2.2], .own X21 (lc T20), .own Y12.2.1 (lc R10.Tables), .own Y12.2.2 (lc R10.Snaps)]) 4 kk33 rfl rfl rfl (Cel.agg ⟨(One.can (Can.own 0 rfl)), (One.can (Can.own 1 rfl)), (One.plain rfl), (One.can (Can.own 2 rfl)), trivial⟩) rfl rfl rfl rfl) rfl rfl (fun _ => ?_)
          refine TO.y (Y.assign rfl) rfl rfl rfl ?_
          refine TO.nil ?_
          refine TE.next ?_
          refine TW.ret ?_
          refine TE.then_ret ?_
          exact TE.leaf fun _ _ hf_ hs_ => ret_any (rs := [.cell 4 33, .tmp 5]) (vs := [.agg #[Y49.1, Y49.2.1, .int .i64 R10.Seq, Y49.2.2], .bool false]) (.inl rfl) rfl (RV.cell 4 rfl rfl kk33 rfl ⟨rfl, trivial⟩) hf_ hs_ ⟨(Y49.1, Y49.2.1, Y49.2.2), rfl, hs_.pulls [0, 0, 0] rfl⟩
        · refine TW.skip ?_
          refine TE.next ?_
          refine TW.seq ?_
          refine TW.region ?_
          refine TO.y (Y.load_box (v := .agg #[X21, Y12.2.1, .int .i64 (IntKind.i64.wrap (R10.Seq + (1 : Int))), Y12.2.2]) 2 kk33 rfl rfl rfl) rfl rfl rfl ?_
          refine TO.ef0 (Ef.store_box (us := [X21, Y12.2.1, .int .i64 (IntKind.i64.wrap (R10.Seq + (1 : Int))), Y12.2.2]) (vs' := [X21, Y12.2.1, .int .i64 (IntKind.i64.wrap (R10.Seq + (1 : Int))), Y12.2.2]) (is' := [.box B1 33 [V_e0, V_e1, .int .i64 e.Seq, V_e3], .box B2 33 [X21, Y12.2.1, .int .i64 (IntKind.i64.wrap (R10.Seq + (1 : Int))), Y12.2.2], .box B13 33 [X21, Y12.2.1, .int .i64 (IntKind.i64.wrap (R10.Seq + (1 : Int))), Y12.2.2], .own X21 (lc T20), .own Y12.2.1 (lc R10.Tables), .own Y12.2.2 (lc R10.Snaps)]) 1 kk33 rfl rfl rfl (Cel.agg ⟨(One.can (Can.own 3 rfl)), (One.can (Can.own 4 rfl)), (One.plain rfl), (One.can (Can.own 5 rfl)), trivial⟩) rfl rfl rfl rfl) rfl rfl (fun _ => ?_)
          refine TO.y (Y.assign rfl) rfl rfl rfl ?_
          refine TO.nil ?_
          refine TE.next ?_
          refine TW.ret ?_
          exact TE.leaf fun _ _ hf_ hs_ => ret_any (rs := [.cell 4 33, .tmp 5]) (vs := [.agg #[X21, Y12.2.1, .int .i64 (IntKind.i64.wrap (R10.Seq + (1 : Int))), Y12.2.2], .bool true]) (.inl rfl) rfl (RV.cell 1 rfl rfl kk33 rfl ⟨rfl, trivial⟩) hf_ hs_ ⟨(X21, Y12.2.1, Y12.2.2), rfl, hs_.pulls [3, 3, 3] rfl⟩

/-- loop.example/g00950/impl.inRange -/
noncomputable def impl_inRange (n : Int) (least : Int) (most : Int) : Option Bool :=
  (if (decide (n ≥ least)) = true then (some (decide (n ≤ most)))
  else (some false)).bind (fun (T1 : Bool) =>
  some T1)

theorem impl_inRange_con (n : Int) (least : Int) (most : Int)  (r : Bool) (hm : impl_inRange n least most = some r) :
    Con Try.prog 74 [.int .i64 n, .int .i64 least, .int .i64 most] [] [] (fun _ : Unit => .bool r) (fun _ => []) := by
  refine Con.intro (args := [.int .i64 n, .int .i64 least, .int .i64 most]) (n := 15) (val := fun r (_ : Unit) => .bool r) (post := fun _ _ => []) (m := impl_inRange n least most) Try.func74 rfl rfl rfl hm ?_
  intro w S _
  unfold impl_inRange
  refine TW.seq ?_
  refine TW.region ?_
  refine TO.y (Y.assign rfl) rfl rfl rfl ?_
  refine TO.nil ?_
  refine TE.next ?_
  refine TW.seq ?_
  refine TW.joinBX (τ := Bool) (X := Unit) (fun T _ => [(6, .bool T)]) (fun _ _ => []) ?_ (fun T1 X2 => ?_)
  · refine TW.region ?_
    refine TO.y (Y.move rfl) rfl rfl rfl ?_
    refine TO.y (Y.move rfl) rfl rfl rfl ?_
    refine TO.y (Y.geq rfl rfl) rfl rfl rfl ?_
    refine TO.y (Y.move rfl) rfl rfl rfl ?_
    refine TO.ite (b := decide (n ≥ least)) (fun H3 => ?_) (fun H3 => ?_)
    · refine TO.y (Y.move rfl) (Gd.at 3 true 10 (decide (n ≥ least)) rfl rfl rfl (beq_tt H3)) rfl rfl ?_
      refine TO.y (Y.move rfl) (Gd.at 3 true 10 (decide (n ≥ least)) rfl rfl rfl (beq_tt H3)) rfl rfl ?_
      refine TO.y (Y.leq rfl rfl) (Gd.at 3 true 10 (decide (n ≥ least)) rfl rfl rfl (beq_tt H3)) rfl rfl ?_
      refine TO.y (Y.pick_t H3 rfl rfl) rfl rfl rfl ?_
      refine TO.y (Y.assign rfl) rfl rfl rfl ?_
      refine TO.nil ?_
      exact TE.jb_go () [] ⟨rfl, trivial⟩ rfl
    · refine TO.off (Gd.at 3 true 10 (decide (n ≥ least)) rfl rfl rfl (beq_ft H3)) rfl rfl ?_
      refine TO.off (Gd.at 3 true 10 (decide (n ≥ least)) rfl rfl rfl (beq_ft H3)) rfl rfl ?_
      refine TO.off (Gd.at 3 true 10 (decide (n ≥ least)) rfl rfl rfl (beq_ft H3)) rfl rfl ?_
      refine TO.y (Y.pick_f H3 rfl rfl) rfl rfl rfl ?_
      refine TO.y (Y.assign rfl) rfl rfl rfl ?_
      refine TO.nil ?_
      exact TE.jb_go () [] ⟨rfl, trivial⟩ rfl
  · refine TE.next ?_
    refine TW.ret ?_
    exact TE.leaf fun _ _ hf_ hs_ => ret_any (rs := [.tmp 6]) (vs := [.bool T1]) (.inl rfl) rfl ⟨rfl, trivial⟩ hf_ hs_ ⟨(), rfl, hs_.pulls [] rfl⟩

/-- loop.example/g00950/impl.isNumber -/
noncomputable def impl_isNumber (n : Int) : Option Bool :=
  (impl_inRange n (0 : Int) (1000000 : Int)).bind fun R1 =>
  some R1

theorem impl_isNumber_con (n : Int)  (r : Bool) (hm : impl_isNumber n = some r) :
    Con Try.prog 72 [.int .i64 n] [] [] (fun _ : Unit => .bool r) (fun _ => []) := by
  refine Con.intro (args := [.int .i64 n]) (n := 5) (val := fun r (_ : Unit) => .bool r) (post := fun _ _ => []) (m := impl_isNumber n) Try.func72 rfl rfl rfl hm ?_
  intro w S _
  unfold impl_isNumber
  refine TW.seq ?_
  refine TW.region ?_
  refine TO.y (Y.assign rfl) rfl rfl rfl ?_
  refine TO.nil ?_
  refine TE.next ?_
  refine TW.seq ?_
  refine TW.region ?_
  refine TO.y (Y.move rfl) rfl rfl rfl ?_
  refine TO.bind fun R1 H2 => ?_
  refine TO.ef (Ef.call (rest := []) [] (impl_inRange_con n (0 : Int) (1000000 : Int)  R1 H2) kc74 rfl rfl trivial) rfl rfl rfl (fun _ => ?_)
  refine TO.y (Y.assign rfl) rfl rfl rfl ?_
  refine TO.nil ?_
  refine TE.next ?_
  refine TW.ret ?_
  exact TE.leaf fun _ _ hf_ hs_ => ret_any (rs := [.tmp 2]) (vs := [.bool R1]) (.inl rfl) rfl ⟨rfl, trivial⟩ hf_ hs_ ⟨(), rfl, hs_.pulls [] rfl⟩

/-- loop.example/g00950/impl.totalOf -/
noncomputable def impl_totalOf (l : List (List Ent)) : Option Int :=
  bindC (loopO (fun (S1 : Int × Int) => if (decide (S1.2 < ((l.length : Nat) : Int))) = true then ((idx l S1.2).bind fun E6 =>
  some (.go (IntKind.i64.wrap (S1.1 + ((E6.length : Nat) : Int)), IntKind.i64.wrap (S1.2 + (1 : Int)))))
  else (some (.done (.go S1.1))))
  ((0 : Int), (0 : Int)))
  (fun (T3 : Int) => some T3)

theorem impl_totalOf_con (l : List (List Ent)) (V_l0 : Value) (r : Int) (hm : impl_totalOf l = some r) :
    Con Try.prog 82 [V_l0] [] [(V_l0, lc l)] (fun _ : Unit => .int .i64 r) (fun _ => []) := by
  refine Con.intro (args := [V_l0]) (n := 18) (val := fun r (_ : Unit) => .int .i64 r) (post := fun _ _ => []) (m := impl_totalOf l) Try.func82 rfl rfl rfl hm ?_
  intro w S hrd
  have HB_V_l0 := hrd _ (.head _)
  clear hrd
  unfold impl_totalOf
  refine TW.seq ?_
  refine TW.region ?_
  refine TO.y (Y.assign rfl) rfl rfl rfl ?_
  refine TO.nil ?_
  refine TE.next ?_
  refine TW.seq ?_
  refine TW.region ?_
  refine TO.y (Y.assign rfl) rfl rfl rfl ?_
  refine TO.nil ?_
  refine TE.next ?_
  refine TW.seq ?_
  refine TW.seq ?_
  refine TW.region ?_
  refine TO.y (Y.move rfl) rfl rfl rfl ?_
  refine TO.y (Y.len (l := l) ke31 (Base.can HB_V_l0) rfl) rfl rfl rfl ?_
  refine TO.y (Y.move rfl) rfl rfl rfl ?_
  refine TO.nil ?_
  refine TE.next ?_
  refine TW.joinX (τ := Int) (X := Unit) (fun T _ => [(3, .int .i64 T)]) (fun _ _ => []) ?_ (fun T3 X4 => ?_)
  · refine TW.block ?_
    refine TW.loopX (σ := Int × Int) (X := Unit) (fun T _ => [(3, .int .i64 T.1), (6, V_l0), (7, .int .i64 ((l.length : Nat) : Int)), (8, .int .i64 T.2)]) (fun _ _ => []) () [] ⟨rfl, rfl, rfl, rfl, trivial⟩ rfl (fun S1 X2 => ?_)
    refine TW.seq ?_
    refine TW.region ?_
    refine TO.y (Y.lss rfl rfl) rfl rfl rfl ?_
    refine TO.nil ?_
    refine TE.next ?_
    refine TW.seq ?_
    refine TW.cond rfl (fun H5 => ?_) (fun H5 => ?_)
    · refine TW.skip ?_
      refine TE.next ?_
      refine TW.seq ?_
      refine TW.block ?_
      refine TW.seq ?_
      refine TW.region ?_
      refine TO.bind fun E6 H7 => ?_
      refine TO.y (Y.index ke31 (Base.can HB_V_l0) H7 rfl rfl) rfl rfl rfl ?_
      have Q8 : Base w S (elv w V_l0 (S1.2.toNat * 1 + 0)) (lc E6) := Base.el HB_V_l0 (idx_get H7).2.2 rfl rfl
      refine TO.y (Y.load_base (α := List Ent) (u := (elv w V_l0 (S1.2.toNat * 1 + 0))) kk30 rfl HB_V_l0 (idx_get H7).2.2 rfl rfl rfl rfl rfl) rfl rfl rfl ?_
      refine TO.y (Y.assign rfl) rfl rfl rfl ?_
      refine TO.nil ?_
      refine TE.next ?_
      refine TW.region ?_
      refine TO.y (Y.move rfl) rfl rfl rfl ?_
      refine TO.y (Y.move rfl) rfl rfl rfl ?_
      refine TO.y (Y.len (l := E6) ke30 (Base.can Q8) rfl) rfl rfl rfl ?_
      refine TO.y (Y.add rfl rfl) rfl rfl rfl ?_
      refine TO.y (Y.assign rfl) rfl rfl rfl ?_
      refine TO.nil ?_
      refine TE.block_normal ?_
      refine TE.next ?_
      refine TW.region ?_
      refine TO.y (Y.add rfl rfl) rfl rfl rfl ?_
      refine TO.y (Y.move rfl) rfl rfl rfl ?_
      refine TO.nil ?_
      exact TE.lp_go () [] ⟨rfl, rfl, rfl, rfl, trivial⟩ rfl
    · refine TW.exit ?_
      refine TE.then_exit ?_
      refine TE.lp_exit ?_
      refine TE.block_exit ?_
      exact TE.jn_go () [] ⟨rfl, trivial⟩ rfl
  · refine TE.next ?_
    refine TW.seq ?_
    refine TW.region ?_
    refine TO.y (Y.move rfl) rfl rfl rfl ?_
    refine TO.y (Y.assign rfl) rfl rfl rfl ?_
    refine TO.nil ?_
    refine TE.next ?_
    refine TW.ret ?_
    exact TE.leaf fun _ _ hf_ hs_ => ret_any (rs := [.tmp 2]) (vs := [.int .i64 T3]) (.inl rfl) rfl ⟨rfl, trivial⟩ hf_ hs_ ⟨(), rfl, hs_.pulls [] rfl⟩

/-- loop.example/g00950/impl.isKey -/
noncomputable def impl_isKey (s : List UInt8) : Option Bool :=
  (impl_inRange ((s.length : Nat) : Int) (1 : Int) (10 : Int)).bind fun R1 =>
  some R1

theorem impl_isKey_con (s : List UInt8)  (r : Bool) (hm : impl_isKey s = some r) :
    Con Try.prog 77 [strV s] [] [] (fun _ : Unit => .bool r) (fun _ => []) := by
  refine Con.intro (args := [strV s]) (n := 6) (val := fun r (_ : Unit) => .bool r) (post := fun _ _ => []) (m := impl_isKey s) Try.func77 rfl rfl rfl hm ?_
  intro w S _
  unfold impl_isKey
  refine TW.seq ?_
  refine TW.region ?_
  refine TO.y (Y.assign rfl) rfl rfl rfl ?_
  refine TO.nil ?_
  refine TE.next ?_
  refine TW.seq ?_
  refine TW.region ?_
  refine TO.y (Y.move rfl) rfl rfl rfl ?_
  refine TO.y (Y.slen ks9 rfl) rfl rfl rfl ?_
  refine TO.bind fun R1 H2 => ?_
  refine TO.ef (Ef.call (rest := []) [] (impl_inRange_con ((s.length : Nat) : Int) (1 : Int) (10 : Int)  R1 H2) kc74 rfl rfl trivial) rfl rfl rfl (fun _ => ?_)
  refine TO.y (Y.assign rfl) rfl rfl rfl ?_
  refine TO.nil ?_
  refine TE.next ?_
  refine TW.ret ?_
  exact TE.leaf fun _ _ hf_ hs_ => ret_any (rs := [.tmp 2]) (vs := [.bool R1]) (.inl rfl) rfl ⟨rfl, trivial⟩ hf_ hs_ ⟨(), rfl, hs_.pulls [] rfl⟩

/-- loop.example/g00950/impl.isVal -/
noncomputable def impl_isVal (del : Bool) (val : List UInt8) : Option Bool :=
  (if (decide (((val.length : Nat) : Int) ≤ (16 : Int))) = true then (if del = true then (some (!(!(decide (val = ([]))))))
  else (some (!false)))
  else (some false)).bind (fun (T1 : Bool) =>
  some T1)

theorem impl_isVal_con (del : Bool) (val : List UInt8)  (r : Bool) (hm : impl_isVal del val = some r) :
    Con Try.prog 78 [.bool del, strV val] [] [] (fun _ : Unit => .bool r) (fun _ => []) := by
  refine Con.intro (args := [.bool del, strV val]) (n := 16) (val := fun r (_ : Unit) => .bool r) (post := fun _ _ => []) (m := impl_isVal del val) Try.func78 rfl rfl rfl hm ?_
  intro w S _
  unfold impl_isVal
  refine TW.seq ?_
  refine TW.region ?_
  refine TO.y (Y.assign rfl) rfl rfl rfl ?_
  refine TO.nil ?_
  refine TE.next ?_
  refine TW.seq ?_
  refine TW.joinBX (τ := Bool) (X := Unit) (fun T _ => [(4, .bool T)]) (fun _ _ => []) ?_ (fun T1 X2 => ?_)
  · refine TW.region ?_
    refine TO.y (Y.move rfl) rfl rfl rfl ?_
    refine TO.y (Y.slen ks9 rfl) rfl rfl rfl ?_
    refine TO.y (Y.leq rfl rfl) rfl rfl rfl ?_
    refine TO.y (Y.move rfl) rfl rfl rfl ?_
    refine TO.ite (b := decide (((val.length : Nat) : Int) ≤ (16 : Int))) (fun H3 => ?_) (fun H3 => ?_)
    · refine TO.y (Y.move rfl) (Gd.at 3 true 8 (decide (((val.length : Nat) : Int) ≤ (16 : Int))) rfl rfl rfl (beq_tt H3)) rfl rfl ?_
      refine TO.y (Y.move rfl) (Gd.at 3 true 8 (decide (((val.length : Nat) : Int) ≤ (16 : Int))) rfl rfl rfl (beq_tt H3)) rfl rfl ?_
      refine TO.ite (b := del) (fun H4 => ?_) (fun H4 => ?_)
      · refine TO.y (Y.move rfl) (Gd.at 5 true 10 del rfl rfl rfl (beq_tt H4)) rfl rfl ?_
        refine TO.y (Y.sneq rfl rfl) (Gd.at 5 true 10 del rfl rfl rfl (beq_tt H4)) rfl rfl ?_
        refine TO.y (Y.pick_t H4 rfl rfl) (Gd.at 3 true 8 (decide (((val.length : Nat) : Int) ≤ (16 : Int))) rfl rfl rfl (beq_tt H3)) rfl rfl ?_
        refine TO.y (Y.not rfl) (Gd.at 3 true 8 (decide (((val.length : Nat) : Int) ≤ (16 : Int))) rfl rfl rfl (beq_tt H3)) rfl rfl ?_
        refine TO.y (Y.pick_t H3 rfl rfl) rfl rfl rfl ?_
        refine TO.y (Y.assign rfl) rfl rfl rfl ?_
        refine TO.nil ?_
        exact TE.jb_go () [] ⟨rfl, trivial⟩ rfl
      · refine TO.off (Gd.at 5 true 10 del rfl rfl rfl (beq_ft H4)) rfl rfl ?_
        refine TO.off (Gd.at 5 true 10 del rfl rfl rfl (beq_ft H4)) rfl rfl ?_
        refine TO.y (Y.pick_f H4 rfl rfl) (Gd.at 3 true 8 (decide (((val.length : Nat) : Int) ≤ (16 : Int))) rfl rfl rfl (beq_tt H3)) rfl rfl ?_
        refine TO.y (Y.not rfl) (Gd.at 3 true 8 (decide (((val.length : Nat) : Int) ≤ (16 : Int))) rfl rfl rfl (beq_tt H3)) rfl rfl ?_
        refine TO.y (Y.pick_t H3 rfl rfl) rfl rfl rfl ?_
        refine TO.y (Y.assign rfl) rfl rfl rfl ?_
        refine TO.nil ?_
        exact TE.jb_go () [] ⟨rfl, trivial⟩ rfl
    · refine TO.off (Gd.at 3 true 8 (decide (((val.length : Nat) : Int) ≤ (16 : Int))) rfl rfl rfl (beq_ft H3)) rfl rfl ?_
      refine TO.off (Gd.at 3 true 8 (decide (((val.length : Nat) : Int) ≤ (16 : Int))) rfl rfl rfl (beq_ft H3)) rfl rfl ?_
      refine TO.off (Gd.un 5 true 10 rfl rfl rfl) rfl rfl ?_
      refine TO.off (Gd.un 5 true 10 rfl rfl rfl) rfl rfl ?_
      refine TO.off (Gd.at 3 true 8 (decide (((val.length : Nat) : Int) ≤ (16 : Int))) rfl rfl rfl (beq_ft H3)) rfl rfl ?_
      refine TO.off (Gd.at 3 true 8 (decide (((val.length : Nat) : Int) ≤ (16 : Int))) rfl rfl rfl (beq_ft H3)) rfl rfl ?_
      refine TO.y (Y.pick_f H3 rfl rfl) rfl rfl rfl ?_
      refine TO.y (Y.assign rfl) rfl rfl rfl ?_
      refine TO.nil ?_
      exact TE.jb_go () [] ⟨rfl, trivial⟩ rfl
  · refine TE.next ?_
    refine TW.ret ?_
    exact TE.leaf fun _ _ hf_ hs_ => ret_any (rs := [.tmp 4]) (vs := [.bool T1]) (.inl rfl) rfl ⟨rfl, trivial⟩ hf_ hs_ ⟨(), rfl, hs_.pulls [] rfl⟩

/-- loop.example/g00950/impl.entOk -/
noncomputable def impl_entOk (e : Ent) : Option Bool :=
  ((impl_isKey e.Key).bind fun R4 =>
  if R4 = true then ((impl_isNumber e.Seq).bind fun R8 =>
  if R8 = true then ((impl_isVal e.Del e.Val).bind fun R12 =>
  some R12)
  else (some false))
  else (some false)).bind (fun (T2 : Bool) =>
  some T2)

theorem impl_entOk_con (e : Ent)  (r : Bool) (hm : impl_entOk e = some r) :
    Con Try.prog 105 [.agg #[strV e.Key, .int .i64 e.Seq, .bool e.Del, strV e.Val]] [] [] (fun _ : Unit => .bool r) (fun _ => []) := by
  refine Con.intro (args := [.agg #[strV e.Key, .int .i64 e.Seq, .bool e.Del, strV e.Val]]) (n := 18) (val := fun r (_ : Unit) => .bool r) (post := fun _ _ => []) (m := impl_entOk e) Try.func105 rfl rfl rfl hm ?_
  intro w S _
  unfold impl_entOk
  refine TW.seq ?_
  refine TW.region ?_
  refine TO.ef (Ef.box rfl (Cel.plain rfl rfl)) rfl rfl rfl (fun B1 => ?_)
  refine TO.y (Y.assign rfl) rfl rfl rfl ?_
  refine TO.nil ?_
  refine TE.next ?_
  refine TW.seq ?_
  refine TW.joinBX (τ := Bool) (X := Unit) (fun T _ => [(2, .bool T)]) (fun _ _ => []) ?_ (fun T2 X3 => ?_)
  · refine TW.region ?_
    refine TO.y (Y.field_box kf73_0 rfl rfl) rfl rfl rfl ?_
    refine TO.y (Y.load_box (v := strV e.Key) 0 kk9 rfl rfl rfl) rfl rfl rfl ?_
    refine TO.bind fun R4 H5 => ?_
    refine TO.ef (Ef.call (rest := [.box B1 73 [strV e.Key, .int .i64 e.Seq, .bool e.Del, strV e.Val]]) [0] (impl_isKey_con e.Key  R4 H5) kc77 rfl rfl trivial) rfl rfl rfl (fun _ => ?_)
    refine TO.y (Y.move rfl) rfl rfl rfl ?_
    refine TO.ite (b := R4) (fun H7 => ?_) (fun H7 => ?_)
    · refine TO.y (Y.field_box kf73_1 rfl rfl) (Gd.at 3 true 6 R4 rfl rfl rfl (beq_tt H7)) rfl rfl ?_
      refine TO.y (Y.load_box (v := .int .i64 e.Seq) 0 kk3 rfl rfl rfl) (Gd.at 3 true 6 R4 rfl rfl rfl (beq_tt H7)) rfl rfl ?_
      refine TO.bind fun R8 H9 => ?_
      refine TO.ef (Ef.call (rest := [.box B1 73 [strV e.Key, .int .i64 e.Seq, .bool e.Del, strV e.Val]]) [0] (impl_isNumber_con e.Seq  R8 H9) kc72 rfl rfl trivial) (Gd.at 3 true 6 R4 rfl rfl rfl (beq_tt H7)) rfl rfl (fun _ => ?_)
      refine TO.y (Y.pick_t H7 rfl rfl) rfl rfl rfl ?_
      refine TO.y (Y.move rfl) rfl rfl rfl ?_
      refine TO.ite (b := R8) (fun H11 => ?_) (fun H11 => ?_)
      · refine TO.y (Y.field_box kf73_2 rfl rfl) (Gd.at 8 true 11 R8 rfl rfl rfl (beq_tt H11)) rfl rfl ?_
        refine TO.y (Y.load_box (v := .bool e.Del) 0 kk4 rfl rfl rfl) (Gd.at 8 true 11 R8 rfl rfl rfl (beq_tt H11)) rfl rfl ?_
        refine TO.y (Y.field_box kf73_3 rfl rfl) (Gd.at 8 true 11 R8 rfl rfl rfl (beq_tt H11)) rfl rfl ?_
        refine TO.y (Y.load_box (v := strV e.Val) 0 kk9 rfl rfl rfl) (Gd.at 8 true 11 R8 rfl rfl rfl (beq_tt H11)) rfl rfl ?_
        refine TO.bind fun R12 H13 => ?_
        refine TO.ef (Ef.call (rest := [.box B1 73 [strV e.Key, .int .i64 e.Seq, .bool e.Del, strV e.Val]]) [0] (impl_isVal_con e.Del e.Val  R12 H13) kc78 rfl rfl trivial) (Gd.at 8 true 11 R8 rfl rfl rfl (beq_tt H11)) rfl rfl (fun _ => ?_)
        refine TO.y (Y.pick_t H11 rfl rfl) rfl rfl rfl ?_
        refine TO.y (Y.assign rfl) rfl rfl rfl ?_
        refine TO.nil ?_
        exact TE.jb_go () [] ⟨rfl, trivial⟩ rfl
      · refine TO.off (Gd.at 8 true 11 R8 rfl rfl rfl (beq_ft H11)) rfl rfl ?_
        refine TO.off (Gd.at 8 true 11 R8 rfl rfl rfl (beq_ft H11)) rfl rfl ?_
        refine TO.off (Gd.at 8 true 11 R8 rfl rfl rfl (beq_ft H11)) rfl rfl ?_
        refine TO.off (Gd.at 8 true 11 R8 rfl rfl rfl (beq_ft H11)) rfl rfl ?_
        refine TO.off (Gd.at 8 true 11 R8 rfl rfl rfl (beq_ft H11)) rfl rfl ?_
        refine TO.y (Y.pick_f H11 rfl rfl) rfl rfl rfl ?_
        refine TO.y (Y.assign rfl) rfl rfl rfl ?_
        refine TO.nil ?_
        exact TE.jb_go () [] ⟨rfl, trivial⟩ rfl
    · refine TO.off (Gd.at 3 true 6 R4 rfl rfl rfl (beq_ft H7)) rfl rfl ?_
      refine TO.off (Gd.at 3 true 6 R4 rfl rfl rfl (beq_ft H7)) rfl rfl ?_
      refine TO.off (Gd.at 3 true 6 R4 rfl rfl rfl (beq_ft H7)) rfl rfl ?_
      refine TO.y (Y.pick_f H7 rfl rfl) rfl rfl rfl ?_
      refine TO.y (Y.move rfl) rfl rfl rfl ?_
      refine TO.off (Gd.at 8 true 11 false rfl rfl rfl rfl) rfl rfl ?_
      refine TO.off (Gd.at 8 true 11 false rfl rfl rfl rfl) rfl rfl ?_
      refine TO.off (Gd.at 8 true 11 false rfl rfl rfl rfl) rfl rfl ?_
      refine TO.off (Gd.at 8 true 11 false rfl rfl rfl rfl) rfl rfl ?_
      refine TO.off (Gd.at 8 true 11 false rfl rfl rfl rfl) rfl rfl ?_
      refine TO.y (Y.pick_f rfl rfl rfl) rfl rfl rfl ?_
      refine TO.y (Y.assign rfl) rfl rfl rfl ?_
      refine TO.nil ?_
      exact TE.jb_go () [] ⟨rfl, trivial⟩ rfl
  · refine TE.next ?_
    refine TW.ret ?_
    exact TE.leaf fun _ _ hf_ hs_ => ret_any (rs := [.tmp 2]) (vs := [.bool T2]) (.inl rfl) rfl ⟨rfl, trivial⟩ hf_ hs_ ⟨(), rfl, hs_.pulls [] rfl⟩

/-- cmp.isNaN[string] -/
noncomputable def cmp_isNaN_83645 (x : List UInt8) : Option Bool :=
  some (!(decide (x = x)))

theorem cmp_isNaN_83645_con (x : List UInt8)  (r : Bool) (hm : cmp_isNaN_83645 x = some r) :
    Con Try.prog 110 [strV x] [] [] (fun _ : Unit => .bool r) (fun _ => []) := by
  refine Con.intro (args := [strV x]) (n := 6) (val := fun r (_ : Unit) => .bool r) (post := fun _ _ => []) (m := cmp_isNaN_83645 x) Try.func110 rfl rfl rfl hm ?_
  intro w S _
  unfold cmp_isNaN_83645
  refine TW.seq ?_
  refine TW.region ?_
  refine TO.y (Y.assign rfl) rfl rfl rfl ?_
  refine TO.nil ?_
  refine TE.next ?_
  refine TW.seq ?_
  refine TW.region ?_
  refine TO.y (Y.move rfl) rfl rfl rfl ?_
  refine TO.y (Y.move rfl) rfl rfl rfl ?_
  refine TO.y (Y.sneq rfl rfl) rfl rfl rfl ?_
  refine TO.y (Y.assign rfl) rfl rfl rfl ?_
  refine TO.nil ?_
  refine TE.next ?_
  refine TW.ret ?_
  exact TE.leaf fun _ _ hf_ hs_ => ret_any (rs := [.tmp 2]) (vs := [.bool (!(decide (x = x)))]) (.inl rfl) rfl ⟨rfl, trivial⟩ hf_ hs_ ⟨(), rfl, hs_.pulls [] rfl⟩

/-- cmp.Compare[string] -/
noncomputable def cmp_Compare_83645 (x : List UInt8) (y : List UInt8) : Option Int :=
  (cmp_isNaN_83645 x).bind fun R1 =>
  (cmp_isNaN_83645 y).bind fun R4 =>
  if R1 = true then (if R4 = true then (some (0 : Int))
  else (some (-1 : Int)))
  else (if R4 = true then (some (1 : Int))
  else (if (sLt x y) = true then (some (-1 : Int))
  else (if (!(sLt x y || decide (x = y))) = true then (some (1 : Int))
  else (some (0 : Int)))))

theorem cmp_Compare_83645_con (x : List UInt8) (y : List UInt8)  (r : Int) (hm : cmp_Compare_83645 x y = some r) :
    Con Try.prog 102 [strV x, strV y] [] [] (fun _ : Unit => .int .i64 r) (fun _ => []) := by
  refine Con.intro (args := [strV x, strV y]) (n := 20) (val := fun r (_ : Unit) => .int .i64 r) (post := fun _ _ => []) (m := cmp_Compare_83645 x y) Try.func102 rfl rfl rfl hm ?_
  intro w S _
  unfold cmp_Compare_83645
  refine TW.seq ?_
  refine TW.region ?_
  refine TO.y (Y.assign rfl) rfl rfl rfl ?_
  refine TO.nil ?_
  refine TE.next ?_
  refine TW.seq ?_
  refine TW.region ?_
  refine TO.y (Y.move rfl) rfl rfl rfl ?_
  refine TO.bind fun R1 H2 => ?_
  refine TO.ef (Ef.call (rest := []) [] (cmp_isNaN_83645_con x  R1 H2) kc110 rfl rfl trivial) rfl rfl rfl (fun _ => ?_)
  refine TO.y (Y.assign rfl) rfl rfl rfl ?_
  refine TO.nil ?_
  refine TE.next ?_
  refine TW.seq ?_
  refine TW.region ?_
  refine TO.y (Y.move rfl) rfl rfl rfl ?_
  refine TO.bind fun R4 H5 => ?_
  refine TO.ef (Ef.call (rest := []) [] (cmp_isNaN_83645_con y  R4 H5) kc110 rfl rfl trivial) rfl rfl rfl (fun _ => ?_)
  refine TO.y (Y.assign rfl) rfl rfl rfl ?_
  refine TO.nil ?_
  refine TE.next ?_
  refine TW.seq ?_
  refine TW.seq ?_
  refine TW.region ?_
  refine TO.y (Y.move rfl) rfl rfl rfl ?_
  refine TO.nil ?_
  refine TE.next ?_
  refine TW.cond rfl (fun H7 => ?_) (fun H7 => ?_)
  · refine TW.seq ?_
    refine TW.seq ?_
    refine TW.region ?_
    refine TO.y (Y.move rfl) rfl rfl rfl ?_
    refine TO.nil ?_
    refine TE.next ?_
    refine TW.cond rfl (fun H8 => ?_) (fun H8 => ?_)
    · refine TW.seq ?_
      refine TW.region ?_
      refine TO.y (Y.assign rfl) rfl rfl rfl ?_
      refine TO.nil ?_
      refine TE.next ?_
      refine TW.ret ?_
      refine TE.then_ret ?_
      refine TE.then_ret ?_
      exact TE.leaf fun _ _ hf_ hs_ => ret_any (rs := [.tmp 4]) (vs := [.int .i64 (0 : Int)]) (.inl rfl) rfl ⟨rfl, trivial⟩ hf_ hs_ ⟨(), rfl, hs_.pulls [] rfl⟩
    · refine TW.skip ?_
      refine TE.next ?_
      refine TW.seq ?_
      refine TW.region ?_
      refine TO.y (Y.assign rfl) rfl rfl rfl ?_
      refine TO.nil ?_
      refine TE.next ?_
      refine TW.ret ?_
      refine TE.then_ret ?_
      exact TE.leaf fun _ _ hf_ hs_ => ret_any (rs := [.tmp 4]) (vs := [.int .i64 (-1 : Int)]) (.inl rfl) rfl ⟨rfl, trivial⟩ hf_ hs_ ⟨(), rfl, hs_.pulls [] rfl⟩
  · refine TW.skip ?_
    refine TE.next ?_
    refine TW.seq ?_
    refine TW.seq ?_
    refine TW.region ?_
    refine TO.y (Y.move rfl) rfl rfl rfl ?_
    refine TO.nil ?_
    refine TE.next ?_
    refine TW.cond rfl (fun H9 => ?_) (fun H9 => ?_)
    · refine TW.seq ?_
      refine TW.region ?_
      refine TO.y (Y.assign rfl) rfl rfl rfl ?_
      refine TO.nil ?_
      refine TE.next ?_
      refine TW.ret ?_
      refine TE.then_ret ?_
      exact TE.leaf fun _ _ hf_ hs_ => ret_any (rs := [.tmp 4]) (vs := [.int .i64 (1 : Int)]) (.inl rfl) rfl ⟨rfl, trivial⟩ hf_ hs_ ⟨(), rfl, hs_.pulls [] rfl⟩
    · refine TW.skip ?_
      refine TE.next ?_
      refine TW.seq ?_
      refine TW.seq ?_
      refine TW.region ?_
      refine TO.y (Y.move rfl) rfl rfl rfl ?_
      refine TO.y (Y.move rfl) rfl rfl rfl ?_
      refine TO.y (Y.slss rfl rfl) rfl rfl rfl ?_
      refine TO.nil ?_
      refine TE.next ?_
      refine TW.cond rfl (fun H10 => ?_) (fun H10 => ?_)
      · refine TW.seq ?_
        refine TW.region ?_
        refine TO.y (Y.assign rfl) rfl rfl rfl ?_
        refine TO.nil ?_
        refine TE.next ?_
        refine TW.ret ?_
        refine TE.then_ret ?_
        exact TE.leaf fun _ _ hf_ hs_ => ret_any (rs := [.tmp 4]) (vs := [.int .i64 (-1 : Int)]) (.inl rfl) rfl ⟨rfl, trivial⟩ hf_ hs_ ⟨(), rfl, hs_.pulls [] rfl⟩
      · refine TW.skip ?_
        refine TE.next ?_
        refine TW.seq ?_
        refine TW.seq ?_
        refine TW.region ?_
        refine TO.y (Y.move rfl) rfl rfl rfl ?_
        refine TO.y (Y.move rfl) rfl rfl rfl ?_
        refine TO.y (Y.sgtr rfl rfl) rfl rfl rfl ?_
        refine TO.nil ?_
        refine TE.next ?_
        refine TW.cond rfl (fun H11 => ?_) (fun H11 => ?_)
        · refine TW.seq ?_
          refine TW.region ?_
          refine TO.y (Y.assign rfl) rfl rfl rfl ?_
          refine TO.nil ?_
          refine TE.next ?_
          refine TW.ret ?_
          refine TE.then_ret ?_
          exact TE.leaf fun _ _ hf_ hs_ => ret_any (rs := [.tmp 4]) (vs := [.int .i64 (1 : Int)]) (.inl rfl) rfl ⟨rfl, trivial⟩ hf_ hs_ ⟨(), rfl, hs_.pulls [] rfl⟩
        · refine TW.skip ?_
          refine TE.next ?_
          refine TW.seq ?_
          refine TW.region ?_
          refine TO.y (Y.assign rfl) rfl rfl rfl ?_
          refine TO.nil ?_
          refine TE.next ?_
          refine TW.ret ?_
          exact TE.leaf fun _ _ hf_ hs_ => ret_any (rs := [.tmp 4]) (vs := [.int .i64 (0 : Int)]) (.inl rfl) rfl ⟨rfl, trivial⟩ hf_ hs_ ⟨(), rfl, hs_.pulls [] rfl⟩

/-- cmp.isNaN[int] -/
noncomputable def cmp_isNaN_26527 (x : Int) : Option Bool :=
  some (!(decide (x = x)))

theorem cmp_isNaN_26527_con (x : Int)  (r : Bool) (hm : cmp_isNaN_26527 x = some r) :
    Con Try.prog 109 [.int .i64 x] [] [] (fun _ : Unit => .bool r) (fun _ => []) := by
  refine Con.intro (args := [.int .i64 x]) (n := 6) (val := fun r (_ : Unit) => .bool r) (post := fun _ _ => []) (m := cmp_isNaN_26527 x) Try.func109 rfl rfl rfl hm ?_
  intro w S _
  unfold cmp_isNaN_26527
  refine TW.seq ?_
  refine TW.region ?_
  refine TO.y (Y.assign rfl) rfl rfl rfl ?_
  refine TO.nil ?_
  refine TE.next ?_
  refine TW.seq ?_
  refine TW.region ?_
  refine TO.y (Y.move rfl) rfl rfl rfl ?_
  refine TO.y (Y.move rfl) rfl rfl rfl ?_
  refine TO.y (Y.neq rfl rfl) rfl rfl rfl ?_
  refine TO.y (Y.assign rfl) rfl rfl rfl ?_
  refine TO.nil ?_
  refine TE.next ?_
  refine TW.ret ?_
  exact TE.leaf fun _ _ hf_ hs_ => ret_any (rs := [.tmp 2]) (vs := [.bool (!(decide (x = x)))]) (.inl rfl) rfl ⟨rfl, trivial⟩ hf_ hs_ ⟨(), rfl, hs_.pulls [] rfl⟩

/-- cmp.Compare[int] -/
noncomputable def cmp_Compare_26527 (x : Int) (y : Int) : Option Int :=
  (cmp_isNaN_26527 x).bind fun R1 =>
  (cmp_isNaN_26527 y).bind fun R4 =>
  if R1 = true then (if R4 = true then (some (0 : Int))
  else (some (-1 : Int)))
  else (if R4 = true then (some (1 : Int))
  else (if (decide (x < y)) = true then (some (-1 : Int))
  else (if (decide (x > y)) = true then (some (1 : Int))
  else (some (0 : Int)))))

theorem cmp_Compare_26527_con (x : Int) (y : Int)  (r : Int) (hm : cmp_Compare_26527 x y = some r) :
    Con Try.prog 101 [.int .i64 x, .int .i64 y] [] [] (fun _ : Unit => .int .i64 r) (fun _ => []) := by
  refine Con.intro (args := [.int .i64 x, .int .i64 y]) (n := 20) (val := fun r (_ : Unit) => .int .i64 r) (post := fun _ _ => []) (m := cmp_Compare_26527 x y) Try.func101 rfl rfl rfl hm ?_
  intro w S _
  unfold cmp_Compare_26527
  refine TW.seq ?_
  refine TW.region ?_
  refine TO.y (Y.assign rfl) rfl rfl rfl ?_
  refine TO.nil ?_
  refine TE.next ?_
  refine TW.seq ?_
  refine TW.region ?_
  refine TO.y (Y.move rfl) rfl rfl rfl ?_
  refine TO.bind fun R1 H2 => ?_
  refine TO.ef (Ef.call (rest := []) [] (cmp_isNaN_26527_con x  R1 H2) kc109 rfl rfl trivial) rfl rfl rfl (fun _ => ?_)
  refine TO.y (Y.assign rfl) rfl rfl rfl ?_
  refine TO.nil ?_
  refine TE.next ?_
  refine TW.seq ?_
  refine TW.region ?_
  refine TO.y (Y.move rfl) rfl rfl rfl ?_
  refine TO.bind fun R4 H5 => ?_
  refine TO.ef (Ef.call (rest := []) [] (cmp_isNaN_26527_con y  R4 H5) kc109 rfl rfl trivial) rfl rfl rfl (fun _ => ?_)
  refine TO.y (Y.assign rfl) rfl rfl rfl ?_
  refine TO.nil ?_
  refine TE.next ?_
  refine TW.seq ?_
  refine TW.seq ?_
  refine TW.region ?_
  refine TO.y (Y.move rfl) rfl rfl rfl ?_
  refine TO.nil ?_
  refine TE.next ?_
  refine TW.cond rfl (fun H7 => ?_) (fun H7 => ?_)
  · refine TW.seq ?_
    refine TW.seq ?_
    refine TW.region ?_
    refine TO.y (Y.move rfl) rfl rfl rfl ?_
    refine TO.nil ?_
    refine TE.next ?_
    refine TW.cond rfl (fun H8 => ?_) (fun H8 => ?_)
    · refine TW.seq ?_
      refine TW.region ?_
      refine TO.y (Y.assign rfl) rfl rfl rfl ?_
      refine TO.nil ?_
      refine TE.next ?_
      refine TW.ret ?_
      refine TE.then_ret ?_
      refine TE.then_ret ?_
      exact TE.leaf fun _ _ hf_ hs_ => ret_any (rs := [.tmp 4]) (vs := [.int .i64 (0 : Int)]) (.inl rfl) rfl ⟨rfl, trivial⟩ hf_ hs_ ⟨(), rfl, hs_.pulls [] rfl⟩
    · refine TW.skip ?_
      refine TE.next ?_
      refine TW.seq ?_
      refine TW.region ?_
      refine TO.y (Y.assign rfl) rfl rfl rfl ?_
      refine TO.nil ?_
      refine TE.next ?_
      refine TW.ret ?_
      refine TE.then_ret ?_
      exact TE.leaf fun _ _ hf_ hs_ => ret_any (rs := [.tmp 4]) (vs := [.int .i64 (-1 : Int)]) (.inl rfl) rfl ⟨rfl, trivial⟩ hf_ hs_ ⟨(), rfl, hs_.pulls [] rfl⟩
  · refine TW.skip ?_
    refine TE.next ?_
    refine TW.seq ?_
    refine TW.seq ?_
    refine TW.region ?_
    refine TO.y (Y.move rfl) rfl rfl rfl ?_
    refine TO.nil ?_
    refine TE.next ?_
    refine TW.cond rfl (fun H9 => ?_) (fun H9 => ?_)
    · refine TW.seq ?_
      refine TW.region ?_
      refine TO.y (Y.assign rfl) rfl rfl rfl ?_
      refine TO.nil ?_
      refine TE.next ?_
      refine TW.ret ?_
      refine TE.then_ret ?_
      exact TE.leaf fun _ _ hf_ hs_ => ret_any (rs := [.tmp 4]) (vs := [.int .i64 (1 : Int)]) (.inl rfl) rfl ⟨rfl, trivial⟩ hf_ hs_ ⟨(), rfl, hs_.pulls [] rfl⟩
    · refine TW.skip ?_
      refine TE.next ?_
      refine TW.seq ?_
      refine TW.seq ?_
      refine TW.region ?_
      refine TO.y (Y.move rfl) rfl rfl rfl ?_
      refine TO.y (Y.move rfl) rfl rfl rfl ?_
      refine TO.y (Y.lss rfl rfl) rfl rfl rfl ?_
      refine TO.nil ?_
      refine TE.next ?_
      refine TW.cond rfl (fun H10 => ?_) (fun H10 => ?_)
      · refine TW.seq ?_
        refine TW.region ?_
        refine TO.y (Y.assign rfl) rfl rfl rfl ?_
        refine TO.nil ?_
        refine TE.next ?_
        refine TW.ret ?_
        refine TE.then_ret ?_
        exact TE.leaf fun _ _ hf_ hs_ => ret_any (rs := [.tmp 4]) (vs := [.int .i64 (-1 : Int)]) (.inl rfl) rfl ⟨rfl, trivial⟩ hf_ hs_ ⟨(), rfl, hs_.pulls [] rfl⟩
      · refine TW.skip ?_
        refine TE.next ?_
        refine TW.seq ?_
        refine TW.seq ?_
        refine TW.region ?_
        refine TO.y (Y.move rfl) rfl rfl rfl ?_
        refine TO.y (Y.move rfl) rfl rfl rfl ?_
        refine TO.y (Y.gtr rfl rfl) rfl rfl rfl ?_
        refine TO.nil ?_
        refine TE.next ?_
        refine TW.cond rfl (fun H11 => ?_) (fun H11 => ?_)
        · refine TW.seq ?_
          refine TW.region ?_
          refine TO.y (Y.assign rfl) rfl rfl rfl ?_
          refine TO.nil ?_
          refine TE.next ?_
          refine TW.ret ?_
          refine TE.then_ret ?_
          exact TE.leaf fun _ _ hf_ hs_ => ret_any (rs := [.tmp 4]) (vs := [.int .i64 (1 : Int)]) (.inl rfl) rfl ⟨rfl, trivial⟩ hf_ hs_ ⟨(), rfl, hs_.pulls [] rfl⟩
        · refine TW.skip ?_
          refine TE.next ?_
          refine TW.seq ?_
          refine TW.region ?_
          refine TO.y (Y.assign rfl) rfl rfl rfl ?_
          refine TO.nil ?_
          refine TE.next ?_
          refine TW.ret ?_
          exact TE.leaf fun _ _ hf_ hs_ => ret_any (rs := [.tmp 4]) (vs := [.int .i64 (0 : Int)]) (.inl rfl) rfl ⟨rfl, trivial⟩ hf_ hs_ ⟨(), rfl, hs_.pulls [] rfl⟩

/-- cmp.Or[int] -/
noncomputable def cmp_Or_26527 (vals : List Int) : Option Int :=
  bindC (loopO (fun (S1 : Int) => if (decide (S1 < ((vals.length : Nat) : Int))) = true then ((idx vals S1).bind fun E6 =>
  if (!(decide (E6 = (0 : Int)))) = true then (some (.done (.done E6)))
  else (some (.go (IntKind.i64.wrap (S1 + (1 : Int))))))
  else (some (.done (.go ()))))
  (0 : Int))
  (fun (T3 : Unit) => some (0 : Int))

theorem cmp_Or_26527_con (vals : List Int) (V_vals0 : Value) (r : Int) (hm : cmp_Or_26527 vals = some r) :
    Con Try.prog 106 [V_vals0] [] [(V_vals0, lc vals)] (fun _ : Unit => .int .i64 r) (fun _ => []) := by
  refine Con.intro (args := [V_vals0]) (n := 18) (val := fun r (_ : Unit) => .int .i64 r) (post := fun _ _ => []) (m := cmp_Or_26527 vals) Try.func106 rfl rfl rfl hm ?_
  intro w S hrd
  have HB_V_vals0 := hrd _ (.head _)
  clear hrd
  unfold cmp_Or_26527
  refine TW.seq ?_
  refine TW.region ?_
  refine TO.y (Y.assign rfl) rfl rfl rfl ?_
  refine TO.nil ?_
  refine TE.next ?_
  refine TW.seq ?_
  refine TW.region ?_
  refine TO.y (Y.assign rfl) rfl rfl rfl ?_
  refine TO.nil ?_
  refine TE.next ?_
  refine TW.seq ?_
  refine TW.seq ?_
  refine TW.region ?_
  refine TO.y (Y.move rfl) rfl rfl rfl ?_
  refine TO.y (Y.len (l := vals) ke24 (Base.can HB_V_vals0) rfl) rfl rfl rfl ?_
  refine TO.y (Y.move rfl) rfl rfl rfl ?_
  refine TO.nil ?_
  refine TE.next ?_
  refine TW.joinX (τ := Unit) (X := Unit) (fun _ _ => [(3, .int .i64 (0 : Int))]) (fun _ _ => []) ?_ (fun T3 X4 => ?_)
  · refine TW.block ?_
    refine TW.loopX (σ := Int) (X := Unit) (fun T _ => [(3, .int .i64 (0 : Int)), (6, V_vals0), (7, .int .i64 ((vals.length : Nat) : Int)), (8, .int .i64 T)]) (fun _ _ => []) () [] ⟨rfl, rfl, rfl, rfl, trivial⟩ rfl (fun S1 X2 => ?_)
    refine TW.seq ?_
    refine TW.region ?_
    refine TO.y (Y.lss rfl rfl) rfl rfl rfl ?_
    refine TO.nil ?_
    refine TE.next ?_
    refine TW.seq ?_
    refine TW.cond rfl (fun H5 => ?_) (fun H5 => ?_)
    · refine TW.skip ?_
      refine TE.next ?_
      refine TW.seq ?_
      refine TW.block ?_
      refine TW.seq ?_
      refine TW.region ?_
      refine TO.bind fun E6 H7 => ?_
      refine TO.y (Y.index ke24 (Base.can HB_V_vals0) H7 rfl rfl) rfl rfl rfl ?_
      refine TO.y (Y.load_el (us := [.int .i64 E6]) (u := .int .i64 E6) kk3 rfl (Base.can HB_V_vals0) (idx_get H7).2.2 rfl rfl rfl rfl rfl) rfl rfl rfl ?_
      refine TO.y (Y.assign rfl) rfl rfl rfl ?_
      refine TO.nil ?_
      refine TE.next ?_
      refine TW.seq ?_
      refine TW.region ?_
      refine TO.y (Y.move rfl) rfl rfl rfl ?_
      refine TO.y (Y.move rfl) rfl rfl rfl ?_
      refine TO.y (Y.neq rfl rfl) rfl rfl rfl ?_
      refine TO.nil ?_
      refine TE.next ?_
      refine TW.cond rfl (fun H8 => ?_) (fun H8 => ?_)
      · refine TW.seq ?_
        refine TW.region ?_
        refine TO.y (Y.move rfl) rfl rfl rfl ?_
        refine TO.y (Y.assign rfl) rfl rfl rfl ?_
        refine TO.nil ?_
        refine TE.next ?_
        refine TW.ret ?_
        refine TE.block_ret ?_
        refine TE.then_ret ?_
        refine TE.lp_ret ?_
        refine TE.block_ret ?_
        refine TE.jn_done ?_
        refine TE.then_ret ?_
        exact TE.leaf fun _ _ hf_ hs_ => ret_any (rs := [.tmp 2]) (vs := [.int .i64 E6]) (.inl rfl) rfl ⟨rfl, trivial⟩ hf_ hs_ ⟨(), rfl, hs_.pulls [] rfl⟩
      · refine TW.skip ?_
        refine TE.block_normal ?_
        refine TE.next ?_
        refine TW.region ?_
        refine TO.y (Y.add rfl rfl) rfl rfl rfl ?_
        refine TO.y (Y.move rfl) rfl rfl rfl ?_
        refine TO.nil ?_
        exact TE.lp_go () [] ⟨rfl, rfl, rfl, rfl, trivial⟩ rfl
    · refine TW.exit ?_
      refine TE.then_exit ?_
      refine TE.lp_exit ?_
      refine TE.block_exit ?_
      exact TE.jn_go () [] ⟨rfl, trivial⟩ rfl
  · refine TE.next ?_
    refine TW.seq ?_
    refine TW.region ?_
    refine TO.y (Y.move rfl) rfl rfl rfl ?_
    refine TO.y (Y.assign rfl) rfl rfl rfl ?_
    refine TO.nil ?_
    refine TE.next ?_
    refine TW.ret ?_
    exact TE.leaf fun _ _ hf_ hs_ => ret_any (rs := [.tmp 2]) (vs := [.int .i64 (0 : Int)]) (.inl rfl) rfl ⟨rfl, trivial⟩ hf_ hs_ ⟨(), rfl, hs_.pulls [] rfl⟩

/-- loop.example/g00950/impl.compareEnts -/
noncomputable def impl_compareEnts (a : Ent) (b : Ent) : Option Int :=
  (cmp_Compare_83645 a.Key b.Key).bind fun R3 =>
  (cmp_Compare_26527 b.Seq a.Seq).bind fun R6 =>
  (cmp_Or_26527 ([R3, R6])).bind fun R10 =>
  some R10

theorem impl_compareEnts_con (a : Ent) (b : Ent)  (r : Int) (hm : impl_compareEnts a b = some r) :
    Con Try.prog 97 [.agg #[strV a.Key, .int .i64 a.Seq, .bool a.Del, strV a.Val], .agg #[strV b.Key, .int .i64 b.Seq, .bool b.Del, strV b.Val]] [] [] (fun _ : Unit => .int .i64 r) (fun _ => []) := by
  refine Con.intro (args := [.agg #[strV a.Key, .int .i64 a.Seq, .bool a.Del, strV a.Val], .agg #[strV b.Key, .int .i64 b.Seq, .bool b.Del, strV b.Val]]) (n := 17) (val := fun r (_ : Unit) => .int .i64 r) (post := fun _ _ => []) (m := impl_compareEnts a b) Try.func97 rfl rfl rfl hm ?_
  intro w S _
  unfold impl_compareEnts
  refine TW.seq ?_
  refine TW.region ?_
  refine TO.ef (Ef.box rfl (Cel.plain rfl rfl)) rfl rfl rfl (fun B1 => ?_)
  refine TO.ef (Ef.box rfl (Cel.plain rfl rfl)) rfl rfl rfl (fun B2 => ?_)
  refine TO.y (Y.assign rfl) rfl rfl rfl ?_
  refine TO.nil ?_
  refine TE.next ?_
  refine TW.seq ?_
  refine TW.draw (isH := [.box B2 73 [strV b.Key, .int .i64 b.Seq, .bool b.Del, strV b.Val], .box B1 73 [strV a.Key, .int .i64 a.Seq, .bool a.Del, strV a.Val]]) hMix ?_
  refine TA.y (listed' := #[true, false, false, false, false, false, false, false, false, false, false, false, false]) 0 [0, 0] rfl (Y.field_box kf73_0 rfl rfl) rfl rfl rfl (by kernel_rfl) (by kernel_rfl) (by kernel_rfl) rfl rfl ?_
  refine TA.y (listed' := #[true, true, false, false, false, false, false, false, false, false, false, false, false]) 1 [0, 0] rfl (Y.load_box (v := strV a.Key) 1 kk9 rfl rfl rfl) rfl rfl rfl (by kernel_rfl) (by kernel_rfl) (by kernel_rfl) rfl rfl ?_
  refine TA.y (listed' := #[true, true, true, false, false, false, false, false, false, false, false, false, false]) 2 [0, 0] rfl (Y.field_box kf73_0 rfl rfl) rfl rfl rfl (by kernel_rfl) (by kernel_rfl) (by kernel_rfl) rfl rfl ?_
  refine TA.y (listed' := #[true, true, true, true, false, false, false, false, false, false, false, false, false]) 3 [0, 0] rfl (Y.load_box (v := strV b.Key) 0 kk9 rfl rfl rfl) rfl rfl rfl (by kernel_rfl) (by kernel_rfl) (by kernel_rfl) rfl rfl ?_
  refine TA.y (listed' := #[true, true, true, true, false, true, false, false, false, false, false, false, false]) 5 [0, 0] rfl (Y.field_box kf73_1 rfl rfl) rfl rfl rfl (by kernel_rfl) (by kernel_rfl) (by kernel_rfl) rfl rfl ?_
  refine TA.y (listed' := #[true, true, true, true, false, true, true, false, false, false, false, false, false]) 6 [0, 0] rfl (Y.load_box (v := .int .i64 b.Seq) 0 kk3 rfl rfl rfl) rfl rfl rfl (by kernel_rfl) (by kernel_rfl) (by kernel_rfl) rfl rfl ?_
  refine TA.y (listed' := #[true, true, true, true, false, true, true, true, false, false, false, false, false]) 7 [0, 0] rfl (Y.field_box kf73_1 rfl rfl) rfl rfl rfl (by kernel_rfl) (by kernel_rfl) (by kernel_rfl) rfl rfl ?_
  refine TA.y (listed' := #[true, true, true, true, false, true, true, true, true, false, false, false, false]) 8 [0, 0] rfl (Y.load_box (v := .int .i64 a.Seq) 1 kk3 rfl rfl rfl) rfl rfl rfl (by kernel_rfl) (by kernel_rfl) (by kernel_rfl) rfl rfl ?_
  refine TA.bind fun R3 H4 => ?_
  refine TA.one 4 (by kernel_rfl) ?_
  refine TX.ef (listed' := #[true, true, true, true, true, true, true, true, true, false, false, false, false]) [0, 0] rfl (Ef.call (rest := [.box B2 73 [strV b.Key, .int .i64 b.Seq, .bool b.Del, strV b.Val], .box B1 73 [strV a.Key, .int .i64 a.Seq, .bool a.Del, strV a.Val]]) [0, 0] (cmp_Compare_83645_con a.Key b.Key  R3 H4) kc102 rfl rfl trivial) rfl rfl rfl rfl (fun _ => rfl) (fun _ => ?_)
  refine TA.bind fun R6 H7 => ?_
  refine TA.one 9 (by kernel_rfl) ?_
  refine TX.ef (listed' := #[true, true, true, true, true, true, true, true, true, true, false, false, false]) [0, 0] rfl (Ef.call (rest := [.box B2 73 [strV b.Key, .int .i64 b.Seq, .bool b.Del, strV b.Val], .box B1 73 [strV a.Key, .int .i64 a.Seq, .bool a.Del, strV a.Val]]) [0, 0] (cmp_Compare_26527_con b.Seq a.Seq  R6 H7) kc101 rfl rfl trivial) rfl rfl rfl rfl (fun _ => rfl) (fun _ => ?_)
  refine TA.one 10 (by kernel_rfl) ?_
  refine TX.ef (listed' := #[true, true, true, true, true, true, true, true, true, true, true, false, false]) [1, 1] rfl (Ef.buildSlice (α := Int) (Vs := [.int .i64 R3, .int .i64 R6]) [R3, R6] ke24 kz3 rfl rfl rfl rfl rfl) rfl rfl rfl rfl (fun _ => rfl) (fun B9 => ?_)
  refine TA.bind fun R10 H11 => ?_
  refine TA.one 11 (by kernel_rfl) ?_
  refine TX.ef (listed' := #[true, true, true, true, true, true, true, true, true, true, true, true, false]) [1, 1] rfl (Ef.call (rest := [.own (.slice (some ⟨B9, 0, none⟩) 2 2) (lc ([R3, R6])), .box B2 73 [strV b.Key, .int .i64 b.Seq, .bool b.Del, strV b.Val], .box B1 73 [strV a.Key, .int .i64 a.Seq, .bool a.Del, strV a.Val]]) [0, 0, 0] (cmp_Or_26527_con ([R3, R6]) (.slice (some ⟨B9, 0, none⟩) 2 2) R10 H11) kc106 rfl rfl ⟨(Can.own 0 rfl), trivial⟩) rfl rfl rfl rfl (fun _ => rfl) (fun _ => ?_)
  refine TA.y (listed' := #[true, true, true, true, true, true, true, true, true, true, true, true, true]) 12 [1, 1] rfl (Y.assign rfl) rfl rfl rfl (by kernel_rfl) (by kernel_rfl) (by kernel_rfl) rfl rfl ?_
  refine TA.nil (by kernel_rfl) ?_
  refine TE.next ?_
  refine TW.ret ?_
  exact TE.leaf fun _ _ hf_ hs_ => ret_any (rs := [.tmp 4]) (vs := [.int .i64 R10]) (.inl rfl) rfl ⟨rfl, trivial⟩ hf_ hs_ ⟨(), rfl, hs_.pulls [] rfl⟩

/-- loop.example/g00950/impl.inOrder -/
noncomputable def impl_inOrder (l : List Ent) : Option Bool :=
  bindC (loopO (fun (S1 : Int) => if (decide (S1 < ((l.length : Nat) : Int))) = true then ((idx l S1).bind fun E6 =>
  ((impl_entOk E6).bind fun R11 =>
  if (!R11) = true then (some true)
  else (if (decide (S1 > (0 : Int))) = true then ((idx l (IntKind.i64.wrap (S1 - (1 : Int)))).bind fun E16 =>
  (impl_compareEnts E16 E6).bind fun R18 =>
  some (decide (R18 ≥ (0 : Int))))
  else (some false))).bind (fun (T9 : Bool) =>
  if T9 = true then (some (.done (.done false)))
  else (some (.go (IntKind.i64.wrap (S1 + (1 : Int)))))))
  else (some (.done (.go ()))))
  (0 : Int))
  (fun (T3 : Unit) => some true)

theorem impl_inOrder_con (l : List Ent) (V_l0 : Value) (r : Bool) (hm : impl_inOrder l = some r) :
    Con Try.prog 94 [V_l0] [] [(V_l0, lc l)] (fun _ : Unit => .bool r) (fun _ => []) := by
  refine Con.intro (args := [V_l0]) (n := 30) (val := fun r (_ : Unit) => .bool r) (post := fun _ _ => []) (m := impl_inOrder l) Try.func94 rfl rfl rfl hm ?_
  intro w S hrd
  have HB_V_l0 := hrd _ (.head _)
  clear hrd
  unfold impl_inOrder
  refine TW.seq ?_
  refine TW.region ?_
  refine TO.y (Y.assign rfl) rfl rfl rfl ?_
  refine TO.nil ?_
  refine TE.next ?_
  refine TW.seq ?_
  refine TW.seq ?_
  refine TW.region ?_
  refine TO.y (Y.move rfl) rfl rfl rfl ?_
  refine TO.y (Y.len (l := l) ke30 (Base.can HB_V_l0) rfl) rfl rfl rfl ?_
  refine TO.y (Y.move rfl) rfl rfl rfl ?_
  refine TO.nil ?_
  refine TE.next ?_
  refine TW.joinX (τ := Unit) (X := Unit) (fun _ _ => []) (fun _ _ => []) ?_ (fun T3 X4 => ?_)
  · refine TW.block ?_
    refine TW.loopX (σ := Int) (X := Unit) (fun T _ => [(0, V_l0), (5, V_l0), (6, .int .i64 ((l.length : Nat) : Int)), (7, .int .i64 T)]) (fun _ _ => []) () [] ⟨rfl, rfl, rfl, rfl, trivial⟩ rfl (fun S1 X2 => ?_)
    refine TW.seq ?_
    refine TW.region ?_
    refine TO.y (Y.lss rfl rfl) rfl rfl rfl ?_
    refine TO.nil ?_
    refine TE.next ?_
    refine TW.seq ?_
    refine TW.cond rfl (fun H5 => ?_) (fun H5 => ?_)
    · refine TW.skip ?_
      refine TE.next ?_
      refine TW.seq ?_
      refine TW.block ?_
      refine TW.seq ?_
      refine TW.region ?_
      refine TO.y (Y.move rfl) rfl rfl rfl ?_
      refine TO.bind fun E6 H7 => ?_
      refine TO.y (Y.index ke30 (Base.can HB_V_l0) H7 rfl rfl) rfl rfl rfl ?_
      refine TO.y (Y.load_el (us := [strV E6.Key, .int .i64 E6.Seq, .bool E6.Del, strV E6.Val]) (u := .agg #[strV E6.Key, .int .i64 E6.Seq, .bool E6.Del, strV E6.Val]) kk73 rfl (Base.can HB_V_l0) (idx_get H7).2.2 rfl rfl rfl rfl rfl) rfl rfl rfl ?_
      refine TO.ef (Ef.alloc kz73 rfl) rfl rfl rfl (fun B8 => ?_)
      refine TO.y (Y.assign rfl) rfl rfl rfl ?_
      refine TO.ef0 (Ef.store_box (us := [strV E6.Key, .int .i64 E6.Seq, .bool E6.Del, strV E6.Val]) (vs' := [strV E6.Key, .int .i64 E6.Seq, .bool E6.Del, strV E6.Val]) (is' := [.box B8 73 [strV E6.Key, .int .i64 E6.Seq, .bool E6.Del, strV E6.Val]]) 0 kk73 rfl rfl rfl (Cel.plain rfl rfl) rfl rfl rfl rfl) rfl rfl (fun _ => ?_)
      refine TO.nil ?_
      refine TE.next ?_
      refine TW.seq ?_
      refine TW.joinBX (τ := Bool) (X := Unit) (fun T _ => [(0, V_l0), (5, V_l0), (6, .int .i64 ((l.length : Nat) : Int)), (7, .int .i64 S1), (28, .bool T)]) (fun _ _ => []) ?_ (fun T9 X10 => ?_)
      · refine TW.draw (isH := [.box B8 73 [strV E6.Key, .int .i64 E6.Seq, .bool E6.Del, strV E6.Val]]) hMix ?_
        refine TA.y (listed' := #[true, false, false, false, false, false, false, false, false, false, false, false, false, false, false, false, false]) 0 [0] rfl (Y.load_box (v := .agg #[strV E6.Key, .int .i64 E6.Seq, .bool E6.Del, strV E6.Val]) 0 kk73 rfl rfl rfl) rfl rfl rfl (by kernel_rfl) (by kernel_rfl) (by kernel_rfl) rfl rfl ?_
        refine TA.bind fun R11 H12 => ?_
        refine TA.one 1 (by kernel_rfl) ?_
        refine TX.ef (listed' := #[true, true, false, false, false, false, false, false, false, false, false, false, false, false, false, false, false]) [0] rfl (Ef.call (rest := [.box B8 73 [strV E6.Key, .int .i64 E6.Seq, .bool E6.Del, strV E6.Val]]) [0] (impl_entOk_con E6  R11 H12) kc105 rfl rfl trivial) rfl rfl rfl rfl (fun _ => rfl) (fun _ => ?_)
        refine TA.y (listed' := #[true, true, true, false, false, false, false, false, false, false, false, false, false, false, false, false, false]) 2 [0] rfl (Y.not rfl) rfl rfl rfl (by kernel_rfl) (by kernel_rfl) (by kernel_rfl) rfl rfl ?_
        refine TA.y (listed' := #[true, true, true, true, false, false, false, false, false, false, false, false, false, false, false, false, false]) 3 [0] rfl (Y.move rfl) rfl rfl rfl (by kernel_rfl) (by kernel_rfl) (by kernel_rfl) rfl rfl ?_
        refine TA.ite (b := !R11) (fun H14 => ?_) (fun H14 => ?_)
        · refine TA.off (listed' := #[true, true, true, true, true, false, false, false, false, false, false, false, false, false, false, false, false]) 4 [0] rfl (Gd.at 3 false 15 (!R11) rfl rfl rfl (beq_tf H14)) rfl rfl (by kernel_rfl) (by kernel_rfl) (by kernel_rfl) rfl rfl ?_
          refine TA.off (listed' := #[true, true, true, true, true, true, false, false, false, false, false, false, false, false, false, false, false]) 5 [0] rfl (Gd.at 3 false 15 (!R11) rfl rfl rfl (beq_tf H14)) rfl rfl (by kernel_rfl) (by kernel_rfl) (by kernel_rfl) rfl rfl ?_
          refine TA.off (listed' := #[true, true, true, true, true, true, true, false, false, false, false, false, false, false, false, false, false]) 6 [0] rfl (Gd.at 3 false 15 (!R11) rfl rfl rfl (beq_tf H14)) rfl rfl (by kernel_rfl) (by kernel_rfl) (by kernel_rfl) rfl rfl ?_
          refine TA.off (listed' := #[true, true, true, true, true, true, true, true, false, false, false, false, false, false, false, false, false]) 7 [0] rfl (Gd.un 6 true 18 rfl rfl rfl) rfl rfl (by kernel_rfl) (by kernel_rfl) (by kernel_rfl) rfl rfl ?_
          refine TA.off (listed' := #[true, true, true, true, true, true, true, true, true, false, false, false, false, false, false, false, false]) 8 [0] rfl (Gd.un 6 true 18 rfl rfl rfl) rfl rfl (by kernel_rfl) (by kernel_rfl) (by kernel_rfl) rfl rfl ?_
          refine TA.off (listed' := #[true, true, true, true, true, true, true, true, true, true, false, false, false, false, false, false, false]) 9 [0] rfl (Gd.un 6 true 18 rfl rfl rfl) rfl rfl (by kernel_rfl) (by kernel_rfl) (by kernel_rfl) rfl rfl ?_
          refine TA.off (listed' := #[true, true, true, true, true, true, true, true, true, true, true, false, false, false, false, false, false]) 10 [0] rfl (Gd.un 6 true 18 rfl rfl rfl) rfl rfl (by kernel_rfl) (by kernel_rfl) (by kernel_rfl) rfl rfl ?_
          refine TA.off (listed' := #[true, true, true, true, true, true, true, true, true, true, true, true, false, false, false, false, false]) 11 [0] rfl (Gd.un 6 true 18 rfl rfl rfl) rfl rfl (by kernel_rfl) (by kernel_rfl) (by kernel_rfl) rfl rfl ?_
          refine TA.off (listed' := #[true, true, true, true, true, true, true, true, true, true, true, true, true, false, false, false, false]) 12 [0] rfl (Gd.un 6 true 18 rfl rfl rfl) rfl rfl (by kernel_rfl) (by kernel_rfl) (by kernel_rfl) rfl rfl ?_
          refine TA.off (listed' := #[true, true, true, true, true, true, true, true, true, true, true, true, true, true, false, false, false]) 13 [0] rfl (Gd.un 6 true 18 rfl rfl rfl) rfl rfl (by kernel_rfl) (by kernel_rfl) (by kernel_rfl) rfl rfl ?_
          refine TA.off (listed' := #[true, true, true, true, true, true, true, true, true, true, true, true, true, true, true, false, false]) 14 [0] rfl (Gd.un 6 true 18 rfl rfl rfl) rfl rfl (by kernel_rfl) (by kernel_rfl) (by kernel_rfl) rfl rfl ?_
          refine TA.off (listed' := #[true, true, true, true, true, true, true, true, true, true, true, true, true, true, true, true, false]) 15 [0] rfl (Gd.at 3 false 15 (!R11) rfl rfl rfl (beq_tf H14)) rfl rfl (by kernel_rfl) (by kernel_rfl) (by kernel_rfl) rfl rfl ?_
          refine TA.y (listed' := #[true, true, true, true, true, true, true, true, true, true, true, true, true, true, true, true, true]) 16 [0] rfl (Y.pick_t H14 rfl rfl) rfl rfl rfl (by kernel_rfl) (by kernel_rfl) (by kernel_rfl) rfl rfl ?_
          refine TA.nil (by kernel_rfl) ?_
          exact TE.jb_go () [] ⟨rfl, rfl, rfl, rfl, rfl, trivial⟩ rfl
        · refine TA.y (listed' := #[true, true, true, true, true, false, false, false, false, false, false, false, false, false, false, false, false]) 4 [0] rfl (Y.move rfl) (Gd.at 3 false 15 (!R11) rfl rfl rfl (beq_ff H14)) rfl rfl (by kernel_rfl) (by kernel_rfl) (by kernel_rfl) rfl rfl ?_
          refine TA.y (listed' := #[true, true, true, true, true, true, false, false, false, false, false, false, false, false, false, false, false]) 5 [0] rfl (Y.gtr rfl rfl) (Gd.at 3 false 15 (!R11) rfl rfl rfl (beq_ff H14)) rfl rfl (by kernel_rfl) (by kernel_rfl) (by kernel_rfl) rfl rfl ?_
          refine TA.y (listed' := #[true, true, true, true, true, true, true, false, false, false, false, false, false, false, false, false, false]) 6 [0] rfl (Y.move rfl) (Gd.at 3 false 15 (!R11) rfl rfl rfl (beq_ff H14)) rfl rfl (by kernel_rfl) (by kernel_rfl) (by kernel_rfl) rfl rfl ?_
          refine TA.ite (b := decide (S1 > (0 : Int))) (fun H15 => ?_) (fun H15 => ?_)
          · refine TA.y (listed' := #[true, true, true, true, true, true, true, true, false, false, false, false, false, false, false, false, false]) 7 [0] rfl (Y.move rfl) (Gd.at 6 true 18 (decide (S1 > (0 : Int))) rfl rfl rfl (beq_tt H15)) rfl rfl (by kernel_rfl) (by kernel_rfl) (by kernel_rfl) rfl rfl ?_
            refine TA.y (listed' := #[true, true, true, true, true, true, true, true, true, false, false, false, false, false, false, false, false]) 8 [0] rfl (Y.move rfl) (Gd.at 6 true 18 (decide (S1 > (0 : Int))) rfl rfl rfl (beq_tt H15)) rfl rfl (by kernel_rfl) (by kernel_rfl) (by kernel_rfl) rfl rfl ?_
            refine TA.y (listed' := #[true, true, true, true, true, true, true, true, true, true, false, false, false, false, false, false, false]) 9 [0] rfl (Y.sub rfl rfl) (Gd.at 6 true 18 (decide (S1 > (0 : Int))) rfl rfl rfl (beq_tt H15)) rfl rfl (by kernel_rfl) (by kernel_rfl) (by kernel_rfl) rfl rfl ?_
            refine TA.bind fun E16 H17 => ?_
            refine TA.y (listed' := #[true, true, true, true, true, true, true, true, true, true, true, false, false, false, false, false, false]) 10 [0] rfl (Y.index ke30 (Base.can HB_V_l0) H17 rfl rfl) (Gd.at 6 true 18 (decide (S1 > (0 : Int))) rfl rfl rfl (beq_tt H15)) rfl rfl (by kernel_rfl) (by kernel_rfl) (by kernel_rfl) rfl rfl ?_
            refine TA.y (listed' := #[true, true, true, true, true, true, true, true, true, true, true, true, false, false, false, false, false]) 11 [0] rfl (Y.load_el (us := [strV E16.Key, .int .i64 E16.Seq, .bool E16.Del, strV E16.Val]) (u := .agg #[strV E16.Key, .int .i64 E16.Seq, .bool E16.Del, strV E16.Val]) kk73 rfl (Base.can HB_V_l0) (idx_get H17).2.2 rfl rfl rfl rfl rfl) (Gd.at 6 true 18 (decide (S1 > (0 : Int))) rfl rfl rfl (beq_tt H15)) rfl rfl (by kernel_rfl) (by kernel_rfl) (by kernel_rfl) rfl rfl ?_
            refine TA.y (listed' := #[true, true, true, true, true, true, true, true, true, true, true, true, true, false, false, false, false]) 12 [0] rfl (Y.load_box (v := .agg #[strV E6.Key, .int .i64 E6.Seq, .bool E6.Del, strV E6.Val]) 0 kk73 rfl rfl rfl) (Gd.at 6 true 18 (decide (S1 > (0 : Int))) rfl rfl rfl (beq_tt H15)) rfl rfl (by kernel_rfl) (by kernel_rfl) (by kernel_rfl) rfl rfl ?_
            refine TA.bind fun R18 H19 => ?_
            refine TA.one 13 (by kernel_rfl) ?_
            refine TX.ef (listed' := #[true, true, true, true, true, true, true, true, true, true, true, true, true, true, false, false, false]) [0] rfl (Ef.call (rest := [.box B8 73 [strV E6.Key, .int .i64 E6.Seq, .bool E6.Del, strV E6.Val]]) [0] (impl_compareEnts_con E16 E6  R18 H19) kc97 rfl rfl trivial) (Gd.at 6 true 18 (decide (S1 > (0 : Int))) rfl rfl rfl (beq_tt H15)) rfl rfl rfl (fun _ => rfl) (fun _ => ?_)
            refine TA.y (listed' := #[true, true, true, true, true, true, true, true, true, true, true, true, true, true, true, false, false]) 14 [0] rfl (Y.geq rfl rfl) (Gd.at 6 true 18 (decide (S1 > (0 : Int))) rfl rfl rfl (beq_tt H15)) rfl rfl (by kernel_rfl) (by kernel_rfl) (by kernel_rfl) rfl rfl ?_
            refine TA.y (listed' := #[true, true, true, true, true, true, true, true, true, true, true, true, true, true, true, true, false]) 15 [0] rfl (Y.pick_t H15 rfl rfl) (Gd.at 3 false 15 (!R11) rfl rfl rfl (beq_ff H14)) rfl rfl (by kernel_rfl) (by kernel_rfl) (by kernel_rfl) rfl rfl ?_
            refine TA.y (listed' := #[true, true, true, true, true, true, true, true, true, true, true, true, true, true, true, true, true]) 16 [0] rfl (Y.pick_f H14 rfl rfl) rfl rfl rfl (by kernel_rfl) (by kernel_rfl) (by kernel_rfl) rfl rfl ?_
            refine TA.nil (by kernel_rfl) ?_
            exact TE.jb_go () [] ⟨rfl, rfl, rfl, rfl, rfl, trivial⟩ rfl
          · refine TA.off (listed' := #[true, true, true, true, true, true, true, true, false, false, false, false, false, false, false, false, false]) 7 [0] rfl (Gd.at 6 true 18 (decide (S1 > (0 : Int))) rfl rfl rfl (beq_ft H15)) rfl rfl (by kernel_rfl) (by kernel_rfl) (by kernel_rfl) rfl rfl ?_
            refine TA.off (listed' := #[true, true, true, true, true, true, true, true, true, false, false, false, false, false, false, false, false]) 8 [0] rfl (Gd.at 6 true 18 (decide (S1 > (0 : Int))) rfl rfl rfl (beq_ft H15)) rfl rfl (by kernel_rfl) (by kernel_rfl) (by kernel_rfl) rfl rfl ?_
            refine TA.off (listed' := #[true, true, true, true, true, true, true, true, true, true, false, false, false, false, false, false, false]) 9 [0] rfl (Gd.at 6 true 18 (decide (S1 > (0 : Int))) rfl rfl rfl (beq_ft H15)) rfl rfl (by kernel_rfl) (by kernel_rfl) (by kernel_rfl) rfl rfl ?_
            refine TA.off (listed' := #[true, true, true, true, true, true, true, true, true, true, true, false, false, false, false, false, false]) 10 [0] rfl (Gd.at 6 true 18 (decide (S1 > (0 : Int))) rfl rfl rfl (beq_ft H15)) rfl rfl (by kernel_rfl) (by kernel_rfl) (by kernel_rfl) rfl rfl ?_
            refine TA.off (listed' := #[true, true, true, true, true, true, true, true, true, true, true, true, false, false, false, false, false]) 11 [0] rfl (Gd.at 6 true 18 (decide (S1 > (0 : Int))) rfl rfl rfl (beq_ft H15)) rfl rfl (by kernel_rfl) (by kernel_rfl) (by kernel_rfl) rfl rfl ?_
            refine TA.off (listed' := #[true, true, true, true, true, true, true, true, true, true, true, true, true, false, false, false, false]) 12 [0] rfl (Gd.at 6 true 18 (decide (S1 > (0 : Int))) rfl rfl rfl (beq_ft H15)) rfl rfl (by kernel_rfl) (by kernel_rfl) (by kernel_rfl) rfl rfl ?_
            refine TA.off (listed' := #[true, true, true, true, true, true, true, true, true, true, true, true, true, true, false, false, false]) 13 [0] rfl (Gd.at 6 true 18 (decide (S1 > (0 : Int))) rfl rfl rfl (beq_ft H15)) rfl rfl (by kernel_rfl) (by kernel_rfl) (by kernel_rfl) rfl rfl ?_
            refine TA.off (listed' := #[true, true, true, true, true, true, true, true, true, true, true, true, true, true, true, false, false]) 14 [0] rfl (Gd.at 6 true 18 (decide (S1 > (0 : Int))) rfl rfl rfl (beq_ft H15)) rfl rfl (by kernel_rfl) (by kernel_rfl) (by kernel_rfl) rfl rfl ?_
            refine TA.y (listed' := #[true, true, true, true, true, true, true, true, true, true, true, true, true, true, true, true, false]) 15 [0] rfl (Y.pick_f H15 rfl rfl) (Gd.at 3 false 15 (!R11) rfl rfl rfl (beq_ff H14)) rfl rfl (by kernel_rfl) (by kernel_rfl) (by kernel_rfl) rfl rfl ?_
            refine TA.y (listed' := #[true, true, true, true, true, true, true, true, true, true, true, true, true, true, true, true, true]) 16 [0] rfl (Y.pick_f H14 rfl rfl) rfl rfl rfl (by kernel_rfl) (by kernel_rfl) (by kernel_rfl) rfl rfl ?_
            refine TA.nil (by kernel_rfl) ?_
            exact TE.jb_go () [] ⟨rfl, rfl, rfl, rfl, rfl, trivial⟩ rfl
      · refine TE.next ?_
        refine TW.cond rfl (fun H21 => ?_) (fun H21 => ?_)
        · refine TW.seq ?_
          refine TW.region ?_
          refine TO.y (Y.assign rfl) rfl rfl rfl ?_
          refine TO.nil ?_
          refine TE.next ?_
          refine TW.ret ?_
          refine TE.block_ret ?_
          refine TE.then_ret ?_
          refine TE.lp_ret ?_
          refine TE.block_ret ?_
          refine TE.jn_done ?_
          refine TE.then_ret ?_
          exact TE.leaf fun _ _ hf_ hs_ => ret_any (rs := [.tmp 2]) (vs := [.bool false]) (.inl rfl) rfl ⟨rfl, trivial⟩ hf_ hs_ ⟨(), rfl, hs_.pulls [] rfl⟩
        · refine TW.skip ?_
          refine TE.block_normal ?_
          refine TE.next ?_
          refine TW.region ?_
          refine TO.y (Y.add rfl rfl) rfl rfl rfl ?_
          refine TO.y (Y.move rfl) rfl rfl rfl ?_
          refine TO.nil ?_
          exact TE.lp_go () [] ⟨rfl, rfl, rfl, rfl, trivial⟩ rfl
    · refine TW.exit ?_
      refine TE.then_exit ?_
      refine TE.lp_exit ?_
      refine TE.block_exit ?_
      exact TE.jn_go () [] trivial rfl
  · refine TE.next ?_
    refine TW.seq ?_
    refine TW.region ?_
    refine TO.y (Y.assign rfl) rfl rfl rfl ?_
    refine TO.nil ?_
    refine TE.next ?_
    refine TW.ret ?_
    exact TE.leaf fun _ _ hf_ hs_ => ret_any (rs := [.tmp 2]) (vs := [.bool true]) (.inl rfl) rfl ⟨rfl, trivial⟩ hf_ hs_ ⟨(), rfl, hs_.pulls [] rfl⟩

/-- loop.example/g00950/impl.MemOk -/
noncomputable def impl_MemOk (l : List Ent) : Option Bool :=
  (if (decide (((l.length : Nat) : Int) ≤ (60 : Int))) = true then ((impl_inOrder l).bind fun R4 =>
  some R4)
  else (some false)).bind (fun (T1 : Bool) =>
  some T1)

theorem impl_MemOk_con (l : List Ent) (V_l0 : Value) (r : Bool) (hm : impl_MemOk l = some r) :
    Con Try.prog 92 [V_l0] [] [(V_l0, lc l)] (fun _ : Unit => .bool r) (fun _ => []) := by
  refine Con.intro (args := [V_l0]) (n := 10) (val := fun r (_ : Unit) => .bool r) (post := fun _ _ => []) (m := impl_MemOk l) Try.func92 rfl rfl rfl hm ?_
  intro w S hrd
  have HB_V_l0 := hrd _ (.head _)
  clear hrd
  unfold impl_MemOk
  refine TW.seq ?_
  refine TW.region ?_
  refine TO.y (Y.assign rfl) rfl rfl rfl ?_
  refine TO.nil ?_
  refine TE.next ?_
  refine TW.seq ?_
  refine TW.joinBX (τ := Bool) (X := Unit) (fun T _ => [(2, .bool T)]) (fun _ _ => []) ?_ (fun T1 X2 => ?_)
  · refine TW.region ?_
    refine TO.y (Y.move rfl) rfl rfl rfl ?_
    refine TO.y (Y.len (l := l) ke30 (Base.can HB_V_l0) rfl) rfl rfl rfl ?_
    refine TO.y (Y.leq rfl rfl) rfl rfl rfl ?_
    refine TO.y (Y.move rfl) rfl rfl rfl ?_
    refine TO.ite (b := decide (((l.length : Nat) : Int) ≤ (60 : Int))) (fun H3 => ?_) (fun H3 => ?_)
    · refine TO.y (Y.move rfl) (Gd.at 3 true 6 (decide (((l.length : Nat) : Int) ≤ (60 : Int))) rfl rfl rfl (beq_tt H3)) rfl rfl ?_
      refine TO.bind fun R4 H5 => ?_
      refine TO.ef (Ef.call (rest := []) [] (impl_inOrder_con l V_l0 R4 H5) kc94 rfl rfl ⟨(Base.can HB_V_l0), trivial⟩) (Gd.at 3 true 6 (decide (((l.length : Nat) : Int) ≤ (60 : Int))) rfl rfl rfl (beq_tt H3)) rfl rfl (fun _ => ?_)
      refine TO.y (Y.pick_t H3 rfl rfl) rfl rfl rfl ?_
      refine TO.y (Y.assign rfl) rfl rfl rfl ?_
      refine TO.nil ?_
      exact TE.jb_go () [] ⟨rfl, trivial⟩ rfl
    · refine TO.off (Gd.at 3 true 6 (decide (((l.length : Nat) : Int) ≤ (60 : Int))) rfl rfl rfl (beq_ft H3)) rfl rfl ?_
      refine TO.off (Gd.at 3 true 6 (decide (((l.length : Nat) : Int) ≤ (60 : Int))) rfl rfl rfl (beq_ft H3)) rfl rfl ?_
      refine TO.y (Y.pick_f H3 rfl rfl) rfl rfl rfl ?_
      refine TO.y (Y.assign rfl) rfl rfl rfl ?_
      refine TO.nil ?_
      exact TE.jb_go () [] ⟨rfl, trivial⟩ rfl
  · refine TE.next ?_
    refine TW.ret ?_
    exact TE.leaf fun _ _ hf_ hs_ => ret_any (rs := [.tmp 2]) (vs := [.bool T1]) (.inl rfl) rfl ⟨rfl, trivial⟩ hf_ hs_ ⟨(), rfl, hs_.pulls [] rfl⟩

/-- loop.example/g00950/impl.seqRange -/
noncomputable def impl_seqRange (l : List Ent) : Option (Int × Int) :=
  bindC (loopO (fun (S1 : Int × Int × Int) => if (decide (S1.2.2 < ((l.length : Nat) : Int))) = true then ((idx l S1.2.2).bind fun E6 =>
  some (.go (goMin S1.1 E6.Seq, goMax S1.2.1 E6.Seq, IntKind.i64.wrap (S1.2.2 + (1 : Int)))))
  else (some (.done (.go (S1.1, S1.2.1)))))
  ((1000001 : Int), (-1 : Int), (0 : Int)))
  (fun (T3 : Int × Int) => some (T3.1, T3.2))

theorem impl_seqRange_con (l : List Ent) (V_l0 : Value) (r : Int × Int) (hm : impl_seqRange l = some r) :
    Con Try.prog 93 [V_l0] [] [(V_l0, lc l)] (fun _ : Unit => .tuple #[.int .i64 r.1, .int .i64 r.2]) (fun _ => []) := by
  refine Con.intro (args := [V_l0]) (n := 25) (val := fun r (_ : Unit) => .tuple #[.int .i64 r.1, .int .i64 r.2]) (post := fun _ _ => []) (m := impl_seqRange l) Try.func93 rfl rfl rfl hm ?_
  intro w S hrd
  have HB_V_l0 := hrd _ (.head _)
  clear hrd
  unfold impl_seqRange
  refine TW.seq ?_
  refine TW.region ?_
  refine TO.y (Y.assign rfl) rfl rfl rfl ?_
  refine TO.y (Y.assign rfl) rfl rfl rfl ?_
  refine TO.nil ?_
  refine TE.next ?_
  refine TW.seq ?_
  refine TW.region ?_
  refine TO.y (Y.assign rfl) rfl rfl rfl ?_
  refine TO.y (Y.assign rfl) rfl rfl rfl ?_
  refine TO.nil ?_
  refine TE.next ?_
  refine TW.seq ?_
  refine TW.seq ?_
  refine TW.region ?_
  refine TO.y (Y.move rfl) rfl rfl rfl ?_
  refine TO.y (Y.len (l := l) ke30 (Base.can HB_V_l0) rfl) rfl rfl rfl ?_
  refine TO.y (Y.move rfl) rfl rfl rfl ?_
  refine TO.nil ?_
  refine TE.next ?_
  refine TW.joinX (τ := Int × Int) (X := Unit) (fun T _ => [(4, .int .i64 T.1), (5, .int .i64 T.2)]) (fun _ _ => []) ?_ (fun T3 X4 => ?_)
  · refine TW.block ?_
    refine TW.loopX (σ := Int × Int × Int) (X := Unit) (fun T _ => [(4, .int .i64 T.1), (5, .int .i64 T.2.1), (8, V_l0), (9, .int .i64 ((l.length : Nat) : Int)), (10, .int .i64 T.2.2)]) (fun _ _ => []) () [] ⟨rfl, rfl, rfl, rfl, rfl, trivial⟩ rfl (fun S1 X2 => ?_)
    refine TW.seq ?_
    refine TW.region ?_
    refine TO.y (Y.lss rfl rfl) rfl rfl rfl ?_
    refine TO.nil ?_
    refine TE.next ?_
    refine TW.seq ?_
    refine TW.cond rfl (fun H5 => ?_) (fun H5 => ?_)
    · refine TW.skip ?_
      refine TE.next ?_
      refine TW.seq ?_
      refine TW.block ?_
      refine TW.seq ?_
      refine TW.region ?_
      refine TO.bind fun E6 H7 => ?_
      refine TO.y (Y.index ke30 (Base.can HB_V_l0) H7 rfl rfl) rfl rfl rfl ?_
      refine TO.y (Y.load_el (us := [strV E6.Key, .int .i64 E6.Seq, .bool E6.Del, strV E6.Val]) (u := .agg #[strV E6.Key, .int .i64 E6.Seq, .bool E6.Del, strV E6.Val]) kk73 rfl (Base.can HB_V_l0) (idx_get H7).2.2 rfl rfl rfl rfl rfl) rfl rfl rfl ?_
      refine TO.ef (Ef.alloc kz73 rfl) rfl rfl rfl (fun B8 => ?_)
      refine TO.ef0 (Ef.store_box (us := [strV E6.Key, .int .i64 E6.Seq, .bool E6.Del, strV E6.Val]) (vs' := [strV E6.Key, .int .i64 E6.Seq, .bool E6.Del, strV E6.Val]) (is' := [.box B8 73 [strV E6.Key, .int .i64 E6.Seq, .bool E6.Del, strV E6.Val]]) 0 kk73 rfl rfl rfl (Cel.plain rfl rfl) rfl rfl rfl rfl) rfl rfl (fun _ => ?_)
      refine TO.nil ?_
      refine TE.next ?_
      refine TW.draw (isH := [.box B8 73 [strV E6.Key, .int .i64 E6.Seq, .bool E6.Del, strV E6.Val]]) hMix ?_
      refine TA.y (listed' := #[true, false, false, false, false, false, false, false, false, false]) 0 [0] rfl (Y.move rfl) rfl rfl rfl (by kernel_rfl) (by kernel_rfl) (by kernel_rfl) rfl rfl ?_
      refine TA.y (listed' := #[true, true, false, false, false, false, false, false, false, false]) 1 [0] rfl (Y.field_box kf73_1 rfl rfl) rfl rfl rfl (by kernel_rfl) (by kernel_rfl) (by kernel_rfl) rfl rfl ?_
      refine TA.y (listed' := #[true, true, true, false, false, false, false, false, false, false]) 2 [0] rfl (Y.load_box (v := .int .i64 E6.Seq) 0 kk3 rfl rfl rfl) rfl rfl rfl (by kernel_rfl) (by kernel_rfl) (by kernel_rfl) rfl rfl ?_
      refine TA.y (listed' := #[true, true, true, true, false, false, false, false, false, false]) 3 [0] rfl (Y.min2 rfl rfl) rfl rfl rfl (by kernel_rfl) (by kernel_rfl) (by kernel_rfl) rfl rfl ?_
      refine TA.y (listed' := #[true, true, true, true, true, false, false, false, false, false]) 4 [0] rfl (Y.move rfl) rfl rfl rfl (by kernel_rfl) (by kernel_rfl) (by kernel_rfl) rfl rfl ?_
      refine TA.y (listed' := #[true, true, true, true, true, true, false, false, false, false]) 5 [0] rfl (Y.field_box kf73_1 rfl rfl) rfl rfl rfl (by kernel_rfl) (by kernel_rfl) (by kernel_rfl) rfl rfl ?_
      refine TA.y (listed' := #[true, true, true, true, true, true, true, false, false, false]) 6 [0] rfl (Y.load_box (v := .int .i64 E6.Seq) 0 kk3 rfl rfl rfl) rfl rfl rfl (by kernel_rfl) (by kernel_rfl) (by kernel_rfl) rfl rfl ?_
      refine TA.y (listed' := #[true, true, true, true, true, true, true, true, false, false]) 7 [0] rfl (Y.max2 rfl rfl) rfl rfl rfl (by kernel_rfl) (by kernel_rfl) (by kernel_rfl) rfl rfl ?_
      refine TA.y (listed' := #[true, true, true, true, true, true, true, true, true, false]) 8 [0] rfl (Y.assign rfl) rfl rfl rfl (by kernel_rfl) (by kernel_rfl) (by kernel_rfl) rfl rfl ?_
      refine TA.y (listed' := #[true, true, true, true, true, true, true, true, true, true]) 9 [0] rfl (Y.assign rfl) rfl rfl rfl (by kernel_rfl) (by kernel_rfl) (by kernel_rfl) rfl rfl ?_
      refine TA.nil (by kernel_rfl) ?_
      refine TE.block_normal ?_
      refine TE.next ?_
      refine TW.region ?_
      refine TO.y (Y.add rfl rfl) rfl rfl rfl ?_
      refine TO.y (Y.move rfl) rfl rfl rfl ?_
      refine TO.nil ?_
      exact TE.lp_go () [] ⟨rfl, rfl, rfl, rfl, rfl, trivial⟩ rfl
    · refine TW.exit ?_
      refine TE.then_exit ?_
      refine TE.lp_exit ?_
      refine TE.block_exit ?_
      exact TE.jn_go () [] ⟨rfl, rfl, trivial⟩ rfl
  · refine TE.next ?_
    refine TW.seq ?_
    refine TW.region ?_
    refine TO.y (Y.move rfl) rfl rfl rfl ?_
    refine TO.y (Y.move rfl) rfl rfl rfl ?_
    refine TO.y (Y.assign rfl) rfl rfl rfl ?_
    refine TO.y (Y.assign rfl) rfl rfl rfl ?_
    refine TO.nil ?_
    refine TE.next ?_
    refine TW.ret ?_
    exact TE.leaf fun _ _ hf_ hs_ => ret_any (rs := [.tmp 2, .tmp 3]) (vs := [.int .i64 T3.1, .int .i64 T3.2]) (.inl rfl) rfl ⟨rfl, ⟨rfl, trivial⟩⟩ hf_ hs_ ⟨(), rfl, hs_.pulls [] rfl⟩

end Go.Proofs.Ytfanigbmjmiidaa
